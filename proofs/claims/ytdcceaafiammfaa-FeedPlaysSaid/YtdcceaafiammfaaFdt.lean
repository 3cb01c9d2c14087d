import Derived.Test.YtdcceaafiammfaaFds
namespace Go.Proofs.Ytdcceaafiammfaa
open Go.RowKit
set_option linter.unusedVariables false
set_option linter.unusedSimpArgs false
theorem rw_empty {w : World} {base g sz : Nat} {e : TypeId} (h : w.heap[g]? = some (.cells #[] e)) (hg : base ≤ g) : w.ownsRow base e sz (.slice (some ⟨g, 0, none⟩) 0 0) 0 [] :=
  ⟨by simp, .inr ⟨g, 0, #[], rfl, hg, h, Nat.le_refl _, Nat.zero_le _, by simp, by simp⟩⟩
theorem keysC_one (l : List Item) : ∀ u ∈ keysC l, u.oneCell' = true := by
  intro u hu
  unfold keysC at hu
  rw [List.mem_flatMap] at hu
  obtain ⟨x, _, hx⟩ := hu
  simp only [List.mem_cons, List.not_mem_nil, or_false] at hx
  rcases hx with rfl | rfl | rfl <;> rfl
theorem stC_one (l : List Item) : ∀ u ∈ stC l, u.oneCell' = true := by
  intro u hu
  unfold stC at hu
  obtain ⟨x, _, rfl⟩ := List.mem_map.1 hu
  rfl
theorem grow_fin {w W V u : World} {base rb : Nat} {l : List Item} {cov ci : Nat} {ai : Option Addr} {kv : Value} {g cap : Nat} {k s n : ByteArray} (hkeys : V.ownsRow W.heap.size 35 3 kv (l.length + 1) (keysC (l ++ [⟨k, s, n, 0⟩]))) (hK : Kept (fun q => q = rb) w V) (hW : w.heap.size ≤ W.heap.size) (hV : W.heap.size ≤ V.heap.size) (hb : base ≤ w.heap.size) (hrb : rb < w.heap.size)
    (hrow : u.ownsRow V.heap.size 3 1 (.slice (some ⟨g, 0, none⟩) (l.length + 1) cap) (l.length + 1) (stC (l ++ [⟨k, s, n, 0⟩]))) (hbox : u.heap[rb]? = some (.cells #[kv, .slice ai l.length ci, .int .i64 cov] 31)) (hB : Below V.heap.size V u) :
    Ending.returned (.tuple #[]) = .returned (.tuple #[]) ∧ ∃ kv' iv', RefAt (u.setCell ⟨rb, 1, none⟩ (.slice (some ⟨g, 0, none⟩) (l.length + 1) cap)) base rb kv' iv' (l ++ [⟨k, s, n, 0⟩]) cov ∧ Kept (fun q => q = rb) w (u.setCell ⟨rb, 1, none⟩ (.slice (some ⟨g, 0, none⟩) (l.length + 1) cap)) := by
  have el : (l ++ [(⟨k, s, n, 0⟩ : Item)]).length = l.length + 1 := by simp
  have hk : Kept (fun q => q = rb) u (u.setCell ⟨rb, 1, none⟩ (.slice (some ⟨g, 0, none⟩) (l.length + 1) cap)) := (Kept.refl _ u).setCell _ _ (.inl rfl)
  refine ⟨rfl, kv, .slice (some ⟨g, 0, none⟩) (l.length + 1) cap, ⟨heap_setCell_same u rb 1 _ _ _ hbox, ?_, ?_⟩, ?_⟩
  · rw [el]
    have h1 := rw_below hkeys hB
    exact rw_mono (rw_kept h1 hk (fun q hq e => rw_other h1 hbox (by decide) (by rw [← e]; exact hq))) (by omega)
  · rw [el]
    exact rw_mono (rw_kept hrow hk (fun q hq e => rw_other hrow hbox (by decide) (by rw [← e]; exact hq))) (by omega)
  · exact (hK.trans (kept_of_below (X := fun q => q = rb) hB) (fun q hq => .inl hq)).trans hk (fun q hq => .inl hq)
set_option maxRecDepth 100000 in
set_option maxHeartbeats 8000000 in
theorem rgrow_calls {base rb : Nat} {kv iv : Value} {l : List Item} {cov : Nat} (w : World) (h : RefAt w base rb kv iv l cov) (hl : l.length ≤ 1000000) (hbase : base ≤ w.heap.size) (k s n : ByteArray) :
    Calls Try.prog 56 #[.pointer (some ⟨rb, 0, none⟩), .agg #[.string k, .string s, .string n]] w fun e w' => e = .returned (.tuple #[]) ∧ ∃ kv' iv', RefAt w' base rb kv' iv' (l ++ [⟨k, s, n, 0⟩]) cov ∧ Kept (fun q => q = rb) w w' := by
  obtain ⟨ak, ck, ai, ci, rfl, rfl⟩ := h.lens
  have hrb : rb < w.heap.size := blk_lt h.box
  have H := Lib.hid h
  clear h
  go_enter Try.func56, Try.ntmps56
  go_upto_region 1 with fail
  first | with_reducible refine name_wp ?_ | with_reducible refine name_calls ?_
  intro W hWeq
  have g0 : W.heap[w.heap.size]? = some (.cells #[.string k, .string s, .string n] 35) := by rw [hWeq]; repeat (first | (with_reducible exact blk_newAt _ _ (by simp)) | with_reducible refine blk_drew ?_ | with_reducible refine blk_dN ?_ _ | with_reducible refine blk_old ?_ _)
  have hw : Below w.heap.size w W := by rw [hWeq]; repeat (first | with_reducible exact Below.refl _ _ | with_reducible refine Below.drew ?_ | with_reducible refine bl_dN ?_ _ | with_reducible refine Below.alloc ?_ (by simp <;> omega) _)
  clear hWeq
  have hz : w.heap.size + 1 ≤ W.heap.size := by have := blk_lt g0; omega
  have c0_0 : W.cell? ⟨w.heap.size, 0, none⟩ = some (.string k) := blk_cell g0 0
  have c0_1 : W.cell? ⟨w.heap.size, 1, none⟩ = some (.string s) := blk_cell g0 1
  have c0_2 : W.cell? ⟨w.heap.size, 2, none⟩ = some (.string n) := blk_cell g0 2
  have f0 : ∀ j, W.frozen? ⟨w.heap.size, j, none⟩ = false := blk_free g0
  have hB : Below W.heap.size W W := Below.refl _ _
  have G0 := Lib.hid g0; clear g0
  have F0 := Lib.hid f0; clear f0
  have Hw := Lib.hid hw; clear hw
  have HR := Lib.hid (H.out.below Hw.out)
  have c0 := blk_cell HR.out.box 0
  have c1 := blk_cell HR.out.box 1
  have cf := blk_free HR.out.box 0
  have hWz : w.heap.size ≤ W.heap.size := Hw.out.size
  have hrW : rb < W.heap.size := by omega
  go_cut [] from 4 to 15 (fun wc => ∃ kv', (wc.heap[rb]? = some (.cells #[kv', .slice ai l.length ci, .int .i64 cov] 31) ∧ wc.ownsRow W.heap.size 35 3 kv' (l.length + 1) (keysC (l ++ [⟨k, s, n, 0⟩]))) ∧ Kept (fun q => q = rb) W wc)
  case first =>
    obtain ⟨i0, hi, hz0, hz1, hz2⟩ := info_parts info_key
    have hB := hB.drew
    refine region_tree (fun w' => Below W.heap.size W w') 12 (.take 0 (.take 2 (.take 3 (.take 4 (.take 5 (.take 7 (.two 1 (.two 6 (.one 8 (.one 9 (.take 10 (.take 11 (.one 12 .done))))) 8 (.one 6 (.one 9 (.take 10 (.take 11 (.one 12 .done)))))) 8 (.one 1 (.one 6 (.one 9 (.take 10 (.take 11 (.one 12 .done))))))))))))) (by kernel_rfl) (by kernel_rfl) hB ?_
    try generalize World.drew _ = wS at hB ⊢
    refine tl_take (v := ?_) (a' := ?_) (some 4) rfl rfl (by rfl) ?_ ?_ ?_
    rotate_left; rotate_left
    · intro w' hS; go_simp; with_reducible rfl
    · simp only [Act.put, List.setIfInBounds_toArray, List.set_cons_zero, List.set_cons_succ]; rfl
    refine tl_take (v := ?_) (a' := ?_) (some 6) rfl rfl (by rfl) ?_ ?_ ?_
    rotate_left; rotate_left
    · intro w' hS; go_simp; with_reducible rfl
    · simp only [Act.put, List.setIfInBounds_toArray, List.set_cons_zero, List.set_cons_succ]; rfl
    refine tl_take (v := ?_) (a' := ?_) (some 7) rfl rfl (by rfl) ?_ ?_ ?_
    rotate_left; rotate_left
    · intro w' hS; go_simp; with_reducible rfl
    · simp only [Act.put, List.setIfInBounds_toArray, List.set_cons_zero, List.set_cons_succ]; rfl
    refine tl_take (v := ?_) (a' := ?_) (some 8) rfl rfl (by rfl) ?_ ?_ ?_
    rotate_left; rotate_left
    · intro w' hS; go_simp; with_reducible rfl
    · simp only [Act.put, List.setIfInBounds_toArray, List.set_cons_zero, List.set_cons_succ]; rfl
    refine tl_take (v := ?_) (a' := ?_) (some 9) rfl rfl (by rfl) ?_ ?_ ?_
    rotate_left; rotate_left
    · intro w' hS; have q0 := cb hS c0; have q1 := cb hS c0_0; have q2 := cb hS c0_1; have q3 := cb hS c0_2; go_simp; with_reducible rfl
    · simp only [Act.put, List.setIfInBounds_toArray, List.set_cons_zero, List.set_cons_succ]; rfl
    refine tl_take (v := ?_) (a' := ?_) (some 11) rfl rfl (by rfl) ?_ ?_ ?_
    rotate_left; rotate_left
    · intro w' hS; have q0 := cb hS c0; have q1 := cb hS c0_0; have q2 := cb hS c0_1; have q3 := cb hS c0_2; go_simp; with_reducible rfl
    · simp only [Act.put, List.setIfInBounds_toArray, List.set_cons_zero, List.set_cons_succ]; rfl
    refine tl_two ?_ ?_
    · refine st_new (some 5) rfl rfl (by rfl) ?_
      apply Exists.intro; apply Exists.intro; apply And.intro
      · go_simp; first | exact ⟨rfl, rfl⟩ | rfl
      apply Exists.intro; apply And.intro
      · simp only [Act.put, List.setIfInBounds_toArray, List.set_cons_zero, List.set_cons_succ]; rfl
      intro u1 g1 hb hlt
      have hp1 := hB.size
      have hB := bl_next hB hb
      have G1 := Lib.hid g1; clear g1
      have oA := G1; clear G1; (try (have oC' := Lib.hid (blk_below oC.out hb); clear oC; have oC := oC'; clear oC'))
      clear hb
      refine ⟨hB, ?_⟩
      refine tl_two ?_ ?_
      · refine st_res (some 10) rfl rfl (by rfl) (app_row_R (.tmp 5) (.tmp 9) _ rfl W.heap.size _ i0 _ 3 48 Try.underlying28 hi hz0 hz1 hz2 rfl (by decide) _ 0 [] rfl (rw_empty oA.out hp1) _ base l.length (keysC l) rfl (rw_below HR.out.keys hB) (keysC_one l) hB.size (by omega) (by decide)) ?_
        rintro v6 u6 ⟨hrow, hk, hat⟩; have oB := Lib.hid (show u6.ownsRow W.heap.size 35 3 v6 l.length (keysC l) by simpa using hrow); (try (have oC' := Lib.hid (hk.heap oC.out (fun e => heap_ne (cs := #[]) oA.out (.inr ⟨_, #[_], oC.out⟩) (Option.some.inj e))); clear oC; have oC := oC'; clear oC')); have hB := hB.trans (hk.below hB.size (fun q hq => (rw_type (rw_empty (sz := 3) oA.out hp1) hq).1)); clear hrow hk hat oA
        refine ⟨hB, ?_⟩
        simp only [Act.put, List.setIfInBounds_toArray, List.set_cons_zero, List.set_cons_succ]
        refine tl_one ?_
        refine st_new (some 12) rfl rfl (by rfl) ?_
        apply Exists.intro; apply Exists.intro; apply And.intro
        · go_simp; first | exact ⟨rfl, rfl⟩ | rfl
        apply Exists.intro; apply And.intro
        · simp only [Act.put, List.setIfInBounds_toArray, List.set_cons_zero, List.set_cons_succ]; rfl
        intro u8 g8 hb hlt
        have hp8 := hB.size
        have hB := bl_next hB hb
        have G8 := Lib.hid g8; clear g8
        have oC := G8; clear G8; (try (have oA' := Lib.hid (blk_below oA.out hb); clear oA; have oA := oA'; clear oA')); (try (have oB' := Lib.hid (rw_below oB.out hb); clear oB; have oB := oB'; clear oB'))
        clear hb
        refine ⟨hB, ?_⟩
        refine tl_one ?_
        refine st_res (some 13) rfl rfl (by rfl) (app_rw_R (.tmp 10) (.tmp 12) _ rfl W.heap.size _ i0 _ 3 48 Try.underlying28 hi hz0 hz1 hz2 rfl (by decide) _ l.length (keysC l) [.string k, .string s, .string n] rfl oB.out _ 1 rfl oC.out rfl (by simp [Value.oneCell']) hB.size (by omega) (by decide)) ?_
        rintro v9 u9 ⟨g9, cap9, rfl, hrow, hk, hat⟩; have oD := Lib.hid hrow; have hB := hB.trans (hk.below hB.size (fun q hq => (rw_type oB.out hq).1)); have z0 := cb hB c0; have z1 := fzb hB (lt_of_cell c0) cf; clear hrow hk hat oB oC
        refine ⟨hB, ?_⟩
        simp only [Act.put, List.setIfInBounds_toArray, List.set_cons_zero, List.set_cons_succ]
        refine tl_take (v := ?_) (a' := ?_) (some 14) rfl rfl (by rfl) ?_ ?_ ?_
        rotate_left; rotate_left
        · intro w' hS; go_simp; with_reducible rfl
        · simp only [Act.put, List.setIfInBounds_toArray, List.set_cons_zero, List.set_cons_succ]; rfl
        refine tl_take (v := ?_) (a' := ?_) (some 15) rfl rfl (by rfl) ?_ ?_ ?_
        rotate_left; rotate_left
        · intro w' hS; go_simp; with_reducible rfl
        · simp only [Act.put, List.setIfInBounds_toArray, List.set_cons_zero, List.set_cons_succ]; rfl
        refine tl_one ?_
        refine st_last none rfl rfl (by rfl) ?_
        apply Exists.intro; apply And.intro
        · go_simp; first | exact ⟨rfl, rfl⟩ | rfl
        apply Exists.intro; apply And.intro
        · simp only [Act.put, List.setIfInBounds_toArray, List.set_cons_zero, List.set_cons_succ]; rfl
        refine tl_done ?_
        go_wp2_with fail
        go_meet
        have hbox := blk_below HR.out.box hB
        rw [show keysC l ++ [Value.string k, .string s, .string n] = keysC (l ++ [⟨k, s, n, 0⟩]) from keysC_app l ⟨k, s, n, 0⟩] at oD
        exact ⟨_, ⟨heap_setCell_same _ rb 0 _ _ _ hbox, rw_kept oD.out (X := fun q => q = rb) ((Kept.refl _ _).setCell _ _ (.inl rfl)) (fun q hq e => rw_other oD.out hbox (by decide) (by rw [← e]; exact hq))⟩, (kept_of_below hB).setCell _ _ (.inl rfl)⟩
      · refine st_new (some 12) rfl rfl (by rfl) ?_
        apply Exists.intro; apply Exists.intro; apply And.intro
        · go_simp; first | exact ⟨rfl, rfl⟩ | rfl
        apply Exists.intro; apply And.intro
        · simp only [Act.put, List.setIfInBounds_toArray, List.set_cons_zero, List.set_cons_succ]; rfl
        intro u8 g8 hb hlt
        have hp8 := hB.size
        have hB := bl_next hB hb
        have G8 := Lib.hid g8; clear g8
        have oC := G8; clear G8; (try (have oA' := Lib.hid (blk_below oA.out hb); clear oA; have oA := oA'; clear oA')); (try (have oB' := Lib.hid (rw_below oB.out hb); clear oB; have oB := oB'; clear oB'))
        clear hb
        refine ⟨hB, ?_⟩
        refine tl_one ?_
        refine st_res (some 10) rfl rfl (by rfl) (app_row_R (.tmp 5) (.tmp 9) _ rfl W.heap.size _ i0 _ 3 48 Try.underlying28 hi hz0 hz1 hz2 rfl (by decide) _ 0 [] rfl (rw_empty oA.out hp1) _ base l.length (keysC l) rfl (rw_below HR.out.keys hB) (keysC_one l) hB.size (by omega) (by decide)) ?_
        rintro v6 u6 ⟨hrow, hk, hat⟩; have oB := Lib.hid (show u6.ownsRow W.heap.size 35 3 v6 l.length (keysC l) by simpa using hrow); (try (have oC' := Lib.hid (hk.heap oC.out (fun e => heap_ne (cs := #[]) oA.out (.inr ⟨_, #[_], oC.out⟩) (Option.some.inj e))); clear oC; have oC := oC'; clear oC')); have hB := hB.trans (hk.below hB.size (fun q hq => (rw_type (rw_empty (sz := 3) oA.out hp1) hq).1)); clear hrow hk hat oA
        refine ⟨hB, ?_⟩
        simp only [Act.put, List.setIfInBounds_toArray, List.set_cons_zero, List.set_cons_succ]
        refine tl_one ?_
        refine st_res (some 13) rfl rfl (by rfl) (app_rw_R (.tmp 10) (.tmp 12) _ rfl W.heap.size _ i0 _ 3 48 Try.underlying28 hi hz0 hz1 hz2 rfl (by decide) _ l.length (keysC l) [.string k, .string s, .string n] rfl oB.out _ 1 rfl oC.out rfl (by simp [Value.oneCell']) hB.size (by omega) (by decide)) ?_
        rintro v9 u9 ⟨g9, cap9, rfl, hrow, hk, hat⟩; have oD := Lib.hid hrow; have hB := hB.trans (hk.below hB.size (fun q hq => (rw_type oB.out hq).1)); have z0 := cb hB c0; have z1 := fzb hB (lt_of_cell c0) cf; clear hrow hk hat oB oC
        refine ⟨hB, ?_⟩
        simp only [Act.put, List.setIfInBounds_toArray, List.set_cons_zero, List.set_cons_succ]
        refine tl_take (v := ?_) (a' := ?_) (some 14) rfl rfl (by rfl) ?_ ?_ ?_
        rotate_left; rotate_left
        · intro w' hS; go_simp; with_reducible rfl
        · simp only [Act.put, List.setIfInBounds_toArray, List.set_cons_zero, List.set_cons_succ]; rfl
        refine tl_take (v := ?_) (a' := ?_) (some 15) rfl rfl (by rfl) ?_ ?_ ?_
        rotate_left; rotate_left
        · intro w' hS; go_simp; with_reducible rfl
        · simp only [Act.put, List.setIfInBounds_toArray, List.set_cons_zero, List.set_cons_succ]; rfl
        refine tl_one ?_
        refine st_last none rfl rfl (by rfl) ?_
        apply Exists.intro; apply And.intro
        · go_simp; first | exact ⟨rfl, rfl⟩ | rfl
        apply Exists.intro; apply And.intro
        · simp only [Act.put, List.setIfInBounds_toArray, List.set_cons_zero, List.set_cons_succ]; rfl
        refine tl_done ?_
        go_wp2_with fail
        go_meet
        have hbox := blk_below HR.out.box hB
        rw [show keysC l ++ [Value.string k, .string s, .string n] = keysC (l ++ [⟨k, s, n, 0⟩]) from keysC_app l ⟨k, s, n, 0⟩] at oD
        exact ⟨_, ⟨heap_setCell_same _ rb 0 _ _ _ hbox, rw_kept oD.out (X := fun q => q = rb) ((Kept.refl _ _).setCell _ _ (.inl rfl)) (fun q hq e => rw_other oD.out hbox (by decide) (by rw [← e]; exact hq))⟩, (kept_of_below hB).setCell _ _ (.inl rfl)⟩
    · refine st_new (some 12) rfl rfl (by rfl) ?_
      apply Exists.intro; apply Exists.intro; apply And.intro
      · go_simp; first | exact ⟨rfl, rfl⟩ | rfl
      apply Exists.intro; apply And.intro
      · simp only [Act.put, List.setIfInBounds_toArray, List.set_cons_zero, List.set_cons_succ]; rfl
      intro u8 g8 hb hlt
      have hp8 := hB.size
      have hB := bl_next hB hb
      have G8 := Lib.hid g8; clear g8
      have oC := G8; clear G8; (try (have oA' := Lib.hid (blk_below oA.out hb); clear oA; have oA := oA'; clear oA')); (try (have oB' := Lib.hid (rw_below oB.out hb); clear oB; have oB := oB'; clear oB'))
      clear hb
      refine ⟨hB, ?_⟩
      refine tl_one ?_
      refine st_new (some 5) rfl rfl (by rfl) ?_
      apply Exists.intro; apply Exists.intro; apply And.intro
      · go_simp; first | exact ⟨rfl, rfl⟩ | rfl
      apply Exists.intro; apply And.intro
      · simp only [Act.put, List.setIfInBounds_toArray, List.set_cons_zero, List.set_cons_succ]; rfl
      intro u1 g1 hb hlt
      have hp1 := hB.size
      have hB := bl_next hB hb
      have G1 := Lib.hid g1; clear g1
      have oA := G1; clear G1; (try (have oC' := Lib.hid (blk_below oC.out hb); clear oC; have oC := oC'; clear oC'))
      clear hb
      refine ⟨hB, ?_⟩
      refine tl_one ?_
      refine st_res (some 10) rfl rfl (by rfl) (app_row_R (.tmp 5) (.tmp 9) _ rfl W.heap.size _ i0 _ 3 48 Try.underlying28 hi hz0 hz1 hz2 rfl (by decide) _ 0 [] rfl (rw_empty oA.out hp1) _ base l.length (keysC l) rfl (rw_below HR.out.keys hB) (keysC_one l) hB.size (by omega) (by decide)) ?_
      rintro v6 u6 ⟨hrow, hk, hat⟩; have oB := Lib.hid (show u6.ownsRow W.heap.size 35 3 v6 l.length (keysC l) by simpa using hrow); (try (have oC' := Lib.hid (hk.heap oC.out (fun e => heap_ne (cs := #[]) oA.out (.inr ⟨_, #[_], oC.out⟩) (Option.some.inj e))); clear oC; have oC := oC'; clear oC')); have hB := hB.trans (hk.below hB.size (fun q hq => (rw_type (rw_empty (sz := 3) oA.out hp1) hq).1)); clear hrow hk hat oA
      refine ⟨hB, ?_⟩
      simp only [Act.put, List.setIfInBounds_toArray, List.set_cons_zero, List.set_cons_succ]
      refine tl_one ?_
      refine st_res (some 13) rfl rfl (by rfl) (app_rw_R (.tmp 10) (.tmp 12) _ rfl W.heap.size _ i0 _ 3 48 Try.underlying28 hi hz0 hz1 hz2 rfl (by decide) _ l.length (keysC l) [.string k, .string s, .string n] rfl oB.out _ 1 rfl oC.out rfl (by simp [Value.oneCell']) hB.size (by omega) (by decide)) ?_
      rintro v9 u9 ⟨g9, cap9, rfl, hrow, hk, hat⟩; have oD := Lib.hid hrow; have hB := hB.trans (hk.below hB.size (fun q hq => (rw_type oB.out hq).1)); have z0 := cb hB c0; have z1 := fzb hB (lt_of_cell c0) cf; clear hrow hk hat oB oC
      refine ⟨hB, ?_⟩
      simp only [Act.put, List.setIfInBounds_toArray, List.set_cons_zero, List.set_cons_succ]
      refine tl_take (v := ?_) (a' := ?_) (some 14) rfl rfl (by rfl) ?_ ?_ ?_
      rotate_left; rotate_left
      · intro w' hS; go_simp; with_reducible rfl
      · simp only [Act.put, List.setIfInBounds_toArray, List.set_cons_zero, List.set_cons_succ]; rfl
      refine tl_take (v := ?_) (a' := ?_) (some 15) rfl rfl (by rfl) ?_ ?_ ?_
      rotate_left; rotate_left
      · intro w' hS; go_simp; with_reducible rfl
      · simp only [Act.put, List.setIfInBounds_toArray, List.set_cons_zero, List.set_cons_succ]; rfl
      refine tl_one ?_
      refine st_last none rfl rfl (by rfl) ?_
      apply Exists.intro; apply And.intro
      · go_simp; first | exact ⟨rfl, rfl⟩ | rfl
      apply Exists.intro; apply And.intro
      · simp only [Act.put, List.setIfInBounds_toArray, List.set_cons_zero, List.set_cons_succ]; rfl
      refine tl_done ?_
      go_wp2_with fail
      go_meet
      have hbox := blk_below HR.out.box hB
      rw [show keysC l ++ [Value.string k, .string s, .string n] = keysC (l ++ [⟨k, s, n, 0⟩]) from keysC_app l ⟨k, s, n, 0⟩] at oD
      exact ⟨_, ⟨heap_setCell_same _ rb 0 _ _ _ hbox, rw_kept oD.out (X := fun q => q = rb) ((Kept.refl _ _).setCell _ _ (.inl rfl)) (fun q hq e => rw_other oD.out hbox (by decide) (by rw [← e]; exact hq))⟩, (kept_of_below hB).setCell _ _ (.inl rfl)⟩
  case rest =>
    obtain ⟨kv', ⟨hbox, hkeys⟩, hK⟩ := hcut
    obtain ⟨V, rfl⟩ : ∃ V : World, V = wc := ⟨_, rfl⟩
    obtain ⟨ak', ck', rfl⟩ := rw_form hkeys
    have c1 := blk_cell hbox 1
    have cf := blk_free hbox 1
    have HI := Lib.hid (rw_kept HR.out.is hK (fun q hq e => rw_other HR.out.is HR.out.box (by decide) (by rw [← e]; exact hq)))
    have HBX := Lib.hid hbox
    have HKY := Lib.hid hkeys
    have hVz : W.heap.size ≤ V.heap.size := hK.size
    have HKK := Lib.hid ((kept_of_below (X := fun q => q = rb) Hw.out).trans hK (fun q hq => .inl hq))
    have hB := Below.refl V.heap.size V
    obtain ⟨i0, hi, hz0, hz1, hz2⟩ := info_parts info_int
    clear hbox hkeys hK
    have hrV : rb < V.heap.size := by omega
    have HE : Hid ((V.alloc (.cells #[] 3)).ownsRow V.heap.size 3 1 (.slice (some ⟨V.heap.size, 0, none⟩) 0 0) 0 []) := Lib.hid (rw_empty (blk_new V _) (Nat.le_refl _))
    have HI2 := Lib.hid (rw_below HI.out ((Below.refl V.heap.size V).alloc (Nat.le_refl _) (.cells #[] 3)))
    have hB1 := Lib.hid ((Below.refl V.heap.size V).alloc (Nat.le_refl _) (.cells #[] 3))
    go_wp2_with (first | (at_builtin; refine app_row rfl (.tmp 17) (.tmp 21) _ rfl V.heap.size _ i0 _ 1 8 Try.underlying29 hi hz0 hz1 hz2 rfl (by decide) _ 0 [] rfl HE.out _ base l.length (stC l) rfl HI2.out (stC_one l) (by simp) (by omega) (by decide) ?_; rintro v6 u6 hrow hk hat; have oB := Lib.hid (show u6.ownsRow V.heap.size 3 1 v6 l.length (stC l) by simpa using hrow); have hB := hB1.out.trans (hk.below (by simp) (fun q hq => (rw_type HE.out hq).1)); have hz6 := hB.size; clear hrow hk hat) | (at_builtin; refine apr_int rfl (.tmp 22) (.tmp 23) rfl V.heap.size 3 _ l.length (stC l) 0 rfl oB.out 1 rfl hz6 (by omega) ?_; intro g9 cap9 u9 hrow hk hat; have oD := Lib.hid hrow; have hB := hB.trans (hk.below hB.size (fun q hq => (rw_type oB.out hq).1)); have z0 := cb hB c1; have z1 := fzb hB (lt_of_cell c1) cf; clear hrow hk hat oB))
    refine bodyPost_end (v := .tuple #[]) (by simp [results, Try.results56, go_sem]) rfl ?_
    have hbx := blk_below HBX.out hB
    rw [show stC l ++ [Value.int .i64 0] = stC (l ++ [⟨k, s, n, 0⟩]) from stC_app l ⟨k, s, n, 0⟩] at oD
    have el : (l ++ [(⟨k, s, n, 0⟩ : Item)]).length = l.length + 1 := by simp
    exact grow_fin HKY.out HKK.out hWz hVz hbase hrb oD.out hbx hB
end Go.Proofs.Ytdcceaafiammfaa
