import Derived.Test.YthhfcambdmdgfaaKspaj
import Derived.Test.YthhfcambdmdgfaaKspai
namespace Go.Proofs.Ythhfcambdmdgfaa
open Go.RowKit Go.Maps Srt
set_option linter.unusedVariables false
set_option linter.unusedSimpArgs false
theorem lg_one {RL : List LX} (h : ∀ e ∈ RL, ∃ A n c, e.2.2 = .slice A n c) : ∀ y ∈ lgC RL, y.oneCell' = true := by
  intro y hy
  obtain ⟨e, he, h2⟩ := List.mem_flatMap.1 hy
  obtain ⟨A, n, c, h3⟩ := h e he
  obtain ⟨kd, o, so⟩ := e
  simp only at h3
  subst h3
  simp [lgX, objX] at h2
  rcases h2 with rfl | rfl | rfl | rfl | rfl | rfl | rfl | rfl | rfl | rfl | rfl <;> simp [Value.oneCell']
theorem rw_empty9 {w : World} {base g sz : Nat} {e : TypeId} (h : w.heap[g]? = some (.cells #[] e)) (hg : base ≤ g) : w.ownsRow base e sz (.slice (some ⟨g, 0, none⟩) 0 0) 0 [] :=
  ⟨by simp, .inr ⟨g, 0, #[], rfl, hg, h, Nat.le_refl _, Nat.zero_le _, by simp, by simp⟩⟩
theorem RefS9.kept {w w' W : World} {base mp g : Nat} {v : Value} {RL : List LX} {cs : Array Value} (h : RefS9 w W base mp v RL) (hk : Kept (fun k => k = g) w w') (hne : mp ≠ g) (hg : w.heap[g]? = some (.cells cs 27)) : RefS9 w' W base mp v RL :=
  ⟨hk.heap h.cell hne, rw_kept h.row hk (fun k e q => by subst q; exact rw_other h.row hg (by decide) e), h.args, h.small, h.ge⟩
def RAct9 (w W : World) (base mp : Nat) (RL : List LX) (kd : Int) (o : ObjD) (sl : Value) (er : Int) (e : Ending) (w' : World) : Prop :=
  (er ≠ 0 ∧ e = .returned (.tuple #[.int .i64 0, .int .i64 er]) ∧ Below w.heap.size w w') ∨
  (er = 0 ∧ ∃ v', e = .returned (.tuple #[.int .i64 ((RL.length : Int) + 1), .int .i64 0]) ∧ RefS9 w' W base mp v' (RL ++ [(kd, ({ o with ver := (RL.length : Int) + 1 }, sl))]) ∧ (∀ k, v'.ownBlock = some k → w.heap.size ≤ k) ∧ Kept (fun k => k = mp) w w')
theorem rget9_calls (w : World) {W : World} {base mp : Nat} {v : Value} {RL : List LX} (h : RefS9 w W base mp v RL) (hW : Below W.heap.size W w) (hl : RL.length ≤ 60) {l : List (Int × ObjD)} (hle : lxOf RL = l) (hT : ToldL l) (K : KS) {kk : KeyD} (hk : K.1 = kk) :
    Calls Try.prog 33 #[.pointer (some ⟨mp, 0, none⟩), .agg #[.string kk.kind, .string kk.space, .string kk.name]] w fun e w' => ∃ sl, e = .returned (.tuple #[objV (obA (runL l).1 K) sl, .bool (hasA (runL l).1 K)]) ∧ ObjS w' sl (obA (runL l).1 K) ∧ Below w.heap.size w w' := by
  subst hk
  have hn : RunI (runL l) l.length := by have := runI hT l.length (Nat.le_refl _); rwa [List.take_length] at this
  have h1 := rget9_walk w h hW (by omega) hle K.1
  rw [live_run hT, find_run hn.inv K] at h1
  exact h1
theorem ref9_done {w u U : World} {W : World} {base mp : Nat} {v v3 : Value} {RL : List LX} {kd : Int} {o : ObjD} {sl : Value} (h : RefS9 w W base mp v RL) (hb : Below w.heap.size w u) (hr : u.ownsRow w.heap.size 30 11 v3 (RL.length + 1) (lgC (RL ++ [(kd, (o, sl))]))) (hbase : base ≤ w.heap.size) (hs : ObjS W sl o ∧ objSmall o) (hU : U = u.setCell ⟨mp, 0, none⟩ v3) :
    RefS9 U W base mp v3 (RL ++ [(kd, (o, sl))]) ∧ Kept (fun k => k = mp) w U := by
  subst hU
  have hc := blk_below h.cell hb
  have hk : Kept (fun k => k = mp) u (u.setCell ⟨mp, 0, none⟩ v3) := (Kept.refl _ _).setCell _ _ (.inl rfl)
  refine ⟨⟨heap_setCell_same _ mp 0 _ _ _ hc, ?_, fun e he => ?_, fun e he => ?_, h.ge⟩, (kept_of_below (X := fun k => k = mp) hb).trans hk (fun _ q => .inl q)⟩
  · rw [List.length_append, List.length_singleton]
    exact rw_kept (rw_mono hr hbase) hk (fun k e q => by subst q; exact rw_other hr hc (by decide) e)
  · rcases List.mem_append.1 he with r | r
    · exact h.args e r
    · obtain rfl := List.mem_singleton.1 r; exact hs.1
  · rcases List.mem_append.1 he with r | r
    · exact h.small e r
    · obtain rfl := List.mem_singleton.1 r; exact hs.2
set_option maxRecDepth 100000 in
set_option maxHeartbeats 16000000 in
theorem rput9_calls (w : World) {W : World} {base mp : Nat} {v : Value} {RL : List LX} (h : RefS9 w W base mp v RL) (hW : Below W.heap.size W w) (hbase : base ≤ w.heap.size) (hl : RL.length ≤ 60) {l : List (Int × ObjD)} (hle : lxOf RL = l) (hT : ToldL l) {o : ObjD} {sl : Value} (ho : ObjS W sl o) (hs : objSmall o) (K : KS) (hK : K.1 = o.key) :
    Calls Try.prog 31 #[.pointer (some ⟨mp, 0, none⟩), objV o sl] w (RAct9 w W base mp RL 0 o sl (if rightO { o with ver := 1 } then 0 else 1)) := by
  have HR := Lib.hid h; have HW := Lib.hid hW; have HBS := Lib.hid hbase; have HO := Lib.hid ho; have HS := Lib.hid hs
  have HLV := Lib.hid (fun (U : World) (hb : Below w.heap.size w U) => rlive_calls U (h.below hb) (bl_next hW hb) (by omega) hle)
  have HGT := Lib.hid (fun (U : World) (hb : Below w.heap.size w U) => rget9_calls U (h.below hb) (bl_next hW hb) hl hle hT K hK)
  have HLN := Lib.hid (show (srtX kTO (liveN l l.length)).length < 1000 by
    rw [srtX_len]
    have h1 := liveN_len l l.length
    have h2 : l.length = RL.length := by rw [← hle]; simp [lxOf]
    omega)
  generalize srtX kTO (liveN l l.length) = S at HLV HLN
  obtain ⟨og, hog⟩ : ∃ z, obA (runL l).1 K = z := ⟨_, rfl⟩
  obtain ⟨ig, hig⟩ : ∃ z, hasA (runL l).1 K = z := ⟨_, rfl⟩
  rw [hog, hig] at HGT
  obtain ⟨ao, co, rfl⟩ := ho.1.form
  obtain ⟨A, c, rfl⟩ := rw_form h.row
  have HL1 := Lib.hid (show RL.length ≤ 1000000 by omega)
  have HL6 := Lib.hid hl
  have HRI := Lib.hid (fun (U : World) (hb : Below w.heap.size w U) => roright_calls U (sl := .slice ao o.charge.length co) (o := { o with ver := 1 }) ⟨(ho.below (bl_next hW hb)).1, (show in64 1 by unfold in64; omega)⟩ hs)
  obtain ⟨rb, hrb⟩ : ∃ z, rightO { o with ver := 1 } = z := ⟨_, rfl⟩
  rw [hrb] at HRI ⊢
  have HONE := Lib.hid (lg_one (RL := RL) (fun e he => by obtain ⟨a, c, q⟩ := (h.args e he).1.form; exact ⟨a, _, c, q⟩))
  have hmp := blk_lt h.cell
  clear h hW hbase hl hle hT ho hs hog hig hrb hK
  unfold objV at HRI ⊢
  go_enter Try.func31, Try.ntmps31
  go_upto_region 3 with fail
  first | with_reducible refine name_wp ?_ | with_reducible refine name_calls ?_
  intro V1 hV
  have g3 : V1.heap[w.heap.size]? = some (.cells #[.string o.key.kind, .string o.key.space, .string o.key.name, .int .i64 o.ver, .string o.cls, .bool o.term, .bool o.best, .slice ao o.charge.length co] 27) := by rw [hV]; exact blk_old (blk_new w _) _
  have g6 : V1.heap[w.heap.size + 1]? = some (.cells #[.string o.key.kind, .string o.key.space, .string o.key.name, .int .i64 1, .string o.cls, .bool o.term, .bool o.best, .slice ao o.charge.length co] 27) := by rw [hV]; exact blk_new1 w _ _
  have hbV : Below w.heap.size w V1 := by rw [hV]; exact ((Below.refl _ _).alloc (Nat.le_refl _) _).alloc (by simp) _
  clear hV
  have H3 := Lib.hid g3; have H6 := Lib.hid g6; have HBV := Lib.hid hbV
  have x0 : V1.cell? ⟨w.heap.size + 1, 0, none⟩ = some (.string o.key.kind) := blk_cell g6 0
  have x1 : V1.cell? ⟨w.heap.size + 1, 1, none⟩ = some (.string o.key.space) := blk_cell g6 1
  have x2 : V1.cell? ⟨w.heap.size + 1, 2, none⟩ = some (.string o.key.name) := blk_cell g6 2
  have x3 : V1.cell? ⟨w.heap.size + 1, 3, none⟩ = some (.int .i64 1) := blk_cell g6 3
  have x4 : V1.cell? ⟨w.heap.size + 1, 4, none⟩ = some (.string o.cls) := blk_cell g6 4
  have x5 : V1.cell? ⟨w.heap.size + 1, 5, none⟩ = some (.bool o.term) := blk_cell g6 5
  have x6 : V1.cell? ⟨w.heap.size + 1, 6, none⟩ = some (.bool o.best) := blk_cell g6 6
  have x7 : V1.cell? ⟨w.heap.size + 1, 7, none⟩ = some (.slice ao o.charge.length co) := blk_cell g6 7
  clear g3 g6 hbV
  go_upto_region 4 with (go_at_call 61; refine (HRI.out V1 HBV.out).mono ?_; rintro e w1 ⟨rfl, hb⟩; have HB1 := Lib.hid (bl_from HBV.out hb); have H31 := Lib.hid (blk_below H3.out hb); have H61 := Lib.hid (blk_below H6.out hb); clear hb)
  clear x0 x1 x2 x3 x4 x5 x6 x7
  cases rb with
  | false =>
    go_wp2_with fail
    refine bodyPost_ret (v := .tuple #[.int .i64 0, .int .i64 1]) (by simp [results, Try.results31, go_sem]) rfl ?_
    exact .inl ⟨by decide, rfl, HB1.out⟩
  | true =>
    have k0 : w1.cell? ⟨w.heap.size, 0, none⟩ = some (.string o.key.kind) := blk_cell H31.out 0
    have k1 : w1.cell? ⟨w.heap.size, 1, none⟩ = some (.string o.key.space) := blk_cell H31.out 1
    have k2 : w1.cell? ⟨w.heap.size, 2, none⟩ = some (.string o.key.name) := blk_cell H31.out 2
    go_upto_region 7 with (go_at_call 33; refine (HGT.out w1 HB1.out).mono ?_; rintro e w2 ⟨sg, rfl, hsg, hb⟩; obtain ⟨ag, cg, rfl⟩ := hsg.1.form; have HB2 := Lib.hid (bl_from HB1.out hb); have H62 := Lib.hid (blk_below H61.out hb); clear hb hsg; unfold objV)
    clear k0 k1 k2
    first | with_reducible refine name_wp ?_ | with_reducible refine name_calls ?_
    intro V2 hV
    have hbV : Below w2.heap.size w2 V2 := by rw [hV]; exact (Below.refl _ _).alloc (Nat.le_refl _) _
    clear hV
    have HB3 := Lib.hid (bl_from HB2.out hbV)
    have H63 := Lib.hid (blk_below H62.out hbV)
    clear hbV
    have HRV := Lib.hid (HR.out.below HB3.out)
    cases ig with
    | true =>
      obtain ⟨V9, rfl⟩ : ∃ U : World, U = V2 := ⟨_, rfl⟩
      have HB9 := HB3; have H69 := H63; have HR9 := HRV
      clear HB3 H63 HRV
      go_upto_region 9 with fail
      have m0 : V9.cell? ⟨mp, 0, none⟩ = some (.slice A RL.length c) := blk_cell HR9.out.cell 0
      have hl60 := HL6.out
      have x3 := blk_cell H69.out 3
      have f3 := blk_free H69.out 3
      go_upto_region 10 with fail
      first | with_reducible refine name_wp ?_ | with_reducible refine name_calls ?_
      intro V hV
      have H6V := Lib.hid (show V.heap[w.heap.size + 1]? = some (.cells #[.string o.key.kind, .string o.key.space, .string o.key.name, .int .i64 ((RL.length : Int) + 1), .string o.cls, .bool o.term, .bool o.best, .slice ao o.charge.length co] 27) by rw [hV]; exact heap_setCell_same _ (w.heap.size + 1) 3 _ _ _ H69.out)
      have hk9 : Kept (fun k => k = w.heap.size + 1) V9 V := by rw [hV]; exact kept_cell _ _ _ _
      have HRV := Lib.hid (HR9.out.kept hk9 (by omega) H69.out)
      have HBV := Lib.hid (HB9.out.trans (hk9.below HB9.out.size (fun k e => by subst e; omega)))
      have hmpV : mp < V.heap.size := by have := HBV.out.size; omega
      have HMP := Lib.hid hmpV
      clear hV hk9 m0 x3 f3 HR9 HB9 H69 hmpV
      have m0 : V.cell? ⟨mp, 0, none⟩ = some (.slice A RL.length c) := blk_cell HRV.out.cell 0
      have x0 : V.cell? ⟨w.heap.size + 1, 0, none⟩ = some (.string o.key.kind) := blk_cell H6V.out 0
      have x1 : V.cell? ⟨w.heap.size + 1, 1, none⟩ = some (.string o.key.space) := blk_cell H6V.out 1
      have x2 : V.cell? ⟨w.heap.size + 1, 2, none⟩ = some (.string o.key.name) := blk_cell H6V.out 2
      have x3 : V.cell? ⟨w.heap.size + 1, 3, none⟩ = some (.int .i64 ((RL.length : Int) + 1)) := blk_cell H6V.out 3
      have x4 : V.cell? ⟨w.heap.size + 1, 4, none⟩ = some (.string o.cls) := blk_cell H6V.out 4
      have x5 : V.cell? ⟨w.heap.size + 1, 5, none⟩ = some (.bool o.term) := blk_cell H6V.out 5
      have x6 : V.cell? ⟨w.heap.size + 1, 6, none⟩ = some (.bool o.best) := blk_cell H6V.out 6
      have x7 : V.cell? ⟨w.heap.size + 1, 7, none⟩ = some (.slice ao o.charge.length co) := blk_cell H6V.out 7
      have hB := Below.refl V.heap.size V
      obtain ⟨i0, hi, hz0, hz1, hz2⟩ := info_parts info_ev
      have cf := blk_free HRV.out.cell 0
      have hB := hB.drew
      refine region_tree (fun w' => Below V.heap.size V w') 13 (.take 0 (.take 2 (.take 3 (.take 4 (.take 5 (.take 7 (.take 8 (.two 1 (.two 6 (.one 9 (.one 10 (.take 11 (.take 12 (.one 13 .done))))) 9 (.one 6 (.one 10 (.take 11 (.take 12 (.one 13 .done)))))) 9 (.one 1 (.one 6 (.one 10 (.take 11 (.take 12 (.one 13 .done)))))))))))))) (by kernel_rfl) (by kernel_rfl) hB ?_
      try generalize World.drew _ = wS at hB ⊢
      refine tl_take (v := ?_) (a' := ?_) (some 38) rfl rfl (by rfl) ?_ ?_ ?_
      rotate_left; rotate_left
      · intro w' hS; go_simp; with_reducible rfl
      · simp only [Act.put, List.setIfInBounds_toArray, List.set_cons_zero, List.set_cons_succ]; rfl
      refine tl_take (v := ?_) (a' := ?_) (some 40) rfl rfl (by rfl) ?_ ?_ ?_
      rotate_left; rotate_left
      · intro w' hS; go_simp; with_reducible rfl
      · simp only [Act.put, List.setIfInBounds_toArray, List.set_cons_zero, List.set_cons_succ]; rfl
      refine tl_take (v := ?_) (a' := ?_) (some 41) rfl rfl (by rfl) ?_ ?_ ?_
      rotate_left; rotate_left
      · intro w' hS; go_simp; with_reducible rfl
      · simp only [Act.put, List.setIfInBounds_toArray, List.set_cons_zero, List.set_cons_succ]; rfl
      refine tl_take (v := ?_) (a' := ?_) (some 42) rfl rfl (by rfl) ?_ ?_ ?_
      rotate_left; rotate_left
      · intro w' hS; go_simp; with_reducible rfl
      · simp only [Act.put, List.setIfInBounds_toArray, List.set_cons_zero, List.set_cons_succ]; rfl
      refine tl_take (v := ?_) (a' := ?_) (some 43) rfl rfl (by rfl) ?_ ?_ ?_
      rotate_left; rotate_left
      · intro w' hS; have q0 := cb hS m0; have y0 := cb hS x0; have y1 := cb hS x1; have y2 := cb hS x2; have y3 := cb hS x3; have y4 := cb hS x4; have y5 := cb hS x5; have y6 := cb hS x6; have y7 := cb hS x7; go_simp; with_reducible rfl
      · simp only [Act.put, List.setIfInBounds_toArray, List.set_cons_zero, List.set_cons_succ]; rfl
      refine tl_take (v := ?_) (a' := ?_) (some 45) rfl rfl (by rfl) ?_ ?_ ?_
      rotate_left; rotate_left
      · intro w' hS; have q0 := cb hS m0; have y0 := cb hS x0; have y1 := cb hS x1; have y2 := cb hS x2; have y3 := cb hS x3; have y4 := cb hS x4; have y5 := cb hS x5; have y6 := cb hS x6; have y7 := cb hS x7; go_simp; with_reducible rfl
      · simp only [Act.put, List.setIfInBounds_toArray, List.set_cons_zero, List.set_cons_succ]; rfl
      refine tl_take (v := ?_) (a' := ?_) (some 46) rfl rfl (by rfl) ?_ ?_ ?_
      rotate_left; rotate_left
      · intro w' hS; go_simp; with_reducible rfl
      · simp only [Act.put, List.setIfInBounds_toArray, List.set_cons_zero, List.set_cons_succ]; rfl
      refine tl_two ?_ ?_
      · refine st_new (some 39) rfl rfl (by rfl) ?_
        apply Exists.intro; apply Exists.intro; apply And.intro
        · go_simp; first | exact ⟨rfl, rfl⟩ | rfl
        apply Exists.intro; apply And.intro
        · simp only [Act.put, List.setIfInBounds_toArray, List.set_cons_zero, List.set_cons_succ]; rfl
        intro u1 g1 hb hlt
        have hp1 := hB.size
        have hB := bl_next hB hb
        have G1 := Lib.hid g1; clear g1
        have oA := G1; clear G1; (try (have oC' := Lib.hid (blk_below oC.out hb); clear oC; have oC := oC'; clear oC'))
        clear hb
        refine ⟨hB, ?_⟩
        refine tl_two ?_ ?_
        · refine st_res (some 44) rfl rfl (by rfl) (app_row_R (.tmp 39) (.tmp 43) _ rfl V.heap.size _ i0 _ 11 144 Try.underlying48 hi hz0 hz1 hz2 rfl (by decide) _ 0 [] rfl (rw_empty9 oA.out hp1) _ base RL.length (lgC RL) rfl (rw_below HRV.out.row hB) HONE.out hB.size (by omega) (by decide)) ?_
          rintro v6 u6 ⟨hrow, hk, hat⟩; have oB := Lib.hid (show u6.ownsRow V.heap.size 30 11 v6 RL.length (lgC RL) by simpa using hrow); (try (have oC' := Lib.hid (hk.heap oC.out (fun e => heap_ne (cs := #[]) oA.out (.inr ⟨_, #[_, _, _, _, _, _, _, _, _], oC.out⟩) (Option.some.inj e))); clear oC; have oC := oC'; clear oC')); have hB := hB.trans (hk.below hB.size (fun q hq => (rw_type (rw_empty9 (sz := 11) oA.out hp1) hq).1)); clear hrow hk hat oA
          refine ⟨hB, ?_⟩
          simp only [Act.put, List.setIfInBounds_toArray, List.set_cons_zero, List.set_cons_succ]
          refine tl_one ?_
          refine st_new (some 47) rfl rfl (by rfl) ?_
          apply Exists.intro; apply Exists.intro; apply And.intro
          · go_simp; first | exact ⟨rfl, rfl⟩ | rfl
          apply Exists.intro; apply And.intro
          · simp only [Act.put, List.setIfInBounds_toArray, List.set_cons_zero, List.set_cons_succ]; rfl
          intro u9 g9 hb hlt
          have hp9 := hB.size
          have hB := bl_next hB hb
          have G9 := Lib.hid g9; clear g9
          have oC := G9; clear G9; (try (have oA' := Lib.hid (blk_below oA.out hb); clear oA; have oA := oA'; clear oA')); (try (have oB' := Lib.hid (rw_below oB.out hb); clear oB; have oB := oB'; clear oB'))
          clear hb
          refine ⟨hB, ?_⟩
          refine tl_one ?_
          refine st_res (some 48) rfl rfl (by rfl) (app_rw_R (.tmp 44) (.tmp 47) _ rfl V.heap.size _ i0 _ 11 144 Try.underlying48 hi hz0 hz1 hz2 rfl (by decide) _ RL.length (lgC RL) [.int .i64 0, .string o.key.kind, .string o.key.space, .string o.key.name, .int .i64 ((RL.length : Int) + 1), .string o.cls, .bool o.term, .bool o.best, .slice ao o.charge.length co, .int .i64 0, .slice none 0 0] rfl oB.out _ 1 rfl oC.out rfl (by simp [Value.oneCell']) hB.size (by omega) (by decide)) ?_
          rintro v10 u10 ⟨g10, cap10, rfl, hrow, hk, hat⟩; have oD := Lib.hid (show u10.ownsRow V.heap.size 30 11 (.slice (some ⟨g10, 0, none⟩) (RL.length + 1) cap10) (RL.length + 1) (lgC (RL ++ [(0, ({ o with ver := (RL.length : Int) + 1 }, .slice ao o.charge.length co))])) by rw [lgC_app]; exact hrow); have hB := hB.trans (hk.below hB.size (fun q hq => (rw_type oB.out hq).1)); have z0 := cb hB m0; have z1 := fzb hB (lt_of_cell m0) cf; clear hrow hk hat oB oC
          refine ⟨hB, ?_⟩
          simp only [Act.put, List.setIfInBounds_toArray, List.set_cons_zero, List.set_cons_succ]
          refine tl_take (v := ?_) (a' := ?_) (some 49) rfl rfl (by rfl) ?_ ?_ ?_
          rotate_left; rotate_left
          · intro w' hS; go_simp; with_reducible rfl
          · simp only [Act.put, List.setIfInBounds_toArray, List.set_cons_zero, List.set_cons_succ]; rfl
          refine tl_take (v := ?_) (a' := ?_) (some 50) rfl rfl (by rfl) ?_ ?_ ?_
          rotate_left; rotate_left
          · intro w' hS; go_simp; with_reducible rfl
          · simp only [Act.put, List.setIfInBounds_toArray, List.set_cons_zero, List.set_cons_succ]; rfl
          refine tl_one ?_
          refine st_last none rfl rfl (by rfl) ?_
          apply Exists.intro; apply And.intro
          · go_simp; first | exact ⟨rfl, rfl⟩ | rfl
          apply Exists.intro; apply And.intro
          · simp only [Act.put, List.setIfInBounds_toArray, List.set_cons_zero, List.set_cons_succ]; rfl
          refine tl_done ?_
          refine name_exit ?_
          intro U hU
          obtain ⟨hd1, hd2⟩ := ref9_done HRV.out hB oD.out (Nat.le_trans HBS.out HBV.out.size) ⟨⟨HO.out.1, (show in64 ((RL.length : Int) + 1) by unfold in64; omega)⟩, HS.out⟩ hU
          have HD1 := Lib.hid hd1
          have HD2 := Lib.hid hd2
          have HOW := Lib.hid (fun k e => Nat.le_trans HBV.out.size ((rw_type oD.out (k := k) e).1))
          have x3 := hd2.cell x3 (show ¬ (w.heap.size + 1 = mp) by omega)
          clear hU hd1 hd2 m0 x0 x1 x2 x4 x5 x6 x7 z0 z1 hB oD
          go_wp2_with fail
          refine bodyPost_ret (v := .tuple #[.int .i64 ((RL.length : Int) + 1), .int .i64 0]) (by simp [results, Try.results31, go_sem]) rfl ?_
          exact .inr ⟨rfl, _, rfl, HD1.out, HOW.out, (kept_of_below (X := fun k => k = mp) HBV.out).trans HD2.out (fun _ q => .inl q)⟩
        · refine st_new (some 47) rfl rfl (by rfl) ?_
          apply Exists.intro; apply Exists.intro; apply And.intro
          · go_simp; first | exact ⟨rfl, rfl⟩ | rfl
          apply Exists.intro; apply And.intro
          · simp only [Act.put, List.setIfInBounds_toArray, List.set_cons_zero, List.set_cons_succ]; rfl
          intro u9 g9 hb hlt
          have hp9 := hB.size
          have hB := bl_next hB hb
          have G9 := Lib.hid g9; clear g9
          have oC := G9; clear G9; (try (have oA' := Lib.hid (blk_below oA.out hb); clear oA; have oA := oA'; clear oA')); (try (have oB' := Lib.hid (rw_below oB.out hb); clear oB; have oB := oB'; clear oB'))
          clear hb
          refine ⟨hB, ?_⟩
          refine tl_one ?_
          refine st_res (some 44) rfl rfl (by rfl) (app_row_R (.tmp 39) (.tmp 43) _ rfl V.heap.size _ i0 _ 11 144 Try.underlying48 hi hz0 hz1 hz2 rfl (by decide) _ 0 [] rfl (rw_empty9 oA.out hp1) _ base RL.length (lgC RL) rfl (rw_below HRV.out.row hB) HONE.out hB.size (by omega) (by decide)) ?_
          rintro v6 u6 ⟨hrow, hk, hat⟩; have oB := Lib.hid (show u6.ownsRow V.heap.size 30 11 v6 RL.length (lgC RL) by simpa using hrow); (try (have oC' := Lib.hid (hk.heap oC.out (fun e => heap_ne (cs := #[]) oA.out (.inr ⟨_, #[_, _, _, _, _, _, _, _, _], oC.out⟩) (Option.some.inj e))); clear oC; have oC := oC'; clear oC')); have hB := hB.trans (hk.below hB.size (fun q hq => (rw_type (rw_empty9 (sz := 11) oA.out hp1) hq).1)); clear hrow hk hat oA
          refine ⟨hB, ?_⟩
          simp only [Act.put, List.setIfInBounds_toArray, List.set_cons_zero, List.set_cons_succ]
          refine tl_one ?_
          refine st_res (some 48) rfl rfl (by rfl) (app_rw_R (.tmp 44) (.tmp 47) _ rfl V.heap.size _ i0 _ 11 144 Try.underlying48 hi hz0 hz1 hz2 rfl (by decide) _ RL.length (lgC RL) [.int .i64 0, .string o.key.kind, .string o.key.space, .string o.key.name, .int .i64 ((RL.length : Int) + 1), .string o.cls, .bool o.term, .bool o.best, .slice ao o.charge.length co, .int .i64 0, .slice none 0 0] rfl oB.out _ 1 rfl oC.out rfl (by simp [Value.oneCell']) hB.size (by omega) (by decide)) ?_
          rintro v10 u10 ⟨g10, cap10, rfl, hrow, hk, hat⟩; have oD := Lib.hid (show u10.ownsRow V.heap.size 30 11 (.slice (some ⟨g10, 0, none⟩) (RL.length + 1) cap10) (RL.length + 1) (lgC (RL ++ [(0, ({ o with ver := (RL.length : Int) + 1 }, .slice ao o.charge.length co))])) by rw [lgC_app]; exact hrow); have hB := hB.trans (hk.below hB.size (fun q hq => (rw_type oB.out hq).1)); have z0 := cb hB m0; have z1 := fzb hB (lt_of_cell m0) cf; clear hrow hk hat oB oC
          refine ⟨hB, ?_⟩
          simp only [Act.put, List.setIfInBounds_toArray, List.set_cons_zero, List.set_cons_succ]
          refine tl_take (v := ?_) (a' := ?_) (some 49) rfl rfl (by rfl) ?_ ?_ ?_
          rotate_left; rotate_left
          · intro w' hS; go_simp; with_reducible rfl
          · simp only [Act.put, List.setIfInBounds_toArray, List.set_cons_zero, List.set_cons_succ]; rfl
          refine tl_take (v := ?_) (a' := ?_) (some 50) rfl rfl (by rfl) ?_ ?_ ?_
          rotate_left; rotate_left
          · intro w' hS; go_simp; with_reducible rfl
          · simp only [Act.put, List.setIfInBounds_toArray, List.set_cons_zero, List.set_cons_succ]; rfl
          refine tl_one ?_
          refine st_last none rfl rfl (by rfl) ?_
          apply Exists.intro; apply And.intro
          · go_simp; first | exact ⟨rfl, rfl⟩ | rfl
          apply Exists.intro; apply And.intro
          · simp only [Act.put, List.setIfInBounds_toArray, List.set_cons_zero, List.set_cons_succ]; rfl
          refine tl_done ?_
          refine name_exit ?_
          intro U hU
          obtain ⟨hd1, hd2⟩ := ref9_done HRV.out hB oD.out (Nat.le_trans HBS.out HBV.out.size) ⟨⟨HO.out.1, (show in64 ((RL.length : Int) + 1) by unfold in64; omega)⟩, HS.out⟩ hU
          have HD1 := Lib.hid hd1
          have HD2 := Lib.hid hd2
          have HOW := Lib.hid (fun k e => Nat.le_trans HBV.out.size ((rw_type oD.out (k := k) e).1))
          have x3 := hd2.cell x3 (show ¬ (w.heap.size + 1 = mp) by omega)
          clear hU hd1 hd2 m0 x0 x1 x2 x4 x5 x6 x7 z0 z1 hB oD
          go_wp2_with fail
          refine bodyPost_ret (v := .tuple #[.int .i64 ((RL.length : Int) + 1), .int .i64 0]) (by simp [results, Try.results31, go_sem]) rfl ?_
          exact .inr ⟨rfl, _, rfl, HD1.out, HOW.out, (kept_of_below (X := fun k => k = mp) HBV.out).trans HD2.out (fun _ q => .inl q)⟩
      · refine st_new (some 47) rfl rfl (by rfl) ?_
        apply Exists.intro; apply Exists.intro; apply And.intro
        · go_simp; first | exact ⟨rfl, rfl⟩ | rfl
        apply Exists.intro; apply And.intro
        · simp only [Act.put, List.setIfInBounds_toArray, List.set_cons_zero, List.set_cons_succ]; rfl
        intro u9 g9 hb hlt
        have hp9 := hB.size
        have hB := bl_next hB hb
        have G9 := Lib.hid g9; clear g9
        have oC := G9; clear G9; (try (have oA' := Lib.hid (blk_below oA.out hb); clear oA; have oA := oA'; clear oA')); (try (have oB' := Lib.hid (rw_below oB.out hb); clear oB; have oB := oB'; clear oB'))
        clear hb
        refine ⟨hB, ?_⟩
        refine tl_one ?_
        refine st_new (some 39) rfl rfl (by rfl) ?_
        apply Exists.intro; apply Exists.intro; apply And.intro
        · go_simp; first | exact ⟨rfl, rfl⟩ | rfl
        apply Exists.intro; apply And.intro
        · simp only [Act.put, List.setIfInBounds_toArray, List.set_cons_zero, List.set_cons_succ]; rfl
        intro u1 g1 hb hlt
        have hp1 := hB.size
        have hB := bl_next hB hb
        have G1 := Lib.hid g1; clear g1
        have oA := G1; clear G1; (try (have oC' := Lib.hid (blk_below oC.out hb); clear oC; have oC := oC'; clear oC'))
        clear hb
        refine ⟨hB, ?_⟩
        refine tl_one ?_
        refine st_res (some 44) rfl rfl (by rfl) (app_row_R (.tmp 39) (.tmp 43) _ rfl V.heap.size _ i0 _ 11 144 Try.underlying48 hi hz0 hz1 hz2 rfl (by decide) _ 0 [] rfl (rw_empty9 oA.out hp1) _ base RL.length (lgC RL) rfl (rw_below HRV.out.row hB) HONE.out hB.size (by omega) (by decide)) ?_
        rintro v6 u6 ⟨hrow, hk, hat⟩; have oB := Lib.hid (show u6.ownsRow V.heap.size 30 11 v6 RL.length (lgC RL) by simpa using hrow); (try (have oC' := Lib.hid (hk.heap oC.out (fun e => heap_ne (cs := #[]) oA.out (.inr ⟨_, #[_, _, _, _, _, _, _, _, _], oC.out⟩) (Option.some.inj e))); clear oC; have oC := oC'; clear oC')); have hB := hB.trans (hk.below hB.size (fun q hq => (rw_type (rw_empty9 (sz := 11) oA.out hp1) hq).1)); clear hrow hk hat oA
        refine ⟨hB, ?_⟩
        simp only [Act.put, List.setIfInBounds_toArray, List.set_cons_zero, List.set_cons_succ]
        refine tl_one ?_
        refine st_res (some 48) rfl rfl (by rfl) (app_rw_R (.tmp 44) (.tmp 47) _ rfl V.heap.size _ i0 _ 11 144 Try.underlying48 hi hz0 hz1 hz2 rfl (by decide) _ RL.length (lgC RL) [.int .i64 0, .string o.key.kind, .string o.key.space, .string o.key.name, .int .i64 ((RL.length : Int) + 1), .string o.cls, .bool o.term, .bool o.best, .slice ao o.charge.length co, .int .i64 0, .slice none 0 0] rfl oB.out _ 1 rfl oC.out rfl (by simp [Value.oneCell']) hB.size (by omega) (by decide)) ?_
        rintro v10 u10 ⟨g10, cap10, rfl, hrow, hk, hat⟩; have oD := Lib.hid (show u10.ownsRow V.heap.size 30 11 (.slice (some ⟨g10, 0, none⟩) (RL.length + 1) cap10) (RL.length + 1) (lgC (RL ++ [(0, ({ o with ver := (RL.length : Int) + 1 }, .slice ao o.charge.length co))])) by rw [lgC_app]; exact hrow); have hB := hB.trans (hk.below hB.size (fun q hq => (rw_type oB.out hq).1)); have z0 := cb hB m0; have z1 := fzb hB (lt_of_cell m0) cf; clear hrow hk hat oB oC
        refine ⟨hB, ?_⟩
        simp only [Act.put, List.setIfInBounds_toArray, List.set_cons_zero, List.set_cons_succ]
        refine tl_take (v := ?_) (a' := ?_) (some 49) rfl rfl (by rfl) ?_ ?_ ?_
        rotate_left; rotate_left
        · intro w' hS; go_simp; with_reducible rfl
        · simp only [Act.put, List.setIfInBounds_toArray, List.set_cons_zero, List.set_cons_succ]; rfl
        refine tl_take (v := ?_) (a' := ?_) (some 50) rfl rfl (by rfl) ?_ ?_ ?_
        rotate_left; rotate_left
        · intro w' hS; go_simp; with_reducible rfl
        · simp only [Act.put, List.setIfInBounds_toArray, List.set_cons_zero, List.set_cons_succ]; rfl
        refine tl_one ?_
        refine st_last none rfl rfl (by rfl) ?_
        apply Exists.intro; apply And.intro
        · go_simp; first | exact ⟨rfl, rfl⟩ | rfl
        apply Exists.intro; apply And.intro
        · simp only [Act.put, List.setIfInBounds_toArray, List.set_cons_zero, List.set_cons_succ]; rfl
        refine tl_done ?_
        refine name_exit ?_
        intro U hU
        obtain ⟨hd1, hd2⟩ := ref9_done HRV.out hB oD.out (Nat.le_trans HBS.out HBV.out.size) ⟨⟨HO.out.1, (show in64 ((RL.length : Int) + 1) by unfold in64; omega)⟩, HS.out⟩ hU
        have HD1 := Lib.hid hd1
        have HD2 := Lib.hid hd2
        have HOW := Lib.hid (fun k e => Nat.le_trans HBV.out.size ((rw_type oD.out (k := k) e).1))
        have x3 := hd2.cell x3 (show ¬ (w.heap.size + 1 = mp) by omega)
        clear hU hd1 hd2 m0 x0 x1 x2 x4 x5 x6 x7 z0 z1 hB oD
        go_wp2_with fail
        refine bodyPost_ret (v := .tuple #[.int .i64 ((RL.length : Int) + 1), .int .i64 0]) (by simp [results, Try.results31, go_sem]) rfl ?_
        exact .inr ⟨rfl, _, rfl, HD1.out, HOW.out, (kept_of_below (X := fun k => k = mp) HBV.out).trans HD2.out (fun _ q => .inl q)⟩
    | false =>
      go_upto_region 9 with (go_at_call 67; refine (HLV.out V2 HB3.out).mono ?_; rintro e V9 ⟨A4, c4, zs4, rfl, _, he4, _, hb⟩; have HB9 := Lib.hid (bl_next HB3.out hb); have H69 := Lib.hid (blk_below H63.out hb); have HR9 := Lib.hid (HRV.out.below hb); have hz4 := (show ¬ 1000 ≤ zs4.length by rw [← oxs_len, he4]; have := HLN.out; omega); have hz5 := (show ¬ (1000 : Int) ≤ (zs4.length : Int) by omega); clear hb he4)
      have m0 : V9.cell? ⟨mp, 0, none⟩ = some (.slice A RL.length c) := blk_cell HR9.out.cell 0
      have hl60 := HL6.out
      have x3 := blk_cell H69.out 3
      have f3 := blk_free H69.out 3
      go_upto_region 10 with fail
      first | with_reducible refine name_wp ?_ | with_reducible refine name_calls ?_
      intro V hV
      have H6V := Lib.hid (show V.heap[w.heap.size + 1]? = some (.cells #[.string o.key.kind, .string o.key.space, .string o.key.name, .int .i64 ((RL.length : Int) + 1), .string o.cls, .bool o.term, .bool o.best, .slice ao o.charge.length co] 27) by rw [hV]; exact heap_setCell_same _ (w.heap.size + 1) 3 _ _ _ H69.out)
      have hk9 : Kept (fun k => k = w.heap.size + 1) V9 V := by rw [hV]; exact kept_cell _ _ _ _
      have HRV := Lib.hid (HR9.out.kept hk9 (by omega) H69.out)
      have HBV := Lib.hid (HB9.out.trans (hk9.below HB9.out.size (fun k e => by subst e; omega)))
      have hmpV : mp < V.heap.size := by have := HBV.out.size; omega
      have HMP := Lib.hid hmpV
      clear hV hk9 m0 x3 f3 HR9 HB9 H69 hmpV
      have m0 : V.cell? ⟨mp, 0, none⟩ = some (.slice A RL.length c) := blk_cell HRV.out.cell 0
      have x0 : V.cell? ⟨w.heap.size + 1, 0, none⟩ = some (.string o.key.kind) := blk_cell H6V.out 0
      have x1 : V.cell? ⟨w.heap.size + 1, 1, none⟩ = some (.string o.key.space) := blk_cell H6V.out 1
      have x2 : V.cell? ⟨w.heap.size + 1, 2, none⟩ = some (.string o.key.name) := blk_cell H6V.out 2
      have x3 : V.cell? ⟨w.heap.size + 1, 3, none⟩ = some (.int .i64 ((RL.length : Int) + 1)) := blk_cell H6V.out 3
      have x4 : V.cell? ⟨w.heap.size + 1, 4, none⟩ = some (.string o.cls) := blk_cell H6V.out 4
      have x5 : V.cell? ⟨w.heap.size + 1, 5, none⟩ = some (.bool o.term) := blk_cell H6V.out 5
      have x6 : V.cell? ⟨w.heap.size + 1, 6, none⟩ = some (.bool o.best) := blk_cell H6V.out 6
      have x7 : V.cell? ⟨w.heap.size + 1, 7, none⟩ = some (.slice ao o.charge.length co) := blk_cell H6V.out 7
      have hB := Below.refl V.heap.size V
      obtain ⟨i0, hi, hz0, hz1, hz2⟩ := info_parts info_ev
      have cf := blk_free HRV.out.cell 0
      have hB := hB.drew
      refine region_tree (fun w' => Below V.heap.size V w') 13 (.take 0 (.take 2 (.take 3 (.take 4 (.take 5 (.take 7 (.take 8 (.two 1 (.two 6 (.one 9 (.one 10 (.take 11 (.take 12 (.one 13 .done))))) 9 (.one 6 (.one 10 (.take 11 (.take 12 (.one 13 .done)))))) 9 (.one 1 (.one 6 (.one 10 (.take 11 (.take 12 (.one 13 .done)))))))))))))) (by kernel_rfl) (by kernel_rfl) hB ?_
      try generalize World.drew _ = wS at hB ⊢
      refine tl_take (v := ?_) (a' := ?_) (some 38) rfl rfl (by rfl) ?_ ?_ ?_
      rotate_left; rotate_left
      · intro w' hS; go_simp; with_reducible rfl
      · simp only [Act.put, List.setIfInBounds_toArray, List.set_cons_zero, List.set_cons_succ]; rfl
      refine tl_take (v := ?_) (a' := ?_) (some 40) rfl rfl (by rfl) ?_ ?_ ?_
      rotate_left; rotate_left
      · intro w' hS; go_simp; with_reducible rfl
      · simp only [Act.put, List.setIfInBounds_toArray, List.set_cons_zero, List.set_cons_succ]; rfl
      refine tl_take (v := ?_) (a' := ?_) (some 41) rfl rfl (by rfl) ?_ ?_ ?_
      rotate_left; rotate_left
      · intro w' hS; go_simp; with_reducible rfl
      · simp only [Act.put, List.setIfInBounds_toArray, List.set_cons_zero, List.set_cons_succ]; rfl
      refine tl_take (v := ?_) (a' := ?_) (some 42) rfl rfl (by rfl) ?_ ?_ ?_
      rotate_left; rotate_left
      · intro w' hS; go_simp; with_reducible rfl
      · simp only [Act.put, List.setIfInBounds_toArray, List.set_cons_zero, List.set_cons_succ]; rfl
      refine tl_take (v := ?_) (a' := ?_) (some 43) rfl rfl (by rfl) ?_ ?_ ?_
      rotate_left; rotate_left
      · intro w' hS; have q0 := cb hS m0; have y0 := cb hS x0; have y1 := cb hS x1; have y2 := cb hS x2; have y3 := cb hS x3; have y4 := cb hS x4; have y5 := cb hS x5; have y6 := cb hS x6; have y7 := cb hS x7; go_simp; with_reducible rfl
      · simp only [Act.put, List.setIfInBounds_toArray, List.set_cons_zero, List.set_cons_succ]; rfl
      refine tl_take (v := ?_) (a' := ?_) (some 45) rfl rfl (by rfl) ?_ ?_ ?_
      rotate_left; rotate_left
      · intro w' hS; have q0 := cb hS m0; have y0 := cb hS x0; have y1 := cb hS x1; have y2 := cb hS x2; have y3 := cb hS x3; have y4 := cb hS x4; have y5 := cb hS x5; have y6 := cb hS x6; have y7 := cb hS x7; go_simp; with_reducible rfl
      · simp only [Act.put, List.setIfInBounds_toArray, List.set_cons_zero, List.set_cons_succ]; rfl
      refine tl_take (v := ?_) (a' := ?_) (some 46) rfl rfl (by rfl) ?_ ?_ ?_
      rotate_left; rotate_left
      · intro w' hS; go_simp; with_reducible rfl
      · simp only [Act.put, List.setIfInBounds_toArray, List.set_cons_zero, List.set_cons_succ]; rfl
      refine tl_two ?_ ?_
      · refine st_new (some 39) rfl rfl (by rfl) ?_
        apply Exists.intro; apply Exists.intro; apply And.intro
        · go_simp; first | exact ⟨rfl, rfl⟩ | rfl
        apply Exists.intro; apply And.intro
        · simp only [Act.put, List.setIfInBounds_toArray, List.set_cons_zero, List.set_cons_succ]; rfl
        intro u1 g1 hb hlt
        have hp1 := hB.size
        have hB := bl_next hB hb
        have G1 := Lib.hid g1; clear g1
        have oA := G1; clear G1; (try (have oC' := Lib.hid (blk_below oC.out hb); clear oC; have oC := oC'; clear oC'))
        clear hb
        refine ⟨hB, ?_⟩
        refine tl_two ?_ ?_
        · refine st_res (some 44) rfl rfl (by rfl) (app_row_R (.tmp 39) (.tmp 43) _ rfl V.heap.size _ i0 _ 11 144 Try.underlying48 hi hz0 hz1 hz2 rfl (by decide) _ 0 [] rfl (rw_empty9 oA.out hp1) _ base RL.length (lgC RL) rfl (rw_below HRV.out.row hB) HONE.out hB.size (by omega) (by decide)) ?_
          rintro v6 u6 ⟨hrow, hk, hat⟩; have oB := Lib.hid (show u6.ownsRow V.heap.size 30 11 v6 RL.length (lgC RL) by simpa using hrow); (try (have oC' := Lib.hid (hk.heap oC.out (fun e => heap_ne (cs := #[]) oA.out (.inr ⟨_, #[_, _, _, _, _, _, _, _, _], oC.out⟩) (Option.some.inj e))); clear oC; have oC := oC'; clear oC')); have hB := hB.trans (hk.below hB.size (fun q hq => (rw_type (rw_empty9 (sz := 11) oA.out hp1) hq).1)); clear hrow hk hat oA
          refine ⟨hB, ?_⟩
          simp only [Act.put, List.setIfInBounds_toArray, List.set_cons_zero, List.set_cons_succ]
          refine tl_one ?_
          refine st_new (some 47) rfl rfl (by rfl) ?_
          apply Exists.intro; apply Exists.intro; apply And.intro
          · go_simp; first | exact ⟨rfl, rfl⟩ | rfl
          apply Exists.intro; apply And.intro
          · simp only [Act.put, List.setIfInBounds_toArray, List.set_cons_zero, List.set_cons_succ]; rfl
          intro u9 g9 hb hlt
          have hp9 := hB.size
          have hB := bl_next hB hb
          have G9 := Lib.hid g9; clear g9
          have oC := G9; clear G9; (try (have oA' := Lib.hid (blk_below oA.out hb); clear oA; have oA := oA'; clear oA')); (try (have oB' := Lib.hid (rw_below oB.out hb); clear oB; have oB := oB'; clear oB'))
          clear hb
          refine ⟨hB, ?_⟩
          refine tl_one ?_
          refine st_res (some 48) rfl rfl (by rfl) (app_rw_R (.tmp 44) (.tmp 47) _ rfl V.heap.size _ i0 _ 11 144 Try.underlying48 hi hz0 hz1 hz2 rfl (by decide) _ RL.length (lgC RL) [.int .i64 0, .string o.key.kind, .string o.key.space, .string o.key.name, .int .i64 ((RL.length : Int) + 1), .string o.cls, .bool o.term, .bool o.best, .slice ao o.charge.length co, .int .i64 0, .slice none 0 0] rfl oB.out _ 1 rfl oC.out rfl (by simp [Value.oneCell']) hB.size (by omega) (by decide)) ?_
          rintro v10 u10 ⟨g10, cap10, rfl, hrow, hk, hat⟩; have oD := Lib.hid (show u10.ownsRow V.heap.size 30 11 (.slice (some ⟨g10, 0, none⟩) (RL.length + 1) cap10) (RL.length + 1) (lgC (RL ++ [(0, ({ o with ver := (RL.length : Int) + 1 }, .slice ao o.charge.length co))])) by rw [lgC_app]; exact hrow); have hB := hB.trans (hk.below hB.size (fun q hq => (rw_type oB.out hq).1)); have z0 := cb hB m0; have z1 := fzb hB (lt_of_cell m0) cf; clear hrow hk hat oB oC
          refine ⟨hB, ?_⟩
          simp only [Act.put, List.setIfInBounds_toArray, List.set_cons_zero, List.set_cons_succ]
          refine tl_take (v := ?_) (a' := ?_) (some 49) rfl rfl (by rfl) ?_ ?_ ?_
          rotate_left; rotate_left
          · intro w' hS; go_simp; with_reducible rfl
          · simp only [Act.put, List.setIfInBounds_toArray, List.set_cons_zero, List.set_cons_succ]; rfl
          refine tl_take (v := ?_) (a' := ?_) (some 50) rfl rfl (by rfl) ?_ ?_ ?_
          rotate_left; rotate_left
          · intro w' hS; go_simp; with_reducible rfl
          · simp only [Act.put, List.setIfInBounds_toArray, List.set_cons_zero, List.set_cons_succ]; rfl
          refine tl_one ?_
          refine st_last none rfl rfl (by rfl) ?_
          apply Exists.intro; apply And.intro
          · go_simp; first | exact ⟨rfl, rfl⟩ | rfl
          apply Exists.intro; apply And.intro
          · simp only [Act.put, List.setIfInBounds_toArray, List.set_cons_zero, List.set_cons_succ]; rfl
          refine tl_done ?_
          refine name_exit ?_
          intro U hU
          obtain ⟨hd1, hd2⟩ := ref9_done HRV.out hB oD.out (Nat.le_trans HBS.out HBV.out.size) ⟨⟨HO.out.1, (show in64 ((RL.length : Int) + 1) by unfold in64; omega)⟩, HS.out⟩ hU
          have HD1 := Lib.hid hd1
          have HD2 := Lib.hid hd2
          have HOW := Lib.hid (fun k e => Nat.le_trans HBV.out.size ((rw_type oD.out (k := k) e).1))
          have x3 := hd2.cell x3 (show ¬ (w.heap.size + 1 = mp) by omega)
          clear hU hd1 hd2 m0 x0 x1 x2 x4 x5 x6 x7 z0 z1 hB oD
          go_wp2_with fail
          refine bodyPost_ret (v := .tuple #[.int .i64 ((RL.length : Int) + 1), .int .i64 0]) (by simp [results, Try.results31, go_sem]) rfl ?_
          exact .inr ⟨rfl, _, rfl, HD1.out, HOW.out, (kept_of_below (X := fun k => k = mp) HBV.out).trans HD2.out (fun _ q => .inl q)⟩
        · refine st_new (some 47) rfl rfl (by rfl) ?_
          apply Exists.intro; apply Exists.intro; apply And.intro
          · go_simp; first | exact ⟨rfl, rfl⟩ | rfl
          apply Exists.intro; apply And.intro
          · simp only [Act.put, List.setIfInBounds_toArray, List.set_cons_zero, List.set_cons_succ]; rfl
          intro u9 g9 hb hlt
          have hp9 := hB.size
          have hB := bl_next hB hb
          have G9 := Lib.hid g9; clear g9
          have oC := G9; clear G9; (try (have oA' := Lib.hid (blk_below oA.out hb); clear oA; have oA := oA'; clear oA')); (try (have oB' := Lib.hid (rw_below oB.out hb); clear oB; have oB := oB'; clear oB'))
          clear hb
          refine ⟨hB, ?_⟩
          refine tl_one ?_
          refine st_res (some 44) rfl rfl (by rfl) (app_row_R (.tmp 39) (.tmp 43) _ rfl V.heap.size _ i0 _ 11 144 Try.underlying48 hi hz0 hz1 hz2 rfl (by decide) _ 0 [] rfl (rw_empty9 oA.out hp1) _ base RL.length (lgC RL) rfl (rw_below HRV.out.row hB) HONE.out hB.size (by omega) (by decide)) ?_
          rintro v6 u6 ⟨hrow, hk, hat⟩; have oB := Lib.hid (show u6.ownsRow V.heap.size 30 11 v6 RL.length (lgC RL) by simpa using hrow); (try (have oC' := Lib.hid (hk.heap oC.out (fun e => heap_ne (cs := #[]) oA.out (.inr ⟨_, #[_, _, _, _, _, _, _, _, _], oC.out⟩) (Option.some.inj e))); clear oC; have oC := oC'; clear oC')); have hB := hB.trans (hk.below hB.size (fun q hq => (rw_type (rw_empty9 (sz := 11) oA.out hp1) hq).1)); clear hrow hk hat oA
          refine ⟨hB, ?_⟩
          simp only [Act.put, List.setIfInBounds_toArray, List.set_cons_zero, List.set_cons_succ]
          refine tl_one ?_
          refine st_res (some 48) rfl rfl (by rfl) (app_rw_R (.tmp 44) (.tmp 47) _ rfl V.heap.size _ i0 _ 11 144 Try.underlying48 hi hz0 hz1 hz2 rfl (by decide) _ RL.length (lgC RL) [.int .i64 0, .string o.key.kind, .string o.key.space, .string o.key.name, .int .i64 ((RL.length : Int) + 1), .string o.cls, .bool o.term, .bool o.best, .slice ao o.charge.length co, .int .i64 0, .slice none 0 0] rfl oB.out _ 1 rfl oC.out rfl (by simp [Value.oneCell']) hB.size (by omega) (by decide)) ?_
          rintro v10 u10 ⟨g10, cap10, rfl, hrow, hk, hat⟩; have oD := Lib.hid (show u10.ownsRow V.heap.size 30 11 (.slice (some ⟨g10, 0, none⟩) (RL.length + 1) cap10) (RL.length + 1) (lgC (RL ++ [(0, ({ o with ver := (RL.length : Int) + 1 }, .slice ao o.charge.length co))])) by rw [lgC_app]; exact hrow); have hB := hB.trans (hk.below hB.size (fun q hq => (rw_type oB.out hq).1)); have z0 := cb hB m0; have z1 := fzb hB (lt_of_cell m0) cf; clear hrow hk hat oB oC
          refine ⟨hB, ?_⟩
          simp only [Act.put, List.setIfInBounds_toArray, List.set_cons_zero, List.set_cons_succ]
          refine tl_take (v := ?_) (a' := ?_) (some 49) rfl rfl (by rfl) ?_ ?_ ?_
          rotate_left; rotate_left
          · intro w' hS; go_simp; with_reducible rfl
          · simp only [Act.put, List.setIfInBounds_toArray, List.set_cons_zero, List.set_cons_succ]; rfl
          refine tl_take (v := ?_) (a' := ?_) (some 50) rfl rfl (by rfl) ?_ ?_ ?_
          rotate_left; rotate_left
          · intro w' hS; go_simp; with_reducible rfl
          · simp only [Act.put, List.setIfInBounds_toArray, List.set_cons_zero, List.set_cons_succ]; rfl
          refine tl_one ?_
          refine st_last none rfl rfl (by rfl) ?_
          apply Exists.intro; apply And.intro
          · go_simp; first | exact ⟨rfl, rfl⟩ | rfl
          apply Exists.intro; apply And.intro
          · simp only [Act.put, List.setIfInBounds_toArray, List.set_cons_zero, List.set_cons_succ]; rfl
          refine tl_done ?_
          refine name_exit ?_
          intro U hU
          obtain ⟨hd1, hd2⟩ := ref9_done HRV.out hB oD.out (Nat.le_trans HBS.out HBV.out.size) ⟨⟨HO.out.1, (show in64 ((RL.length : Int) + 1) by unfold in64; omega)⟩, HS.out⟩ hU
          have HD1 := Lib.hid hd1
          have HD2 := Lib.hid hd2
          have HOW := Lib.hid (fun k e => Nat.le_trans HBV.out.size ((rw_type oD.out (k := k) e).1))
          have x3 := hd2.cell x3 (show ¬ (w.heap.size + 1 = mp) by omega)
          clear hU hd1 hd2 m0 x0 x1 x2 x4 x5 x6 x7 z0 z1 hB oD
          go_wp2_with fail
          refine bodyPost_ret (v := .tuple #[.int .i64 ((RL.length : Int) + 1), .int .i64 0]) (by simp [results, Try.results31, go_sem]) rfl ?_
          exact .inr ⟨rfl, _, rfl, HD1.out, HOW.out, (kept_of_below (X := fun k => k = mp) HBV.out).trans HD2.out (fun _ q => .inl q)⟩
      · refine st_new (some 47) rfl rfl (by rfl) ?_
        apply Exists.intro; apply Exists.intro; apply And.intro
        · go_simp; first | exact ⟨rfl, rfl⟩ | rfl
        apply Exists.intro; apply And.intro
        · simp only [Act.put, List.setIfInBounds_toArray, List.set_cons_zero, List.set_cons_succ]; rfl
        intro u9 g9 hb hlt
        have hp9 := hB.size
        have hB := bl_next hB hb
        have G9 := Lib.hid g9; clear g9
        have oC := G9; clear G9; (try (have oA' := Lib.hid (blk_below oA.out hb); clear oA; have oA := oA'; clear oA')); (try (have oB' := Lib.hid (rw_below oB.out hb); clear oB; have oB := oB'; clear oB'))
        clear hb
        refine ⟨hB, ?_⟩
        refine tl_one ?_
        refine st_new (some 39) rfl rfl (by rfl) ?_
        apply Exists.intro; apply Exists.intro; apply And.intro
        · go_simp; first | exact ⟨rfl, rfl⟩ | rfl
        apply Exists.intro; apply And.intro
        · simp only [Act.put, List.setIfInBounds_toArray, List.set_cons_zero, List.set_cons_succ]; rfl
        intro u1 g1 hb hlt
        have hp1 := hB.size
        have hB := bl_next hB hb
        have G1 := Lib.hid g1; clear g1
        have oA := G1; clear G1; (try (have oC' := Lib.hid (blk_below oC.out hb); clear oC; have oC := oC'; clear oC'))
        clear hb
        refine ⟨hB, ?_⟩
        refine tl_one ?_
        refine st_res (some 44) rfl rfl (by rfl) (app_row_R (.tmp 39) (.tmp 43) _ rfl V.heap.size _ i0 _ 11 144 Try.underlying48 hi hz0 hz1 hz2 rfl (by decide) _ 0 [] rfl (rw_empty9 oA.out hp1) _ base RL.length (lgC RL) rfl (rw_below HRV.out.row hB) HONE.out hB.size (by omega) (by decide)) ?_
        rintro v6 u6 ⟨hrow, hk, hat⟩; have oB := Lib.hid (show u6.ownsRow V.heap.size 30 11 v6 RL.length (lgC RL) by simpa using hrow); (try (have oC' := Lib.hid (hk.heap oC.out (fun e => heap_ne (cs := #[]) oA.out (.inr ⟨_, #[_, _, _, _, _, _, _, _, _], oC.out⟩) (Option.some.inj e))); clear oC; have oC := oC'; clear oC')); have hB := hB.trans (hk.below hB.size (fun q hq => (rw_type (rw_empty9 (sz := 11) oA.out hp1) hq).1)); clear hrow hk hat oA
        refine ⟨hB, ?_⟩
        simp only [Act.put, List.setIfInBounds_toArray, List.set_cons_zero, List.set_cons_succ]
        refine tl_one ?_
        refine st_res (some 48) rfl rfl (by rfl) (app_rw_R (.tmp 44) (.tmp 47) _ rfl V.heap.size _ i0 _ 11 144 Try.underlying48 hi hz0 hz1 hz2 rfl (by decide) _ RL.length (lgC RL) [.int .i64 0, .string o.key.kind, .string o.key.space, .string o.key.name, .int .i64 ((RL.length : Int) + 1), .string o.cls, .bool o.term, .bool o.best, .slice ao o.charge.length co, .int .i64 0, .slice none 0 0] rfl oB.out _ 1 rfl oC.out rfl (by simp [Value.oneCell']) hB.size (by omega) (by decide)) ?_
        rintro v10 u10 ⟨g10, cap10, rfl, hrow, hk, hat⟩; have oD := Lib.hid (show u10.ownsRow V.heap.size 30 11 (.slice (some ⟨g10, 0, none⟩) (RL.length + 1) cap10) (RL.length + 1) (lgC (RL ++ [(0, ({ o with ver := (RL.length : Int) + 1 }, .slice ao o.charge.length co))])) by rw [lgC_app]; exact hrow); have hB := hB.trans (hk.below hB.size (fun q hq => (rw_type oB.out hq).1)); have z0 := cb hB m0; have z1 := fzb hB (lt_of_cell m0) cf; clear hrow hk hat oB oC
        refine ⟨hB, ?_⟩
        simp only [Act.put, List.setIfInBounds_toArray, List.set_cons_zero, List.set_cons_succ]
        refine tl_take (v := ?_) (a' := ?_) (some 49) rfl rfl (by rfl) ?_ ?_ ?_
        rotate_left; rotate_left
        · intro w' hS; go_simp; with_reducible rfl
        · simp only [Act.put, List.setIfInBounds_toArray, List.set_cons_zero, List.set_cons_succ]; rfl
        refine tl_take (v := ?_) (a' := ?_) (some 50) rfl rfl (by rfl) ?_ ?_ ?_
        rotate_left; rotate_left
        · intro w' hS; go_simp; with_reducible rfl
        · simp only [Act.put, List.setIfInBounds_toArray, List.set_cons_zero, List.set_cons_succ]; rfl
        refine tl_one ?_
        refine st_last none rfl rfl (by rfl) ?_
        apply Exists.intro; apply And.intro
        · go_simp; first | exact ⟨rfl, rfl⟩ | rfl
        apply Exists.intro; apply And.intro
        · simp only [Act.put, List.setIfInBounds_toArray, List.set_cons_zero, List.set_cons_succ]; rfl
        refine tl_done ?_
        refine name_exit ?_
        intro U hU
        obtain ⟨hd1, hd2⟩ := ref9_done HRV.out hB oD.out (Nat.le_trans HBS.out HBV.out.size) ⟨⟨HO.out.1, (show in64 ((RL.length : Int) + 1) by unfold in64; omega)⟩, HS.out⟩ hU
        have HD1 := Lib.hid hd1
        have HD2 := Lib.hid hd2
        have HOW := Lib.hid (fun k e => Nat.le_trans HBV.out.size ((rw_type oD.out (k := k) e).1))
        have x3 := hd2.cell x3 (show ¬ (w.heap.size + 1 = mp) by omega)
        clear hU hd1 hd2 m0 x0 x1 x2 x4 x5 x6 x7 z0 z1 hB oD
        go_wp2_with fail
        refine bodyPost_ret (v := .tuple #[.int .i64 ((RL.length : Int) + 1), .int .i64 0]) (by simp [results, Try.results31, go_sem]) rfl ?_
        exact .inr ⟨rfl, _, rfl, HD1.out, HOW.out, (kept_of_below (X := fun k => k = mp) HBV.out).trans HD2.out (fun _ q => .inl q)⟩
end Go.Proofs.Ythhfcambdmdgfaa
namespace Go.Proofs.Ythhfcambdmdgfaa
open Go.RowKit Go.Maps Srt
set_option linter.unusedVariables false
set_option linter.unusedSimpArgs false
set_option maxRecDepth 100000 in
set_option maxHeartbeats 16000000 in
theorem rdel9_calls (w : World) {W : World} {base mp : Nat} {v : Value} {RL : List LX} (h : RefS9 w W base mp v RL) (hW : Below W.heap.size W w) (hbase : base ≤ w.heap.size) (hl : RL.length ≤ 60) {l : List (Int × ObjD)} (hle : lxOf RL = l) (hT : ToldL l) (K : KS) {kk : KeyD} (hK : K.1 = kk) :
    Calls Try.prog 30 #[.pointer (some ⟨mp, 0, none⟩), .agg #[.string kk.kind, .string kk.space, .string kk.name]] w (RAct9 w W base mp RL 1 (goneO kk) (.slice none 0 0) (if keyOk kk then if hasA (runL l).1 K then 0 else 4 else 1)) := by
  have HR := Lib.hid h; have HW := Lib.hid hW; have HBS := Lib.hid hbase
  have HGT := Lib.hid (fun (U : World) (hb : Below w.heap.size w U) => rget9_calls U (h.below hb) (bl_next hW hb) hl hle hT K hK)
  obtain ⟨og, hog⟩ : ∃ z, obA (runL l).1 K = z := ⟨_, rfl⟩
  obtain ⟨ig, hig⟩ : ∃ z, hasA (runL l).1 K = z := ⟨_, rfl⟩
  rw [hog, hig] at HGT
  rw [hig]
  obtain ⟨A, c, rfl⟩ := rw_form h.row
  have HL6 := Lib.hid hl
  have hks : keySmall kk := hK ▸ K.2
  have HGS := Lib.hid (show objSmall { goneO kk with ver := (RL.length : Int) + 1 } from ⟨hks, (show (ByteArray.mk #[]).size ≤ 1000 by decide), (show (0 : Nat) ≤ 300 by omega), by rintro p ⟨⟩⟩)
  have HKC := Lib.hid (fun (U : World) => refKeyB_calls kk.kind kk.space kk.name U hks.1 hks.2.1 hks.2.2)
  obtain ⟨kb, hkb⟩ : ∃ z, keyOk kk = z := ⟨_, rfl⟩
  have hkb2 : keyB kk.kind kk.space kk.name = kb := hkb
  rw [hkb2] at HKC
  rw [hkb]
  have HONE := Lib.hid (lg_one (RL := RL) (fun e he => by obtain ⟨a, c, q⟩ := (h.args e he).1.form; exact ⟨a, _, c, q⟩))
  have hmp := blk_lt h.cell
  clear h hW hbase hl hle hT hog hig hkb hkb2 hK hks
  go_enter Try.func30, Try.ntmps30
  go_upto_region 1 with fail
  first | with_reducible refine name_wp ?_ | with_reducible refine name_calls ?_
  intro V1 hV
  have g3 : V1.heap[w.heap.size]? = some (.cells #[.string kk.kind, .string kk.space, .string kk.name] 24) := by rw [hV]; exact blk_new w _
  have hbV : Below w.heap.size w V1 := by rw [hV]; exact (Below.refl _ _).alloc (Nat.le_refl _) _
  clear hV
  have H3 := Lib.hid g3; have HBV1 := Lib.hid hbV
  have x0 := blk_cell g3 0; have x1 := blk_cell g3 1; have x2 := blk_cell g3 2
  clear g3 hbV
  go_upto_region 2 with (go_at_call 62; refine (HKC.out V1).mono ?_; rintro e w1 ⟨rfl, hb⟩; have HB1 := Lib.hid (bl_from HBV1.out hb); have H31 := Lib.hid (blk_below H3.out hb); have x0 := cb hb x0; have x1 := cb hb x1; have x2 := cb hb x2; clear hb)
  cases kb with
  | false =>
    go_wp2_with fail
    refine bodyPost_ret (v := .tuple #[.int .i64 0, .int .i64 1]) (by simp [results, Try.results30, go_sem]) rfl ?_
    exact .inl ⟨by decide, rfl, HB1.out⟩
  | true =>
    go_upto_region 5 with (go_at_call 33; refine (HGT.out w1 HB1.out).mono ?_; rintro e w2 ⟨sg, rfl, hsg, hb⟩; obtain ⟨ag, cg, rfl⟩ := hsg.1.form; have HB2 := Lib.hid (bl_from HB1.out hb); have H32 := Lib.hid (blk_below H31.out hb); have x0 := cb hb x0; have x1 := cb hb x1; have x2 := cb hb x2; clear hb hsg; unfold objV)
    first | with_reducible refine name_wp ?_ | with_reducible refine name_calls ?_
    intro V hV
    have hbV : Below w2.heap.size w2 V := by rw [hV]; exact (Below.refl _ _).alloc (Nat.le_refl _) _
    clear hV
    have HBV := Lib.hid (bl_from HB2.out hbV)
    have x0 := cb hbV x0; have x1 := cb hbV x1; have x2 := cb hbV x2
    have HRV := Lib.hid (HR.out.below HBV.out)
    have hmpV : mp < V.heap.size := by have := HBV.out.size; omega
    clear hbV
    cases ig with
    | false =>
      go_wp2_with fail
      refine bodyPost_ret (v := .tuple #[.int .i64 0, .int .i64 4]) (by simp [results, Try.results30, go_sem]) rfl ?_
      exact .inl ⟨by decide, rfl, HBV.out⟩
    | true =>
      have hl60 := HL6.out
      have m0 : V.cell? ⟨mp, 0, none⟩ = some (.slice A RL.length c) := blk_cell HRV.out.cell 0
      obtain ⟨i0, hi, hz0, hz1, hz2⟩ := info_parts info_ev
      have cf := blk_free HRV.out.cell 0
      have hB := Below.refl V.heap.size V
      go_upto_region 8 with fail
      have hB := hB.drew
      refine region_tree (fun w' => Below V.heap.size V w') 15 (.take 0 (.take 2 (.take 3 (.take 4 (.take 5 (.take 7 (.take 8 (.take 9 (.take 10 (.two 1 (.two 6 (.one 11 (.one 12 (.take 13 (.take 14 (.one 15 .done))))) 11 (.one 6 (.one 12 (.take 13 (.take 14 (.one 15 .done)))))) 11 (.one 1 (.one 6 (.one 12 (.take 13 (.take 14 (.one 15 .done)))))))))))))))) (by kernel_rfl) (by kernel_rfl) hB ?_
      try generalize World.drew _ = wS at hB ⊢
      refine tl_take (v := ?_) (a' := ?_) (some 28) rfl rfl (by rfl) ?_ ?_ ?_
      rotate_left; rotate_left
      · intro w' hS; go_simp; with_reducible rfl
      · simp only [Act.put, List.setIfInBounds_toArray, List.set_cons_zero, List.set_cons_succ]; rfl
      refine tl_take (v := ?_) (a' := ?_) (some 30) rfl rfl (by rfl) ?_ ?_ ?_
      rotate_left; rotate_left
      · intro w' hS; go_simp; with_reducible rfl
      · simp only [Act.put, List.setIfInBounds_toArray, List.set_cons_zero, List.set_cons_succ]; rfl
      refine tl_take (v := ?_) (a' := ?_) (some 31) rfl rfl (by rfl) ?_ ?_ ?_
      rotate_left; rotate_left
      · intro w' hS; go_simp; with_reducible rfl
      · simp only [Act.put, List.setIfInBounds_toArray, List.set_cons_zero, List.set_cons_succ]; rfl
      refine tl_take (v := ?_) (a' := ?_) (some 32) rfl rfl (by rfl) ?_ ?_ ?_
      rotate_left; rotate_left
      · intro w' hS; go_simp; with_reducible rfl
      · simp only [Act.put, List.setIfInBounds_toArray, List.set_cons_zero, List.set_cons_succ]; rfl
      refine tl_take (v := ?_) (a' := ?_) (some 33) rfl rfl (by rfl) ?_ ?_ ?_
      rotate_left; rotate_left
      · intro w' hS; have q0 := cb hS m0; have y0 := cb hS x0; have y1 := cb hS x1; have y2 := cb hS x2; go_simp; with_reducible rfl
      · simp only [Act.put, List.setIfInBounds_toArray, List.set_cons_zero, List.set_cons_succ]; rfl
      refine tl_take (v := ?_) (a' := ?_) (some 35) rfl rfl (by rfl) ?_ ?_ ?_
      rotate_left; rotate_left
      · intro w' hS; have q0 := cb hS m0; have y0 := cb hS x0; have y1 := cb hS x1; have y2 := cb hS x2; go_simp; with_reducible rfl
      · simp only [Act.put, List.setIfInBounds_toArray, List.set_cons_zero, List.set_cons_succ]; rfl
      refine tl_take (v := ?_) (a' := ?_) (some 36) rfl rfl (by rfl) ?_ ?_ ?_
      rotate_left; rotate_left
      · intro w' hS; go_simp; with_reducible rfl
      · simp only [Act.put, List.setIfInBounds_toArray, List.set_cons_zero, List.set_cons_succ]; rfl
      refine tl_take (v := ?_) (a' := ?_) (some 37) rfl rfl (by rfl) ?_ ?_ ?_
      rotate_left; rotate_left
      · intro w' hS; go_simp; with_reducible rfl
      · simp only [Act.put, List.setIfInBounds_toArray, List.set_cons_zero, List.set_cons_succ]; rfl
      refine tl_take (v := ?_) (a' := ?_) (some 38) rfl rfl (by rfl) ?_ ?_ ?_
      rotate_left; rotate_left
      · intro w' hS; go_simp; with_reducible rfl
      · simp only [Act.put, List.setIfInBounds_toArray, List.set_cons_zero, List.set_cons_succ]; rfl
      refine tl_two ?_ ?_
      · refine st_new (some 29) rfl rfl (by rfl) ?_
        apply Exists.intro; apply Exists.intro; apply And.intro
        · go_simp; first | exact ⟨rfl, rfl⟩ | rfl
        apply Exists.intro; apply And.intro
        · simp only [Act.put, List.setIfInBounds_toArray, List.set_cons_zero, List.set_cons_succ]; rfl
        intro u1 g1 hb hlt
        have hp1 := hB.size
        have hB := bl_next hB hb
        have G1 := Lib.hid g1; clear g1
        have oA := G1; clear G1; (try (have oC' := Lib.hid (blk_below oC.out hb); clear oC; have oC := oC'; clear oC'))
        clear hb
        refine ⟨hB, ?_⟩
        refine tl_two ?_ ?_
        · refine st_res (some 34) rfl rfl (by rfl) (app_row_R (.tmp 29) (.tmp 33) _ rfl V.heap.size _ i0 _ 11 144 Try.underlying48 hi hz0 hz1 hz2 rfl (by decide) _ 0 [] rfl (rw_empty9 oA.out hp1) _ base RL.length (lgC RL) rfl (rw_below HRV.out.row hB) HONE.out hB.size (by omega) (by decide)) ?_
          rintro v6 u6 ⟨hrow, hk, hat⟩; have oB := Lib.hid (show u6.ownsRow V.heap.size 30 11 v6 RL.length (lgC RL) by simpa using hrow); (try (have oC' := Lib.hid (hk.heap oC.out (fun e => heap_ne (cs := #[]) oA.out (.inr ⟨_, #[_, _, _, _, _, _, _, _, _], oC.out⟩) (Option.some.inj e))); clear oC; have oC := oC'; clear oC')); have hB := hB.trans (hk.below hB.size (fun q hq => (rw_type (rw_empty9 (sz := 11) oA.out hp1) hq).1)); clear hrow hk hat oA
          refine ⟨hB, ?_⟩
          simp only [Act.put, List.setIfInBounds_toArray, List.set_cons_zero, List.set_cons_succ]
          refine tl_one ?_
          refine st_new (some 39) rfl rfl (by rfl) ?_
          apply Exists.intro; apply Exists.intro; apply And.intro
          · go_simp; first | exact ⟨rfl, rfl⟩ | rfl
          apply Exists.intro; apply And.intro
          · simp only [Act.put, List.setIfInBounds_toArray, List.set_cons_zero, List.set_cons_succ]; rfl
          intro u11 g11 hb hlt
          have hp11 := hB.size
          have hB := bl_next hB hb
          have G11 := Lib.hid g11; clear g11
          have oC := G11; clear G11; (try (have oA' := Lib.hid (blk_below oA.out hb); clear oA; have oA := oA'; clear oA')); (try (have oB' := Lib.hid (rw_below oB.out hb); clear oB; have oB := oB'; clear oB'))
          clear hb
          refine ⟨hB, ?_⟩
          refine tl_one ?_
          refine st_res (some 40) rfl rfl (by rfl) (app_rw_R (.tmp 34) (.tmp 39) _ rfl V.heap.size _ i0 _ 11 144 Try.underlying48 hi hz0 hz1 hz2 rfl (by decide) _ RL.length (lgC RL) [.int .i64 1, .string kk.kind, .string kk.space, .string kk.name, .int .i64 ((RL.length : Int) + 1), .string ⟨#[]⟩, .bool false, .bool false, .slice none 0 0, .int .i64 0, .slice none 0 0] rfl oB.out _ 1 rfl oC.out rfl (by simp [Value.oneCell']) hB.size (by omega) (by decide)) ?_
          rintro v10 u10 ⟨g10, cap10, rfl, hrow, hk, hat⟩; have oD := Lib.hid (show u10.ownsRow V.heap.size 30 11 (.slice (some ⟨g10, 0, none⟩) (RL.length + 1) cap10) (RL.length + 1) (lgC (RL ++ [(1, ({ goneO kk with ver := (RL.length : Int) + 1 }, .slice none 0 0))])) by rw [lgC_app]; exact hrow); have hB := hB.trans (hk.below hB.size (fun q hq => (rw_type oB.out hq).1)); have z0 := cb hB m0; have z1 := fzb hB (lt_of_cell m0) cf; clear hrow hk hat oB oC
          refine ⟨hB, ?_⟩
          simp only [Act.put, List.setIfInBounds_toArray, List.set_cons_zero, List.set_cons_succ]
          refine tl_take (v := ?_) (a' := ?_) (some 41) rfl rfl (by rfl) ?_ ?_ ?_
          rotate_left; rotate_left
          · intro w' hS; go_simp; with_reducible rfl
          · simp only [Act.put, List.setIfInBounds_toArray, List.set_cons_zero, List.set_cons_succ]; rfl
          refine tl_take (v := ?_) (a' := ?_) (some 42) rfl rfl (by rfl) ?_ ?_ ?_
          rotate_left; rotate_left
          · intro w' hS; go_simp; with_reducible rfl
          · simp only [Act.put, List.setIfInBounds_toArray, List.set_cons_zero, List.set_cons_succ]; rfl
          refine tl_one ?_
          refine st_last none rfl rfl (by rfl) ?_
          apply Exists.intro; apply And.intro
          · go_simp; first | exact ⟨rfl, rfl⟩ | rfl
          apply Exists.intro; apply And.intro
          · simp only [Act.put, List.setIfInBounds_toArray, List.set_cons_zero, List.set_cons_succ]; rfl
          refine tl_done ?_
          refine name_exit ?_
          intro U hU
          obtain ⟨hd1, hd2⟩ := ref9_done (o := { goneO kk with ver := (RL.length : Int) + 1 }) HRV.out hB oD.out (Nat.le_trans HBS.out HBV.out.size) ⟨⟨⟨sliS_nil W 2, by rintro p ⟨⟩⟩, (show in64 ((RL.length : Int) + 1) by unfold in64; omega)⟩, HGS.out⟩ hU
          have HD1 := Lib.hid hd1
          have HD2 := Lib.hid hd2
          have HOW := Lib.hid (fun k e => Nat.le_trans HBV.out.size ((rw_type oD.out (k := k) e).1))
          clear hU hd1 hd2 m0 x0 x1 x2 z0 z1 hB oD
          go_wp2_with fail
          refine bodyPost_ret (v := .tuple #[.int .i64 ((RL.length : Int) + 1), .int .i64 0]) (by simp [results, Try.results30, go_sem]) rfl ?_
          exact .inr ⟨rfl, _, rfl, HD1.out, HOW.out, (kept_of_below (X := fun k => k = mp) HBV.out).trans HD2.out (fun _ q => .inl q)⟩
        · refine st_new (some 39) rfl rfl (by rfl) ?_
          apply Exists.intro; apply Exists.intro; apply And.intro
          · go_simp; first | exact ⟨rfl, rfl⟩ | rfl
          apply Exists.intro; apply And.intro
          · simp only [Act.put, List.setIfInBounds_toArray, List.set_cons_zero, List.set_cons_succ]; rfl
          intro u11 g11 hb hlt
          have hp11 := hB.size
          have hB := bl_next hB hb
          have G11 := Lib.hid g11; clear g11
          have oC := G11; clear G11; (try (have oA' := Lib.hid (blk_below oA.out hb); clear oA; have oA := oA'; clear oA')); (try (have oB' := Lib.hid (rw_below oB.out hb); clear oB; have oB := oB'; clear oB'))
          clear hb
          refine ⟨hB, ?_⟩
          refine tl_one ?_
          refine st_res (some 34) rfl rfl (by rfl) (app_row_R (.tmp 29) (.tmp 33) _ rfl V.heap.size _ i0 _ 11 144 Try.underlying48 hi hz0 hz1 hz2 rfl (by decide) _ 0 [] rfl (rw_empty9 oA.out hp1) _ base RL.length (lgC RL) rfl (rw_below HRV.out.row hB) HONE.out hB.size (by omega) (by decide)) ?_
          rintro v6 u6 ⟨hrow, hk, hat⟩; have oB := Lib.hid (show u6.ownsRow V.heap.size 30 11 v6 RL.length (lgC RL) by simpa using hrow); (try (have oC' := Lib.hid (hk.heap oC.out (fun e => heap_ne (cs := #[]) oA.out (.inr ⟨_, #[_, _, _, _, _, _, _, _, _], oC.out⟩) (Option.some.inj e))); clear oC; have oC := oC'; clear oC')); have hB := hB.trans (hk.below hB.size (fun q hq => (rw_type (rw_empty9 (sz := 11) oA.out hp1) hq).1)); clear hrow hk hat oA
          refine ⟨hB, ?_⟩
          simp only [Act.put, List.setIfInBounds_toArray, List.set_cons_zero, List.set_cons_succ]
          refine tl_one ?_
          refine st_res (some 40) rfl rfl (by rfl) (app_rw_R (.tmp 34) (.tmp 39) _ rfl V.heap.size _ i0 _ 11 144 Try.underlying48 hi hz0 hz1 hz2 rfl (by decide) _ RL.length (lgC RL) [.int .i64 1, .string kk.kind, .string kk.space, .string kk.name, .int .i64 ((RL.length : Int) + 1), .string ⟨#[]⟩, .bool false, .bool false, .slice none 0 0, .int .i64 0, .slice none 0 0] rfl oB.out _ 1 rfl oC.out rfl (by simp [Value.oneCell']) hB.size (by omega) (by decide)) ?_
          rintro v10 u10 ⟨g10, cap10, rfl, hrow, hk, hat⟩; have oD := Lib.hid (show u10.ownsRow V.heap.size 30 11 (.slice (some ⟨g10, 0, none⟩) (RL.length + 1) cap10) (RL.length + 1) (lgC (RL ++ [(1, ({ goneO kk with ver := (RL.length : Int) + 1 }, .slice none 0 0))])) by rw [lgC_app]; exact hrow); have hB := hB.trans (hk.below hB.size (fun q hq => (rw_type oB.out hq).1)); have z0 := cb hB m0; have z1 := fzb hB (lt_of_cell m0) cf; clear hrow hk hat oB oC
          refine ⟨hB, ?_⟩
          simp only [Act.put, List.setIfInBounds_toArray, List.set_cons_zero, List.set_cons_succ]
          refine tl_take (v := ?_) (a' := ?_) (some 41) rfl rfl (by rfl) ?_ ?_ ?_
          rotate_left; rotate_left
          · intro w' hS; go_simp; with_reducible rfl
          · simp only [Act.put, List.setIfInBounds_toArray, List.set_cons_zero, List.set_cons_succ]; rfl
          refine tl_take (v := ?_) (a' := ?_) (some 42) rfl rfl (by rfl) ?_ ?_ ?_
          rotate_left; rotate_left
          · intro w' hS; go_simp; with_reducible rfl
          · simp only [Act.put, List.setIfInBounds_toArray, List.set_cons_zero, List.set_cons_succ]; rfl
          refine tl_one ?_
          refine st_last none rfl rfl (by rfl) ?_
          apply Exists.intro; apply And.intro
          · go_simp; first | exact ⟨rfl, rfl⟩ | rfl
          apply Exists.intro; apply And.intro
          · simp only [Act.put, List.setIfInBounds_toArray, List.set_cons_zero, List.set_cons_succ]; rfl
          refine tl_done ?_
          refine name_exit ?_
          intro U hU
          obtain ⟨hd1, hd2⟩ := ref9_done (o := { goneO kk with ver := (RL.length : Int) + 1 }) HRV.out hB oD.out (Nat.le_trans HBS.out HBV.out.size) ⟨⟨⟨sliS_nil W 2, by rintro p ⟨⟩⟩, (show in64 ((RL.length : Int) + 1) by unfold in64; omega)⟩, HGS.out⟩ hU
          have HD1 := Lib.hid hd1
          have HD2 := Lib.hid hd2
          have HOW := Lib.hid (fun k e => Nat.le_trans HBV.out.size ((rw_type oD.out (k := k) e).1))
          clear hU hd1 hd2 m0 x0 x1 x2 z0 z1 hB oD
          go_wp2_with fail
          refine bodyPost_ret (v := .tuple #[.int .i64 ((RL.length : Int) + 1), .int .i64 0]) (by simp [results, Try.results30, go_sem]) rfl ?_
          exact .inr ⟨rfl, _, rfl, HD1.out, HOW.out, (kept_of_below (X := fun k => k = mp) HBV.out).trans HD2.out (fun _ q => .inl q)⟩
      · refine st_new (some 39) rfl rfl (by rfl) ?_
        apply Exists.intro; apply Exists.intro; apply And.intro
        · go_simp; first | exact ⟨rfl, rfl⟩ | rfl
        apply Exists.intro; apply And.intro
        · simp only [Act.put, List.setIfInBounds_toArray, List.set_cons_zero, List.set_cons_succ]; rfl
        intro u11 g11 hb hlt
        have hp11 := hB.size
        have hB := bl_next hB hb
        have G11 := Lib.hid g11; clear g11
        have oC := G11; clear G11; (try (have oA' := Lib.hid (blk_below oA.out hb); clear oA; have oA := oA'; clear oA')); (try (have oB' := Lib.hid (rw_below oB.out hb); clear oB; have oB := oB'; clear oB'))
        clear hb
        refine ⟨hB, ?_⟩
        refine tl_one ?_
        refine st_new (some 29) rfl rfl (by rfl) ?_
        apply Exists.intro; apply Exists.intro; apply And.intro
        · go_simp; first | exact ⟨rfl, rfl⟩ | rfl
        apply Exists.intro; apply And.intro
        · simp only [Act.put, List.setIfInBounds_toArray, List.set_cons_zero, List.set_cons_succ]; rfl
        intro u1 g1 hb hlt
        have hp1 := hB.size
        have hB := bl_next hB hb
        have G1 := Lib.hid g1; clear g1
        have oA := G1; clear G1; (try (have oC' := Lib.hid (blk_below oC.out hb); clear oC; have oC := oC'; clear oC'))
        clear hb
        refine ⟨hB, ?_⟩
        refine tl_one ?_
        refine st_res (some 34) rfl rfl (by rfl) (app_row_R (.tmp 29) (.tmp 33) _ rfl V.heap.size _ i0 _ 11 144 Try.underlying48 hi hz0 hz1 hz2 rfl (by decide) _ 0 [] rfl (rw_empty9 oA.out hp1) _ base RL.length (lgC RL) rfl (rw_below HRV.out.row hB) HONE.out hB.size (by omega) (by decide)) ?_
        rintro v6 u6 ⟨hrow, hk, hat⟩; have oB := Lib.hid (show u6.ownsRow V.heap.size 30 11 v6 RL.length (lgC RL) by simpa using hrow); (try (have oC' := Lib.hid (hk.heap oC.out (fun e => heap_ne (cs := #[]) oA.out (.inr ⟨_, #[_, _, _, _, _, _, _, _, _], oC.out⟩) (Option.some.inj e))); clear oC; have oC := oC'; clear oC')); have hB := hB.trans (hk.below hB.size (fun q hq => (rw_type (rw_empty9 (sz := 11) oA.out hp1) hq).1)); clear hrow hk hat oA
        refine ⟨hB, ?_⟩
        simp only [Act.put, List.setIfInBounds_toArray, List.set_cons_zero, List.set_cons_succ]
        refine tl_one ?_
        refine st_res (some 40) rfl rfl (by rfl) (app_rw_R (.tmp 34) (.tmp 39) _ rfl V.heap.size _ i0 _ 11 144 Try.underlying48 hi hz0 hz1 hz2 rfl (by decide) _ RL.length (lgC RL) [.int .i64 1, .string kk.kind, .string kk.space, .string kk.name, .int .i64 ((RL.length : Int) + 1), .string ⟨#[]⟩, .bool false, .bool false, .slice none 0 0, .int .i64 0, .slice none 0 0] rfl oB.out _ 1 rfl oC.out rfl (by simp [Value.oneCell']) hB.size (by omega) (by decide)) ?_
        rintro v10 u10 ⟨g10, cap10, rfl, hrow, hk, hat⟩; have oD := Lib.hid (show u10.ownsRow V.heap.size 30 11 (.slice (some ⟨g10, 0, none⟩) (RL.length + 1) cap10) (RL.length + 1) (lgC (RL ++ [(1, ({ goneO kk with ver := (RL.length : Int) + 1 }, .slice none 0 0))])) by rw [lgC_app]; exact hrow); have hB := hB.trans (hk.below hB.size (fun q hq => (rw_type oB.out hq).1)); have z0 := cb hB m0; have z1 := fzb hB (lt_of_cell m0) cf; clear hrow hk hat oB oC
        refine ⟨hB, ?_⟩
        simp only [Act.put, List.setIfInBounds_toArray, List.set_cons_zero, List.set_cons_succ]
        refine tl_take (v := ?_) (a' := ?_) (some 41) rfl rfl (by rfl) ?_ ?_ ?_
        rotate_left; rotate_left
        · intro w' hS; go_simp; with_reducible rfl
        · simp only [Act.put, List.setIfInBounds_toArray, List.set_cons_zero, List.set_cons_succ]; rfl
        refine tl_take (v := ?_) (a' := ?_) (some 42) rfl rfl (by rfl) ?_ ?_ ?_
        rotate_left; rotate_left
        · intro w' hS; go_simp; with_reducible rfl
        · simp only [Act.put, List.setIfInBounds_toArray, List.set_cons_zero, List.set_cons_succ]; rfl
        refine tl_one ?_
        refine st_last none rfl rfl (by rfl) ?_
        apply Exists.intro; apply And.intro
        · go_simp; first | exact ⟨rfl, rfl⟩ | rfl
        apply Exists.intro; apply And.intro
        · simp only [Act.put, List.setIfInBounds_toArray, List.set_cons_zero, List.set_cons_succ]; rfl
        refine tl_done ?_
        refine name_exit ?_
        intro U hU
        obtain ⟨hd1, hd2⟩ := ref9_done (o := { goneO kk with ver := (RL.length : Int) + 1 }) HRV.out hB oD.out (Nat.le_trans HBS.out HBV.out.size) ⟨⟨⟨sliS_nil W 2, by rintro p ⟨⟩⟩, (show in64 ((RL.length : Int) + 1) by unfold in64; omega)⟩, HGS.out⟩ hU
        have HD1 := Lib.hid hd1
        have HD2 := Lib.hid hd2
        have HOW := Lib.hid (fun k e => Nat.le_trans HBV.out.size ((rw_type oD.out (k := k) e).1))
        clear hU hd1 hd2 m0 x0 x1 x2 z0 z1 hB oD
        go_wp2_with fail
        refine bodyPost_ret (v := .tuple #[.int .i64 ((RL.length : Int) + 1), .int .i64 0]) (by simp [results, Try.results30, go_sem]) rfl ?_
        exact .inr ⟨rfl, _, rfl, HD1.out, HOW.out, (kept_of_below (X := fun k => k = mp) HBV.out).trans HD2.out (fun _ q => .inl q)⟩
set_option maxRecDepth 100000 in
set_option maxHeartbeats 16000000 in
theorem rsnap9_calls (w : World) {W : World} {base mp : Nat} {v : Value} {RL : List LX} (h : RefS9 w W base mp v RL) (hW : Below W.heap.size W w) (hl : RL.length ≤ 60) {l : List (Int × ObjD)} (hle : lxOf RL = l) (hT : ToldL l) {nM : Nat} (hM : (runL l).1.length = nM) {n : Nat} (hn : RL.length = n) :
    Calls Try.prog 35 #[.pointer (some ⟨mp, 0, none⟩)] w fun e w' => ∃ A c, e = .returned (.agg #[.int .i64 2, .string ⟨#[]⟩, .string ⟨#[]⟩, .string ⟨#[]⟩, .int .i64 0, .string ⟨#[]⟩, .bool false, .bool false, .slice none 0 0, .int .i64 n, .slice A nM c]) ∧ Hid (∃ zs, ObjsS w' (.slice A nM c) zs ∧ oxs zs = sortM (runL l).1 ∧ zs.length = nM) ∧ Below w.heap.size w w' := by
  have HW := Lib.hid hW
  have HLV := Lib.hid (fun (U : World) (hb : Below w.heap.size w U) => rlive_calls U (h.below hb) (bl_next hW hb) (by omega) hle)
  have HLR := Lib.hid (live_run hT)
  have HSL := Lib.hid (show (srtX kTO (liveN l l.length)).length = nM by rw [HLR.out, sortM_len, hM])
  obtain ⟨A, c, rfl⟩ := rw_form h.row
  have m0 : w.cell? ⟨mp, 0, none⟩ = some (.slice A RL.length c) := blk_cell h.cell 0
  rw [hn] at m0
  have hnn : n ≤ 60 := by omega
  have hmp := blk_lt h.cell
  clear h hW hl hle hT hM hn
  go_enter Try.func35, Try.ntmps35
  go_upto_region 1 with fail
  first | with_reducible refine name_wp ?_ | with_reducible refine name_calls ?_
  intro V hV
  have g2 : V.heap[w.heap.size]? = some (.cells #[.int .i64 0, .string ⟨#[]⟩, .string ⟨#[]⟩, .string ⟨#[]⟩, .int .i64 0, .string ⟨#[]⟩, .bool false, .bool false, .slice none 0 0, .int .i64 0, .slice none 0 0] 30) := by rw [hV]; exact blk_new w _
  have hbV : Below w.heap.size w V := by rw [hV]; exact (Below.refl _ _).alloc (Nat.le_refl _) _
  clear hV
  have HBV := Lib.hid hbV
  have HG2 := Lib.hid g2
  have m0 := cb hbV m0
  clear g2 hbV
  have hB := Below.refl V.heap.size V
  go_upto_region 1 with fail
  have hB := hB.drew
  refine region_seqM (fun w' => Below V.heap.size V w') 8 [(0, 1), (1, 1), (2, 1), (3, 1), (4, 1), (5, 1), (6, 0), (7, 1), (8, 0)] (by kernel_rfl) (by kernel_rfl) (fun _ _ _ _ h => h) hB ?_
  try generalize World.drew _ = wS at hB ⊢
  refine sm_take (v := ?_) (a' := ?_) (some 3) rfl rfl (by rfl) ?_ ?_ ?_
  rotate_left; rotate_left
  · intro w' hS; go_simp; with_reducible rfl
  · simp only [Act.put, List.setIfInBounds_toArray, List.set_cons_zero, List.set_cons_succ]; rfl
  refine sm_take (v := ?_) (a' := ?_) (some 4) rfl rfl (by rfl) ?_ ?_ ?_
  rotate_left; rotate_left
  · intro w' hS; go_simp; with_reducible rfl
  · simp only [Act.put, List.setIfInBounds_toArray, List.set_cons_zero, List.set_cons_succ]; rfl
  refine sm_take (v := ?_) (a' := ?_) (some 5) rfl rfl (by rfl) ?_ ?_ ?_
  rotate_left; rotate_left
  · intro w' hS; go_simp; with_reducible rfl
  · simp only [Act.put, List.setIfInBounds_toArray, List.set_cons_zero, List.set_cons_succ]; rfl
  refine sm_take (v := ?_) (a' := ?_) (some 6) rfl rfl (by rfl) ?_ ?_ ?_
  rotate_left; rotate_left
  · intro w' hS; have q0 := cb hS m0; go_simp; with_reducible rfl
  · simp only [Act.put, List.setIfInBounds_toArray, List.set_cons_zero, List.set_cons_succ]; rfl
  refine sm_take (v := ?_) (a' := ?_) (some 7) rfl rfl (by rfl) ?_ ?_ ?_
  rotate_left; rotate_left
  · intro w' hS; go_simp; with_reducible rfl
  · simp only [Act.put, List.setIfInBounds_toArray, List.set_cons_zero, List.set_cons_succ]; rfl
  refine sm_take (v := ?_) (a' := ?_) (some 8) rfl rfl (by rfl) ?_ ?_ ?_
  rotate_left; rotate_left
  · intro w' hS; go_simp; with_reducible rfl
  · simp only [Act.put, List.setIfInBounds_toArray, List.set_cons_zero, List.set_cons_succ]; rfl
  refine sm_call (args := ?_) Try.func67 (by kernel_rfl) rfl (some 9) rfl rfl (by rfl) rfl rfl ?_ ?_
  rotate_left
  · simp only [List.map_toArray, List.map_cons, List.map_nil]; go_simp; rfl
  with_reducible refine ((HLV.out _ (bl_from HBV.out hB))).mono ?_
  rintro e w' ⟨A7, c7, zs7, rfl, hz7, he7, ha7, hb⟩
  have HA7 := Lib.hid (And.intro ha7.1 (rw_mono ha7.2 hB.size)); have HE7 := Lib.hid he7; clear hz7 he7 ha7
  refine ⟨_, rfl, .inr (bl_next (by repeat (first | with_reducible exact hB | refine Below.alloc ?_ (by have := hB.size; simp; omega) _ | refine bl_dN ?_ _ | refine Below.drew ?_ | refine Below.setCell ?_ (by have := hB.size; simp; omega) _)) hb), ?_⟩
  have hB := bl_next (by repeat (first | with_reducible exact hB | refine Below.alloc ?_ (by have := hB.size; simp; omega) _ | refine bl_dN ?_ _ | refine Below.drew ?_ | refine Below.setCell ?_ (by have := hB.size; simp; omega) _)) hb; clear hb
  simp only [Act.put, List.setIfInBounds_toArray, List.set_cons_zero, List.set_cons_succ]
  refine sm_take (v := ?_) (a' := ?_) (some 10) rfl rfl (by rfl) ?_ ?_ ?_
  rotate_left; rotate_left
  · intro w' hS; go_simp; with_reducible rfl
  · simp only [Act.put, List.setIfInBounds_toArray, List.set_cons_zero, List.set_cons_succ]; rfl
  refine sm_store none rfl rfl (by rfl) ?_
  apply Exists.intro; apply And.intro
  · have g2 := blk_below HG2.out hB; have z0 := blk_cell g2 0; have y0 := blk_free g2 0; have z1 := blk_cell g2 1; have y1 := blk_free g2 1; have z2 := blk_cell g2 2; have y2 := blk_free g2 2; have z3 := blk_cell g2 3; have y3 := blk_free g2 3; have z4 := blk_cell g2 4; have y4 := blk_free g2 4; have z5 := blk_cell g2 5; have y5 := blk_free g2 5; have z6 := blk_cell g2 6; have y6 := blk_free g2 6; have z7 := blk_cell g2 7; have y7 := blk_free g2 7; have z8 := blk_cell g2 8; have y8 := blk_free g2 8; have z9 := blk_cell g2 9; have y9 := blk_free g2 9; have z10 := blk_cell g2 10; have y10 := blk_free g2 10; go_simp; first | exact ⟨rfl, rfl⟩ | rfl
  apply Exists.intro; apply And.intro
  · simp only [Act.put, List.setIfInBounds_toArray, List.set_cons_zero, List.set_cons_succ]; rfl
  apply And.intro
  · exact .inl rfl
  refine sm_done ?_
  refine name_exit ?_
  intro U hU
  have hzl : zs7.length = nM := by rw [← oxs_len, HE7.out, HSL.out]
  have z0 := blk_cell (blk_below HG2.out hB) 0
  have z1 := blk_cell (blk_below HG2.out hB) 1
  have z2 := blk_cell (blk_below HG2.out hB) 2
  have z3 := blk_cell (blk_below HG2.out hB) 3
  have z4 := blk_cell (blk_below HG2.out hB) 4
  have z5 := blk_cell (blk_below HG2.out hB) 5
  have z6 := blk_cell (blk_below HG2.out hB) 6
  have z7 := blk_cell (blk_below HG2.out hB) 7
  have z8 := blk_cell (blk_below HG2.out hB) 8
  have z9 := blk_cell (blk_below HG2.out hB) 9
  have z10 := blk_cell (blk_below HG2.out hB) 10
  have hk : Kept (fun k => k = w.heap.size) w' U := by
    rw [hU]
    iterate 11 (refine Kept.setCell ?_ _ _ (.inl rfl))
    exact Kept.refl _ _
  have r0 : U.cell? ⟨w.heap.size, 0, none⟩ = some (.int .i64 2) := by rw [hU]; go_simp
  have r1 : U.cell? ⟨w.heap.size, 1, none⟩ = some (.string ⟨#[]⟩) := by rw [hU]; go_simp
  have r2 : U.cell? ⟨w.heap.size, 2, none⟩ = some (.string ⟨#[]⟩) := by rw [hU]; go_simp
  have r3 : U.cell? ⟨w.heap.size, 3, none⟩ = some (.string ⟨#[]⟩) := by rw [hU]; go_simp
  have r4 : U.cell? ⟨w.heap.size, 4, none⟩ = some (.int .i64 0) := by rw [hU]; go_simp
  have r5 : U.cell? ⟨w.heap.size, 5, none⟩ = some (.string ⟨#[]⟩) := by rw [hU]; go_simp
  have r6 : U.cell? ⟨w.heap.size, 6, none⟩ = some (.bool false) := by rw [hU]; go_simp
  have r7 : U.cell? ⟨w.heap.size, 7, none⟩ = some (.bool false) := by rw [hU]; go_simp
  have r8 : U.cell? ⟨w.heap.size, 8, none⟩ = some (.slice none 0 0) := by rw [hU]; go_simp
  have r9 : U.cell? ⟨w.heap.size, 9, none⟩ = some (.int .i64 n) := by rw [hU]; go_simp
  have r10 : U.cell? ⟨w.heap.size, 10, none⟩ = some (.slice A7 zs7.length c7) := by rw [hU]; go_simp
  clear hU
  have hbw := bl_from HBV.out hB
  have hbU : Below w.heap.size w U := hbw.trans (hk.below hbw.size (fun k e => by subst e; exact Nat.le_refl _))
  go_wp2_with fail
  refine bodyPost_ret (v := .agg #[.int .i64 2, .string ⟨#[]⟩, .string ⟨#[]⟩, .string ⟨#[]⟩, .int .i64 0, .string ⟨#[]⟩, .bool false, .bool false, .slice none 0 0, .int .i64 n, .slice A7 zs7.length c7]) (by simp [results, Try.results35, go_sem, r0, r1, r2, r3, r4, r5, r6, r7, r8, r9, r10]) rfl ?_
  have hws : w.heap.size < V.heap.size := blk_lt HG2.out
  have hrow := rw_kept HA7.out.2 hk (fun k e q => by subst q; have := (rw_type HA7.out.2 e).1; omega)
  have hos : ObjsS U (.slice A7 zs7.length c7) zs7 := ⟨sliS_of hrow, fun p hp => (HA7.out.1 p hp).1.below (bl_next HW.out hbU)⟩
  rw [hzl] at hos ⊢
  exact ⟨A7, c7, rfl, Lib.hid ⟨zs7, hos, by rw [HE7.out, HLR.out], hzl⟩, hbU⟩
end Go.Proofs.Ythhfcambdmdgfaa
namespace Go.Proofs.Ythhfcambdmdgfaa
open Go.RowKit Go.Maps Srt
set_option linter.unusedVariables false
set_option linter.unusedSimpArgs false
structure TState (w : World) (base sp mb : Nat) (n k : Nat) (M : AM KS OX) (lv : Value) (L : List LX) : Prop where
  h : HoldsS w base sp mb n k M lv L
  told : ToldL (lxOf L)
  run : mo M = (runL (lxOf L)).1
theorem lxOf_len (L : List LX) : (lxOf L).length = L.length := by simp [lxOf]
theorem TState.below {w w' : World} {base sp mb n k : Nat} {M : AM KS OX} {lv : Value} {L : List LX} (h : TState w base sp mb n k M lv L) (hb : Below w.heap.size w w') : TState w' base sp mb n k M lv L := ⟨⟨h.h.1.below hb, h.h.2⟩, h.told, h.run⟩
theorem TState.start {w : World} {base sp mb : Nat} (h : StoreAt w base sp mb 0 [] (.slice none 0 0) []) : TState w base sp mb 0 0 [] (.slice none 0 0) [] :=
  ⟨⟨h, PInv.nil, rfl, Nat.le_refl _, Nat.le_refl _, by rintro e ⟨⟩⟩, told_nil, rfl⟩
theorem nextM_put {e : Int × ObjD} (h : e.1 = 0) (fl : Int) (m : AO) (G : AM KS Int) : nextM (evL e) fl m G = putA ltKS m (kOf e.2) e.2 := by
  unfold nextM; rw [if_pos (show (evL e).kind = 0 from h)]; rfl
theorem nextM_del {e : Int × ObjD} (h : e.1 = 1) (fl : Int) (m : AO) (G : AM KS Int) : nextM (evL e) fl m G = delA m (kOf e.2) := by
  unfold nextM; rw [if_neg (show ¬ (evL e).kind = 0 by show ¬ e.1 = 0; omega), if_pos (show (evL e).kind = 1 from h)]; rfl
theorem TState.other {w w' : World} {base sp mb n k dp : Nat} {M : AM KS OX} {lv : Value} {L : List LX} {cs : Array Value} (h : TState w base sp mb n k M lv L) (hd : w.heap[dp]? = some (.cells cs 98)) (hk : Kept (fun k => k = dp) w w') : TState w' base sp mb n k M lv L :=
  ⟨⟨h.h.1.kept hk (fun e => by
      have e' : sp = dp := e
      subst e'
      have hc := h.h.1.cell
      rw [hd] at hc; injection hc with hc; injection hc with _ ht; exact absurd ht (by decide)) (fun e => mv_other h.h.1.map hd e.symm) (fun k e q => by subst q; exact rw_other h.h.1.row hd (by decide) e) (fun k e c hc => by subst e; rw [hd] at hc; injection hc with hc; injection hc with _ ht; exact absurd ht (by decide)), h.h.2⟩, h.told, h.run⟩
theorem LogF.other {w w' : World} {b dp : Nat} {v : Value} {ys : List LY} {cs : Array Value} (h : LogF w b v ys) (hd : w.heap[dp]? = some (.cells cs 98)) (hk : Kept (fun k => k = dp) w w') : LogF w' b v ys :=
  ⟨rw_kept h.row hk (fun k e q => by subst q; exact rw_other h.row hd (by decide) e), fun p hp => ⟨(h.res p hp).1.kept hk (fun k e c hc => by subst e; rw [hd] at hc; injection hc with hc; injection hc with _ ht; exact absurd ht (by decide)), ObjsF.kept (h.res p hp).2 hk (fun k e q => by subst q; exact rw_other (h.res p hp).2.1 hd (by decide) e) (fun k e c hc => by subst e; rw [hd] at hc; injection hc with hc; injection hc with _ ht; exact absurd ht (by decide))⟩⟩
theorem kept_to {w w' : World} {B cp : Nat} (hk : Kept (fun k => k = cp) w w') (hb : B ≤ w.heap.size) (hc : B ≤ cp) : Below B w w' := hk.below hb (fun k e => by subst e; exact hc)
theorem snapT_calls {w : World} {base sp mb n k : Nat} {M : AM KS OX} {lv : Value} {L : List LX} (h : TState w base sp mb n k M lv L) (hk : k ≤ 60) {l : List (Int × ObjD)} (hl : lxOf L = l) {nM : Nat} (hM : (runL l).1.length = nM) :
    Calls Try.prog 34 #[.pointer (some ⟨sp, 0, none⟩)] w fun e w' => ∃ A c, e = .returned (.agg #[.int .i64 2, .string ⟨#[]⟩, .string ⟨#[]⟩, .string ⟨#[]⟩, .int .i64 0, .string ⟨#[]⟩, .bool false, .bool false, .slice none 0 0, .int .i64 n, .slice A nM c]) ∧ Hid (∃ zs, ObjsS w' (.slice A nM c) zs ∧ oxs zs = sortM (runL l).1 ∧ zs.length = nM) ∧ Below w.heap.size w w' := by
  subst hl
  have hml : M.length = nM := by rw [← hM, ← h.run, mo_len]
  refine (ssnapshot_calls w h.h.1 (fun q hq => (h.h.2.1.2 q hq).2.2.2.2) h.h.2.1.keys h.h.2.1.texts (by have := h.h.2.2.2.1; have := h.h.2.2.2.2.1; omega)).mono ?_
  rintro e w' ⟨v, zs, rfl, hz, hzs, hb⟩
  have e1 : oxs zs = sortM (runL (lxOf L)).1 := by
    rw [hzs, ← h.run]
    unfold sortM mo
    rw [List.map_map]; rfl
  have e2 : zs.length = nM := by rw [← oxs_len, e1, sortM_len, hM]
  have hzz : ObjsS w' v zs := hz.objsS (fun p hp => by
    have hm : p.1 ∈ oxs zs := List.mem_map.2 ⟨p, hp, rfl⟩
    rw [hzs] at hm
    obtain ⟨q, hq, hqe⟩ := List.mem_map.1 (srtX_mem.1 hm)
    rw [← hqe]
    exact (h.h.1.resM q hq).2.1)
  obtain ⟨A, c, rfl⟩ := hz.form
  rw [e2] at hzz
  exact ⟨A, c, by rw [e2]; rfl, Lib.hid ⟨zs, hzz, e1, e2⟩, hb⟩
/-- The i-th event of a log in memory. -/
theorem log_ex {w : World} {b : Nat} {v : Value} {ys : List LY} {l : List (Int × ObjD)} (h : LogF w b v ys) (he : lyOf ys = l) (ho : ∀ e ∈ l, oIn e.2 ∧ in64 e.1) {i : Nat} (hi : i < l.length) : ∃ g off c, ∃ p : EX, v = .slice (some ⟨g, off, none⟩) l.length c ∧ p.ev = evL (l[i]'hi) ∧ p.xs = [] ∧ ∀ U, LogF U b v ys → EvAt U g (off + i * 11) p.kd p.ob p.sl p.vr p.ol ∧ EvS U p := by
  have hyl : ys.length = l.length := by rw [← he]; simp [lyOf]
  have hk : i < ys.length := by omega
  obtain ⟨g, off, c, e1, _⟩ := y_at (sliS_of h.row) hk
  have e4 : ((ys[i]'hk).1.1, (ys[i]'hk).1.2.1) = l[i]'hi := by subst he; simp [lyOf]
  have h5 := ho _ (List.getElem_mem hi)
  rw [← e4] at h5 ⊢
  refine ⟨g, off, c, ⟨(ys[i]'hk).1.1, (ys[i]'hk).1.2.1, (ys[i]'hk).1.2.2, 0, (ys[i]'hk).2, []⟩, by rw [e1, hyl], rfl, rfl, fun U hU => ?_⟩
  obtain ⟨g', off', c', e2, hq⟩ := y_at (sliS_of hU.row) hk
  rw [e1] at e2
  cases e2
  obtain ⟨h3, h4⟩ := hU.res _ (List.getElem_mem hk)
  exact ⟨hq, ⟨⟨h3.resS h5.1.2, h5.1.1⟩, h4.objsS (fun p hp => by cases hp), h5.2, (show in64 (0 : Int) by unfold in64; omega)⟩⟩
end Go.Proofs.Ythhfcambdmdgfaa
