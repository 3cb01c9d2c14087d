import Derived.Test.YtdcceaafiammfaaFde
import Derived.Test.YtdcceaafiammfaaOwn
namespace Go.Proofs.Ytdcceaafiammfaa
open Go.RowKit Go.Shelf
set_option linter.unusedVariables false
set_option linter.unusedSimpArgs false
attribute [local go_sem] Oper.semAt_some
set_option maxRecDepth 100000 in
set_option maxHeartbeats 2000000 in
theorem fnumsK_in (n : Nat) (hn : 1 ≤ n) (X : Nat → Prop) (l0 eb fx fb E : Nat) (v : Value) (l : List Item) (cov : Nat) (hE : E ≤ l.length) (hl : l.length ≤ 1000000) (J Jx : List (Fin E) → World → Prop) (B : Nat) (hJ : AbidesFrom B J)
    (hY : ∀ pre x W, J pre W → pre.length < E → YieldAt Fence.wide (n - 1) Try.prog l0 #[.int .i64 ((x.1 : Nat) : Int)] W fun e W' => (e = .returned (.bool true) ∧ J (pre ++ [x]) W' ∧ Kept X W W') ∨ (e = .returned (.bool false) ∧ Jx (pre ++ [x]) W'))
    (W : World) (he : W.cell? ⟨eb, 0, none⟩ = some (.int .i64 E)) (hf : W.cell? ⟨fx, 0, none⟩ = some (.pointer (some ⟨fb, 0, none⟩))) (hF : FeedAt W fb v l cov) (hx2 : ¬ X fx) (hx3 : ∀ k, feedX fb v k → ¬ X k) (h0 : J [] W) :
    CallsIn Fence.wide n Try.prog 80 #[.func (.yield l0) #[] #[], .pointer (some ⟨eb, 0, none⟩), .pointer (some ⟨fx, 0, none⟩)] W fun e W' => (∃ v, e = .returned v) ∧
      ((∃ ys, ys.map (·.1) = openTo l cov E ∧ J ys W') ∨ (∃ pre, (∃ k, k < E ∧ stB l cov k = false ∧ pre.map (·.1) = openTo l cov (k + 1)) ∧ Jx pre W')) := by
  refine callsIn_of_wp Try.func80 rfl trivial ?_ rfl
  simp only [Try.ntmps80, List.size_toArray, List.length_cons, List.length_nil, Nat.reduceAdd, Nat.reduceSub, Array.replicate_succ, Array.replicate_zero, List.push_toArray, List.append_toArray, List.nil_append, List.cons_append]
  gi_wp2
  gi_loopw [4, 6] (fun _ i wr => ∃ (k : Nat) (ys : List (Fin E)), k ≤ E ∧ i = .int .i64 k ∧ ys.map (·.1) = openTo l cov k ∧ J ys wr ∧ Kept X W wr) (fun _ i _ => E - (intOf i).toNat)
  case atStart => exact ⟨0, [], Nat.zero_le _, rfl, rfl, h0, Kept.refl _ _⟩
  case round =>
    obtain ⟨k, ys, hk, rfl, hys, hJs, hnx⟩ := hrel
    have HYS := Lib.hid hys
    have hysl : ys.length ≤ k := by have := congrArg List.length hys; rw [List.length_map] at this; rw [this]; exact openTo_length l cov k
    clear hys
    have hfc : wr.cell? ⟨fx, 0, none⟩ = some (.pointer (some ⟨fb, 0, none⟩)) := hnx.cell hf hx2
    have hFr : FeedAt wr fb v l cov := hF.kept hnx hx3
    by_cases hlt : k < E
    · have hkl : k < l.length := by omega
      have hkI : (k : Int) < E := by omega
      obtain ⟨sb, hsb⟩ : ∃ sb, stB l cov k = sb := ⟨_, rfl⟩
      have HSB := Lib.hid hsb
      have HFR := Lib.hid hFr
      cases sb with
      | true =>
        clear hsb hFr
        gi_wp2_with (refine ⟨trivial, ?_⟩; gi_at_call 62; refine (callsIn_wide.2 (fsettled_calls _ HFR.out k hkl hl)).mono ?_; rintro e w' ⟨rfl, hb⟩; rw [HSB.out])
        have hJ1 := hJ _ _ _ none hJs ⟨hb.os, hb.tape, hb.output, hb.size, fun k hk _ => hb.block k hk⟩ (fun r e => by cases e)
        have hnx1 : Kept X W w' := hnx.trans (kept_of_below (X := X) hb) (fun _ h => .inl h)
        refine ⟨fun _ h => (by cases h), ?_⟩
        gi_wp2
        go_roundw
        case rel => exact ⟨k + 1, ys, by omega, by simp, by rw [openTo_succ, HSB.out, HYS.out]; rfl, hJ1, hnx1⟩
        case measure => simp [intOf]; omega
      | false =>
        clear hsb hFr
        have hlen := openTo_length l cov k
        gi_wp2_with (refine ⟨trivial, ?_⟩; gi_at_call 62; refine (callsIn_wide.2 (fsettled_calls _ HFR.out k hkl hl)).mono ?_; rintro e w' ⟨rfl, hb⟩; rw [HSB.out]; have hJ1 := hJ _ _ _ none hJs ⟨hb.os, hb.tape, hb.output, hb.size, fun k hk _ => hb.block k hk⟩ (fun r e => by cases e); obtain ⟨fn, tmps, assign, body, hy, hR⟩ := hY _ ⟨k, hlt⟩ w' hJ1 (by omega); dsimp only at hy)
        have hnx1 : Kept X W w' := hnx.trans (kept_of_below (X := X) hb) (fun _ h => .inl h)
        refine hR.mono ?_
        rintro e W3 (⟨rfl, hJ3, hk3⟩ | ⟨rfl, hJx3⟩)
        · gi_wp2
          go_roundw
          case rel => exact ⟨k + 1, ys ++ [⟨k, hlt⟩], by omega, by simp, by rw [openTo_succ, HSB.out, List.map_append, HYS.out]; rfl, hJ3, hnx1.trans hk3 (fun _ h => .inl h)⟩
          case measure => simp [intOf]; omega
        · gi_wp2
          refine bodyPost_ret (results_none rfl _ _ _) rfl ?_
          exact ⟨⟨_, rfl⟩, .inr ⟨_, ⟨k, hlt, HSB.out, by rw [openTo_succ, HSB.out, List.map_append, HYS.out]; rfl⟩, hJx3⟩⟩
    · obtain rfl : k = E := by omega
      gi_wp2
      go_end0
      exact ⟨⟨_, rfl⟩, .inl ⟨_, HYS.out, hJs⟩⟩
theorem fnumsK_stops (X : Nat → Prop) (n : Nat) (hn : 1 ≤ n) (eb fx fb E : Nat) (v : Value) (l : List Item) (cov : Nat) (hE : E ≤ l.length) (hl : l.length ≤ 1000000)
    (w : World) (he : w.cell? ⟨eb, 0, none⟩ = some (.int .i64 E)) (hf : w.cell? ⟨fx, 0, none⟩ = some (.pointer (some ⟨fb, 0, none⟩))) (hF : FeedAt w fb v l cov) (hx2 : ¬ X fx) (hx3 : ∀ k, feedX fb v k → ¬ X k) :
    SeqStopsK Fence.wide n Try.prog 80 #[.pointer (some ⟨eb, 0, none⟩), .pointer (some ⟨fx, 0, none⟩)] (fun i : Fin E => #[Value.int .i64 ((i.1 : Nat) : Int)]) (Kept X) (fun ys => ys.map (·.1) = openTo l cov E) (fun pre => ∃ k, k < E ∧ stB l cov k = false ∧ pre.map (·.1) = openTo l cov (k + 1)) E w :=
  fun l0 J Jx W hW hJ hJx hY h0 =>
    fnumsK_in n hn X l0 eb fx fb E v l cov hE hl J Jx _ hJ hY W (cb hW he) (cb hW hf) (hF.below hW) hx2 hx3 h0
theorem keptK_t {X : Nat → Prop} {A B C : World} (h : Kept X A B) (k : Kept X B C) : Kept X A C := h.trans k (fun _ h => .inl h)
theorem keptK_b {X : Nat → Prop} {w : World} (hX : ∀ k, w.heap.size ≤ k → X k) (W : World) (l : Nat) (o o' : Obj) (hl : w.heap.size ≤ l) (h : W.heap[l]? = some o) (_ : o.isCells = false) (_ : o.isWalk = false) : Kept X W (W.putObj l o') :=
  (Kept.refl X W).grown (grownBy_putObj' W l o') (fun k e => by cases e; exact .inl (hX _ hl))
def openL (l : List Item) (cov : Nat) : List Nat := (openTo l cov l.length).filter fun i => decide ((itemAt l i).st = 0)
def openP (l : List Item) (pre : List Nat) : List Value := (pre.filter fun i => decide ((itemAt l i).st = 0)).map fun i => Value.int .i64 ((i : Nat) : Int)
theorem own_mono' {w : World} {base base' sz n : Nat} {e : TypeId} {v : Value} {xs : List Value} (h : w.ownsRow base e sz v n xs) (hb : base' ≤ base) : w.ownsRow base' e sz v n xs := by
  refine ⟨h.1, ?_⟩
  rcases h.2 with h0 | ⟨g, cap, cur, hv, hg, r⟩
  · exact .inl h0
  · exact .inr ⟨g, cap, cur, hv, by omega, r⟩
set_option maxRecDepth 100000 in
set_option maxHeartbeats 4000000 in
theorem fopen_calls {fp : Nat} {v : Value} {l : List Item} {cov : Nat} (w : World) (h : FeedAt w fp v l cov) (hl : l.length ≤ 1000000) :
    Calls Try.prog 18 #[.pointer (some ⟨fp, 0, none⟩)] w fun e w' => ∃ v, e = .returned v ∧ Own w' w.heap.size 3 v (openP l (openTo l cov l.length)) ∧ Below w.heap.size w w' := by
  have H := Lib.hid h
  have hlt := Lib.hid h.lt
  obtain ⟨i0, hi, hz0, hz1, hz2⟩ := info_parts info_int
  clear h
  refine (callsIn_wide (n := 6)).1 ?_
  refine callsIn_of_wp_marks Try.func18 rfl trivial ?_ rfl
  simp only [Try.ntmps18, List.size_toArray, List.length_cons, List.length_nil, Nat.reduceAdd, Nat.reduceSub, Array.replicate_succ, Array.replicate_zero, List.push_toArray, List.append_toArray, List.nil_append, List.cons_append]
  refine wpIn_wide.2 ?_
  go_upto_region 2 with fail
  first | with_reducible refine name_wp ?_ | with_reducible refine name_calls ?_
  intro W hWeq
  have g0 : W.heap[w.heap.size]? = some (.cells #[.pointer (some ⟨fp, 0, none⟩)] 25) := by rw [hWeq]; repeat (first | (with_reducible exact blk_newAt _ _ (by simp)) | with_reducible refine blk_drew ?_ | with_reducible refine blk_dN ?_ _ | with_reducible refine blk_old ?_ _)
  have g1 : W.heap[w.heap.size + 1]? = some (.cells #[.slice none 0 0] 29) := by rw [hWeq]; repeat (first | (with_reducible exact blk_newAt _ _ (by simp)) | with_reducible refine blk_drew ?_ | with_reducible refine blk_dN ?_ _ | with_reducible refine blk_old ?_ _)
  have hw : Below w.heap.size w W := by rw [hWeq]; repeat (first | with_reducible exact Below.refl _ _ | with_reducible refine Below.drew ?_ | with_reducible refine bl_dN ?_ _ | with_reducible refine Below.alloc ?_ (by simp <;> omega) _)
  clear hWeq
  have hz : w.heap.size + 2 ≤ W.heap.size := by have := blk_lt g1; omega
  have c0_0 : W.cell? ⟨w.heap.size, 0, none⟩ = some (.pointer (some ⟨fp, 0, none⟩)) := blk_cell g0 0
  have f0 : ∀ j, W.frozen? ⟨w.heap.size, j, none⟩ = false := blk_free g0
  have c1_0 : W.cell? ⟨w.heap.size + 1, 0, none⟩ = some (.slice none 0 0) := blk_cell g1 0
  have f1 : ∀ j, W.frozen? ⟨w.heap.size + 1, j, none⟩ = false := blk_free g1
  have hB : Below W.heap.size W W := Below.refl _ _
  have G0 := Lib.hid g0; clear g0
  have F0 := Lib.hid f0; clear f0
  have G1 := Lib.hid g1; clear g1
  have F1 := Lib.hid f1; clear f1
  have Hw := Lib.hid hw; clear hw
  have HW := Lib.hid (H.out.below Hw.out)
  have hB := hB.drew
  refine region_seqN (fun w' => Below W.heap.size W w') [(0, true), (1, true), (2, false), (3, false)] (by kernel_rfl) (by kernel_rfl) hB ?_
  try generalize World.drew _ = wS at hB ⊢
  refine seq_take (v := ?_) (a' := ?_) (some 5) rfl rfl (by rfl) ?_ ?_ ?_
  rotate_left; rotate_left
  · intro w' hS; have s0_0 := cb hS c0_0; have s1_0 := cb hS c1_0; go_simp; with_reducible rfl
  · simp only [Act.put, List.setIfInBounds_toArray, List.set_cons_zero, List.set_cons_succ]; rfl
  refine seq_take (v := ?_) (a' := ?_) (some 6) rfl rfl (by rfl) ?_ ?_ ?_
  rotate_left; rotate_left
  · intro w' hS; have s0_0 := cb hS c0_0; have s1_0 := cb hS c1_0; go_simp; with_reducible rfl
  · simp only [Act.put, List.setIfInBounds_toArray, List.set_cons_zero, List.set_cons_succ]; rfl
  refine seq_call (args := ?_) Try.func20 (by kernel_rfl) rfl (some 7) rfl rfl (by rfl) rfl ?_ ?_
  rotate_left
  · simp only [List.map_toArray, List.map_cons, List.map_nil]; go_simp; rfl
  with_reducible refine (flen_calls _ (HW.out.below (by first | exact hB | exact hB.drew))).mono ?_
  rintro e w' ⟨rfl, hb⟩
  refine ⟨_, rfl, bl_next (by repeat (first | with_reducible exact hB | refine Below.alloc ?_ (by have := hB.size; simp; omega) _ | refine bl_dN ?_ _ | refine Below.drew ?_ | refine Below.setCell ?_ (by have := hB.size; simp; omega) _)) hb, ?_⟩
  have hB := bl_next (by repeat (first | with_reducible exact hB | refine Below.alloc ?_ (by have := hB.size; simp; omega) _ | refine bl_dN ?_ _ | refine Below.drew ?_ | refine Below.setCell ?_ (by have := hB.size; simp; omega) _)) hb; clear hb
  simp only [Act.put, List.setIfInBounds_toArray, List.set_cons_zero, List.set_cons_succ]
  refine seq_call (args := ?_) Try.func60 (by kernel_rfl) rfl (some 8) rfl rfl (by rfl) rfl ?_ ?_
  rotate_left
  · simp only [List.map_toArray, List.map_cons, List.map_nil]; go_simp; rfl
  with_reducible refine (fnums_calls _ fp l.length).mono ?_
  rintro e w' ⟨rfl, q0, q1, qz, hb⟩
  have hBq := hB.size
  refine ⟨_, rfl, bl_next (by repeat (first | with_reducible exact hB | refine Below.alloc ?_ (by have := hB.size; simp; omega) _ | refine bl_dN ?_ _ | refine Below.drew ?_ | refine Below.setCell ?_ (by have := hB.size; simp; omega) _)) hb, ?_⟩
  have hB := bl_next (by repeat (first | with_reducible exact hB | refine Below.alloc ?_ (by have := hB.size; simp; omega) _ | refine bl_dN ?_ _ | refine Below.drew ?_ | refine Below.setCell ?_ (by have := hB.size; simp; omega) _)) hb; clear hb
  simp only [Act.put, List.setIfInBounds_toArray, List.set_cons_zero, List.set_cons_succ]
  refine seqN_done ?_
  obtain ⟨V, rfl⟩ : ∃ V : World, V = w' := ⟨_, rfl⟩
  go_wp2_with fail
  have hWz := Hw.out.size
  generalize w'.heap.size = fx at q0 q1 hBq
  have hfx : w.heap.size + 2 ≤ fx := by omega
  refine (wpIn_wide (n := 5)).1 ?_
  have HV := HW.out.below hB
  have k0_0 := cb hB c0_0
  have bO : Boxed V (w.heap.size + 1) 29 (.slice none 0 0) := blk_below G1.out hB
  refine wpIn_rangeFunc_ownF rfl (by decide) (gf := 80) rfl trivial (enters_of Try.func80 (by kernel_rfl) rfl)
    (fnumsK_stops (fun k => V.heap.size ≤ k ∨ k = w.heap.size + 1) 4 (by decide) _ _ fp l.length _ l cov (Nat.le_refl _) hl V q1 q0 HV (by have h1 : fx < V.heap.size := lt_of_cell q0; show ¬ (V.heap.size ≤ fx ∨ fx = w.heap.size + 1); omega) (fun k hk => by have := hlt.out k hk; have := hB.size; show ¬ (V.heap.size ≤ k ∨ k = w.heap.size + 1); omega)) keptK_t (keptK_b (fun k hk => .inl hk)) (Below.refl _ _) (fun _ => rfl)
    (fun pre U => ((∃ v, Boxed U (w.heap.size + 1) 29 v ∧ U.ownsRow V.heap.size 3 1 v (openP l (pre.map (·.1))).length (openP l (pre.map (·.1))) ∧ True) ∧ U.cell? ⟨w.heap.size, 0, none⟩ = some (.pointer (some ⟨fp, 0, none⟩)) ∧ V.heap.size ≤ U.heap.size) ∧ Below w.heap.size w U)
    (fun c pre U => False)
    ?hI ?hIx ?h0 ?a1 ?assign ?body ?done ?stop
  case assign =>
    intro l1 x U K hK
    gi_wp2
    exact hK
  case hI =>
    refine OwnFrom.and (Own.from (fun s A B row hs hg hr => ⟨holdsRow_own V.heap.size (w.heap.size + 1) 29 3 1 (fun pre => (openP l (List.map (fun x : Fin l.length => x.1) pre)).length) (fun pre => openP l (List.map (fun x : Fin l.length => x.1) pre)) (fun _ _ => True) s A B row hs.1 hg hr, cell_kept hs.2.1 hg hr, Nat.le_trans hs.2.2 hg.size⟩) _) (ownFrom_below (Nat.le_refl _) (by have := hB.size; have := Hw.out.size; omega))
  case hIx =>
    intro c s A B row hs _ _
    exact hs.elim
  case h0 => exact ⟨⟨⟨_, bO, World.ownsRow_nil _ _ _ _, trivial⟩, k0_0, Nat.le_refl _⟩, bl_from Hw.out hB⟩
  case body =>
    rintro l1 pre x U ⟨⟨⟨vo, hvo, hrow, -⟩, u0, hVU⟩, hbU⟩ hpl
    have HU := H.out.below hbU
    have hx := x.2
    have hxI : ((x.1 : Nat) : Int) < l.length := by omega
    obtain ⟨g, cap, rfl, -, a0, a1, a2, a3, -⟩ := item_cells HU x.1 hx
    have d0 := blk_cell HU.box 0
    have HZ := itemAt_eq hx
    generalize l[x.1]'hx = z at a0 a1 a2 a3 HZ
    have hc := hvo.cell
    have hpn : (openP l (pre.map (·.1))).length ≤ pre.length := by unfold openP; rw [List.length_map]; exact Nat.le_trans (List.length_filter_le _ _) (by simp)
    have hVw : w.heap.size + 2 ≤ V.heap.size := by have := hB.size; omega
    have hsz : V.heap.size ≤ (U.alloc (.cells #[.int .i64 ((x.1 : Nat) : Int)] 3)).heap.size := by simp; omega
    clear a0 a1 a2
    have HP := Lib.hid (show openP l ((pre ++ [x]).map (·.1)) = if z.st = 0 then openP l (pre.map (·.1)) ++ [.int .i64 ((x.1 : Nat) : Int)] else openP l (pre.map (·.1)) by
      unfold openP
      rw [List.map_append, List.filter_append, List.map_append]
      by_cases q : z.st = 0 <;> simp [HZ, q])
    by_cases hz : z.st = 0
    · have hzb : ((z.st : Int) == 0) = true := by simp; omega
      have HP := Lib.hid (HP.out.trans (if_pos hz))
      gi_wp2_with (gi_at_builtin; refine wpListIn_append_own _ rfl _ _ 29 rfl V.heap.size 3 i0 (.int .i64 0) 1 8 Try.underlying29 hi hz0 hz1 hz2 rfl (by decide) _ _ _ rfl (hrow.alloc _) ⟨U.heap.size, 0, none⟩ 1 1 [.int .i64 ((x.1 : Nat) : Int)] rfl rfl (fun j y hj => by match j, hj with | 0, hj => simp at hj; subst hj; exact blk_cell (blk_new U _) 0) (by simp [Value.oneCell']) (by unfold maxLen; omega) (by omega) (by simp; omega) ?_; intro v' w1 hown' hgrow _; obtain ⟨g', cap', rfl⟩ := ownsRow_succ hown'; obtain ⟨hv1, hv2, hr2, hk2, hb2⟩ := hvo.appended (by decide) (own_mono' hrow (by omega : w.heap.size ≤ V.heap.size)) hbU.size (by omega) (own_mono' hown' (by omega : w.heap.size ≤ V.heap.size)) hgrow; have hc1 := hv1.cell; have hf1 := hv1.frozen)
      have hkX : Kept (fun k => V.heap.size ≤ k ∨ k = w.heap.size + 1) U (w1.setCell ⟨w.heap.size + 1, 0, none⟩ (.slice (some ⟨g', 0, none⟩) ((openP l (pre.map (·.1))).length + 1) cap')) :=
        (((Kept.refl _ U).alloc _).grown hgrow (fun k hk => .inl (.inl (World.ownsRow.lt hrow k hk).1))).setCell ⟨w.heap.size + 1, 0, none⟩ _ (.inl (.inr rfl))
      have hr3 := hown'.kept (grownBy_setCell' w1 (w.heap.size + 1) (.slice (some ⟨g', 0, none⟩) ((openP l (pre.map (·.1))).length + 1) cap')) (.inr (hv1.not_row (by decide) hown').symm)
      refine ⟨hk2, hkX, ⟨⟨_, hv2, ?_⟩, hkX.cell u0 (by show ¬ (V.heap.size ≤ w.heap.size ∨ w.heap.size = w.heap.size + 1); omega), Nat.le_trans hVU hkX.size⟩, hbU.trans hb2⟩
      rw [HP.out, List.length_append]; exact hr3
    · have hzb : ((z.st : Int) == 0) = false := by simp; omega
      have HP := Lib.hid (HP.out.trans (if_neg hz))
      gi_wp2
      exact ⟨KeepsOthers.refl _, Kept.refl _ _, ⟨⟨_, hvo, by rw [HP.out]; exact hrow⟩, u0, hVU⟩, hbU⟩
  case done =>
    rintro D xs U hD hxs ⟨⟨⟨vo, hvo, hrow, -⟩, u0, hVU⟩, hbU⟩ hK
    have hc := hvo.cell
    go_wp2
    have hVw : w.heap.size + 2 ≤ V.heap.size := by have := hB.size; omega
    have e : openP l (xs.map (·.1)) = openP l (openTo l cov l.length) := by rw [← hxs]
    refine ⟨by simp, .inl ⟨_, _, rfl, run_takeDeferred hK, ?_⟩⟩
    refine ⟨_, results_tmp rfl _ _ _, vo, rfl, ?_, hbU.grown (grownBy_putObj' _ D (.deferred none)) hbU.size (fun k e => by cases e; omega)⟩
    unfold Own
    rw [← e]
    exact ownsRow_putObj (own_mono' hrow (by omega)) _ hK rfl
  case stop =>
    rintro D c pre U hD hsp hf _
    exact hf.elim
end Go.Proofs.Ytdcceaafiammfaa
