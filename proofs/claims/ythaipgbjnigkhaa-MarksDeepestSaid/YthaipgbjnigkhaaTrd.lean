import Derived.Test.YthaipgbjnigkhaaTrc
import Derived.Test.YthaipgbjnigkhaaShelf
import Derived.Test.YthaipgbjnigkhaaStrs
namespace Go.Proofs.Ythaipgbjnigkhaa
open Go.RowKit Go.Shelf Go.Maps
set_option linter.unusedVariables false
set_option linter.unusedSimpArgs false
attribute [local go_sem] Oper.semAt_some
/-! ### No tree -/
theorem up0_in (n : Nat) (hn : 1 ≤ n) (l0 eb fx : Nat) (s : ByteArray) (J Jx : List (Fin 0) → World → Prop) (B : Nat) (hJ : AbidesFrom B J)
    (W : World) (he : W.cell? ⟨eb, 0, none⟩ = some (.string s)) (hf : W.cell? ⟨fx, 0, none⟩ = some (.pointer none)) (h0 : J [] W) :
    CallsIn Fence.wide n Try.prog 92 #[.func (.yield l0) #[] #[], .pointer (some ⟨eb, 0, none⟩), .pointer (some ⟨fx, 0, none⟩)] W fun e W' => (∃ v, e = .returned v) ∧
      ((∃ ys, True ∧ J ys W') ∨ (∃ pre, False ∧ Jx pre W')) := by
  refine callsIn_of_wp Try.func92 rfl trivial ?_ rfl
  simp only [Try.ntmps92, List.size_toArray, List.length_cons, List.length_nil, Nat.reduceAdd, Nat.reduceSub, Array.replicate_succ, Array.replicate_zero, List.push_toArray, List.append_toArray, List.nil_append, List.cons_append]
  gi_wp2
  gi_loopw [4] (fun v wr => v = .string s ∧ wr = W) (fun v _ => 0)
  case atStart => exact ⟨rfl, rfl⟩
  case round =>
    obtain ⟨rfl, rfl⟩ := hrel
    gi_wp2_with (refine ⟨trivial, ?_⟩; gi_at_call 25; refine (callsIn_wide.2 (has_nil _ _)).mono ?_; rintro e w' ⟨rfl, hb⟩)
    have hJ1 := hJ _ _ _ none h0 ⟨hb.os, hb.tape, hb.output, hb.size, fun k hk _ => hb.block k hk⟩ (fun r e => by cases e)
    go_end0
    exact ⟨⟨_, rfl⟩, .inl ⟨_, trivial, hJ1⟩⟩
theorem up0_stops (n : Nat) (hn : 1 ≤ n) (eb fx : Nat) (s : ByteArray) (w : World) (he : w.cell? ⟨eb, 0, none⟩ = some (.string s)) (hf : w.cell? ⟨fx, 0, none⟩ = some (.pointer none)) :
    SeqStopsK Fence.wide n Try.prog 92 #[.pointer (some ⟨eb, 0, none⟩), .pointer (some ⟨fx, 0, none⟩)] (fun x : Fin 0 => #[Value.string ⟨#[]⟩]) (fun _ _ => True) (fun ys => True) (fun pre => False) 0 w :=
  fun l0 J Jx W hW hJ _ _ h0 => up0_in n hn l0 eb fx s J Jx _ hJ W (cb hW he) (cb hW hf) h0
set_option maxRecDepth 100000 in
set_option maxHeartbeats 4000000 in
theorem path_nil (w : World) (s : ByteArray) : Calls Try.prog 19 #[.pointer none, .string s] w fun e w' => e = .returned (.slice none 0 0) ∧ Below w.heap.size w w' := by
  refine (callsIn_wide (n := 6)).1 ?_
  refine callsIn_of_wp_marks Try.func19 rfl trivial ?_ rfl
  simp only [Try.ntmps19, List.size_toArray, List.length_cons, List.length_nil, Nat.reduceAdd, Nat.reduceSub, Array.replicate_succ, Array.replicate_zero, List.push_toArray, List.append_toArray, List.nil_append, List.cons_append]
  refine wpIn_wide.2 ?_
  go_upto_region 2 with fail
  first | with_reducible refine name_wp ?_ | with_reducible refine name_calls ?_
  intro W hWeq
  have g0 : W.heap[w.heap.size]? = some (.cells #[.slice none 0 0] 35) := by rw [hWeq]; repeat (first | (with_reducible exact blk_newAt _ _ (by simp)) | with_reducible refine blk_drew ?_ | with_reducible refine blk_dN ?_ _ | with_reducible refine blk_old ?_ _)
  have hw : Below w.heap.size w W := by rw [hWeq]; repeat (first | with_reducible exact Below.refl _ _ | with_reducible refine Below.drew ?_ | with_reducible refine bl_dN ?_ _ | with_reducible refine Below.alloc ?_ (by simp <;> omega) _)
  clear hWeq
  have hz : w.heap.size + 1 ≤ W.heap.size := by have := blk_lt g0; omega
  have c0_0 : W.cell? ⟨w.heap.size, 0, none⟩ = some (.slice none 0 0) := blk_cell g0 0
  have f0 : ∀ j, W.frozen? ⟨w.heap.size, j, none⟩ = false := blk_free g0
  have hB : Below W.heap.size W W := Below.refl _ _
  have G0 := Lib.hid g0; clear g0
  have F0 := Lib.hid f0; clear f0
  have Hw := Lib.hid hw; clear hw
  go_wp2_with (go_at_call 65; refine (up_calls _ _ s).mono ?_; rintro e w' ⟨rfl, q0, q1, qz, hb⟩; have hB := bl_next hB hb; clear hb)
  obtain ⟨V, rfl⟩ : ∃ V : World, V = w' := ⟨_, rfl⟩
  refine (wpIn_wide (n := 5)).1 ?_
  have k0_0 := cb hB c0_0
  have hWz : w.heap.size + 1 ≤ W.heap.size := by have := blk_lt G0.out; omega
  have hVw : W.heap.size + 2 ≤ V.heap.size := qz
  refine wpIn_rangeFunc_ownF rfl (by decide) (gf := 92) rfl trivial (enters_of Try.func92 (by kernel_rfl) rfl)
    (up0_stops 4 (by decide) _ _ s V q1 q0) (fun _ _ => trivial) (fun _ _ _ _ _ _ _ _ => trivial) (Below.refl _ _) (fun _ => rfl)
    (fun pre U => U.cell? ⟨w.heap.size, 0, none⟩ = some (.slice none 0 0) ∧ Below w.heap.size w U)
    (fun c pre U => False)
    ?hI ?hIx ?h0 ?a1 ?assign ?body ?done ?stop
  case assign =>
    intro l1 x U K hK
    exact x.elim0
  case a1 => exact fun x => x.elim0
  case hI => exact OwnFrom.and (Own.from (fun s A B row hs hg hr => cell_kept hs hg hr) _) (ownFrom_below (Nat.le_refl _) (by omega))
  case hIx =>
    intro c s A B row hs _ _
    exact hs.elim
  case h0 => exact ⟨k0_0, bl_from Hw.out hB⟩
  case body =>
    intro l1 pre x
    exact x.elim0
  case done =>
    rintro D xs U hD hxs ⟨hc, hbU⟩ hK
    go_wp2
    refine ⟨by simp, .inl ⟨_, _, rfl, run_takeDeferred hK, ?_⟩⟩
    exact ⟨_, results_tmp rfl _ _ _, rfl, hbU.grown (grownBy_putObj' _ D (.deferred none)) hbU.size (fun k e => by cases e; omega)⟩
  case stop =>
    rintro D c pre U hD hsp hf _
    exact hf.elim
/-! ### All -/
theorem enc_all (N : Nodes) : (N.map fun p => p.1.data.toList).map Go.Proofs.encStr = strC (allN N) := by
  unfold strC allN
  rw [List.map_map, List.map_map]
  refine List.map_congr_left fun p _ => ?_
  simp [Go.Proofs.encStr]
set_option maxHeartbeats 1000000 in
theorem all_calls {tp mb : Nat} {N : Nodes} (w : World) (h : TreeAt w tp mb N) (G : Good11 N) :
    Calls Try.prog 17 #[.pointer (some ⟨tp, 0, none⟩)] w fun e w' => ∃ v, e = .returned v ∧ w'.ownsRow w.heap.size 9 1 v (allN N).length (strC (allN N)) ∧ Below w.heap.size w w' := by
  have c0 := blk_cell h.box 0
  have HM := Lib.hid h.map
  have hsz : Maps.size (dm N) ≤ maxLen := by rw [size_dm]; have := G.few; unfold Go.maxLen; omega
  have hby : Maps.size (dm N) * 16 ≤ 140737488355328 := by rw [size_dm]; have := G.few; omega
  have HS := Lib.hid hsz; have HBY := Lib.hid hby
  clear h hsz hby
  refine (callsIn_wide (n := 6)).1 ?_
  have hfK : Fence.wide.fn 64 := trivial
  have hfS : Fence.wide.fn 63 := trivial
  refine callsIn_of_wp Try.func17 rfl trivial ?_ rfl
  simp only [Try.ntmps17, List.size_toArray, List.length_cons, List.length_nil, Nat.reduceAdd, Nat.reduceSub, Array.replicate_succ, Array.replicate_zero, List.push_toArray, List.append_toArray, List.nil_append, List.cons_append]
  gi_wp2_with (first
    | (gi_at_call 64; refine (Try.maps_Keys_64 _ _).mono ?_; rintro e w' ⟨rfl, rfl⟩)
    | (gi_at_call 63; refine (Try.slices_Sorted_keys_63_64 mb N.length (dm N) RV w HM.out HS.out HBY.out).mono ?_; rintro e w' ⟨v, ss, rfl, hS, hrow, hnil, hb⟩))
  go_ret
  refine ⟨v, rfl, ?_, ((Below.refl _ w).alloc (Nat.le_refl _) _).trans (hb.mono (by simp))⟩
  have e1 : ss.mergeSort (fun x y => decide (x ≤ y)) = N.map fun p => p.1.data.toList := by
    rw [strKeys_dm] at hS
    exact (mergeSort_of_perm hS).trans (sorted_dm G.rise)
  have e2 : ss.length = (allN N).length := by have := hS.length_eq; rw [strKeys_dm] at this; simpa [allN] using this
  rw [e1, e2, enc_all] at hrow
  exact rw_mono hrow (by simp)
theorem all_nil (w : World) : Calls Try.prog 17 #[.pointer none] w fun e w' => e = .returned (.slice none 0 0) ∧ Below w.heap.size w w' := by
  have hB := Below.refl w.heap.size w
  go_enter Try.func17, Try.ntmps17
  go_wp2
  go_ret
  exact ⟨rfl, hB⟩

/-! ### What holds of a node -/
theorem child1_calls {tp mb : Nat} {N : Nodes} (w : World) (h : TreeAt w tp mb N) (fx eb : Nat) (s x : ByteArray) (hf : w.cell? ⟨fx, 0, none⟩ = some (.pointer (some ⟨tp, 0, none⟩))) (he : w.cell? ⟨eb, 0, none⟩ = some (.string s)) (hx : x.size ≤ 1000) :
    Calls Try.prog 67 #[.string x, .pointer (some ⟨fx, 0, none⟩), .pointer (some ⟨eb, 0, none⟩)] w fun e w' => e = .returned (.bool (!decide (x = rootB) && decide (parN N x = s))) ∧ Below w.heap.size w w' := by
  have c0 := blk_cell h.box 0
  have hlk : ∀ w', Below w.heap.size w w' → (Instr.lookup 84 (.map (some mb)) (.string x) false).run Try.prog w' = .ok (.string (parN N x)) w' := fun w' hb => tree_look (h.below hb) (by omega)
  have HLK := Lib.hid hlk
  generalize parN N x = p at HLK
  clear h hlk
  obtain ⟨W, rfl⟩ : ∃ W : World, W = w := ⟨_, rfl⟩
  have hB := Below.refl W.heap.size W
  by_cases hr : x = rootB
  · subst hr
    go_enter Try.func67, Try.ntmps67
    unfold rootB
    go_upto_region 1 with fail
    have hB := hB.drew
    refine region_seq (fun w' => Below W.heap.size W w') [(0, true), (1, true), (2, true), (3, true), (4, true), (5, true), (6, true), (7, true), (8, true), (9, true), (10, true), (11, true), (12, true)] (by kernel_rfl) (by kernel_rfl) (fun _ _ _ _ h => h) hB ?_
    try generalize World.drew _ = wS at hB ⊢
    refine seq_take (v := ?_) (a' := ?_) (some 5) rfl rfl (by rfl) ?_ ?_ ?_
    rotate_left; rotate_left
    · intro w' hS; go_simp; with_reducible rfl
    · simp only [Act.put, List.setIfInBounds_toArray, List.set_cons_zero, List.set_cons_succ]; rfl
    refine seq_take (v := ?_) (a' := ?_) (some 6) rfl rfl (by rfl) ?_ ?_ ?_
    rotate_left; rotate_left
    · intro w' hS; go_simp; with_reducible rfl
    · simp only [Act.put, List.setIfInBounds_toArray, List.set_cons_zero, List.set_cons_succ]; rfl
    refine seq_take (v := ?_) (a' := ?_) (some 7) rfl rfl (by rfl) ?_ ?_ ?_
    rotate_left; rotate_left
    · intro w' hS; go_simp; with_reducible rfl
    · simp only [Act.put, List.setIfInBounds_toArray, List.set_cons_zero, List.set_cons_succ]; rfl
    refine seq_skip (a' := ?_) (some 8) rfl rfl (by rfl) ?_ ?_
    rotate_left
    · simp only [Act.put, List.setIfInBounds_toArray, List.set_cons_zero, List.set_cons_succ]; rfl
    refine seq_skip (a' := ?_) (some 9) rfl rfl (by rfl) ?_ ?_
    rotate_left
    · simp only [Act.put, List.setIfInBounds_toArray, List.set_cons_zero, List.set_cons_succ]; rfl
    refine seq_skip (a' := ?_) (some 10) rfl rfl (by rfl) ?_ ?_
    rotate_left
    · simp only [Act.put, List.setIfInBounds_toArray, List.set_cons_zero, List.set_cons_succ]; rfl
    refine seq_skip (a' := ?_) (some 11) rfl rfl (by rfl) ?_ ?_
    rotate_left
    · simp only [Act.put, List.setIfInBounds_toArray, List.set_cons_zero, List.set_cons_succ]; rfl
    refine seq_skip (a' := ?_) (some 12) rfl rfl (by rfl) ?_ ?_
    rotate_left
    · simp only [Act.put, List.setIfInBounds_toArray, List.set_cons_zero, List.set_cons_succ]; rfl
    refine seq_skip (a' := ?_) (some 13) rfl rfl (by rfl) ?_ ?_
    rotate_left
    · simp only [Act.put, List.setIfInBounds_toArray, List.set_cons_zero, List.set_cons_succ]; rfl
    refine seq_skip (a' := ?_) (some 14) rfl rfl (by rfl) ?_ ?_
    rotate_left
    · simp only [Act.put, List.setIfInBounds_toArray, List.set_cons_zero, List.set_cons_succ]; rfl
    refine seq_skip (a' := ?_) (some 15) rfl rfl (by rfl) ?_ ?_
    rotate_left
    · simp only [Act.put, List.setIfInBounds_toArray, List.set_cons_zero, List.set_cons_succ]; rfl
    refine seq_take (v := ?_) (a' := ?_) (some 16) rfl rfl (by rfl) ?_ ?_ ?_
    rotate_left; rotate_left
    · intro w' hS; go_simp; with_reducible rfl
    · simp only [Act.put, List.setIfInBounds_toArray, List.set_cons_zero, List.set_cons_succ]; rfl
    refine seq_take (v := ?_) (a' := ?_) (some 4) rfl rfl (by rfl) ?_ ?_ ?_
    rotate_left; rotate_left
    · intro w' hS; go_simp; with_reducible rfl
    · simp only [Act.put, List.setIfInBounds_toArray, List.set_cons_zero, List.set_cons_succ]; rfl
    refine seq_done ?_
    go_wp2
    go_ret
    exact ⟨ret_bool (by simp), hB⟩
  · have hrb : (x.toList == [114, 111, 111, 116]) = false := by
      cases q : (x.toList == [114, 111, 111, 116]) with
      | false => rfl
      | true => exact absurd (ba_eq.1 (show x.toList = rootB.toList by rw [beq_iff_eq] at q; rw [q]; decide +kernel)) hr
    go_enter Try.func67, Try.ntmps67
    go_upto_region 1 with fail
    have hB := hB.drew
    refine region_seq (fun w' => Below W.heap.size W w') [(0, true), (1, true), (2, true), (3, true), (4, true), (5, true), (6, true), (7, true), (8, true), (9, true), (10, true), (11, true), (12, true)] (by kernel_rfl) (by kernel_rfl) (fun _ _ _ _ h => h) hB ?_
    try generalize World.drew _ = wS at hB ⊢
    refine seq_take (v := ?_) (a' := ?_) (some 5) rfl rfl (by rfl) ?_ ?_ ?_
    rotate_left; rotate_left
    · intro w' hS; go_simp; with_reducible rfl
    · simp only [Act.put, List.setIfInBounds_toArray, List.set_cons_zero, List.set_cons_succ]; rfl
    refine seq_take (v := ?_) (a' := ?_) (some 6) rfl rfl (by rfl) ?_ ?_ ?_
    rotate_left; rotate_left
    · intro w' hS; go_simp; with_reducible rfl
    · simp only [Act.put, List.setIfInBounds_toArray, List.set_cons_zero, List.set_cons_succ]; rfl
    refine seq_take (v := ?_) (a' := ?_) (some 7) rfl rfl (by rfl) ?_ ?_ ?_
    rotate_left; rotate_left
    · intro w' hS; go_simp; with_reducible rfl
    · simp only [Act.put, List.setIfInBounds_toArray, List.set_cons_zero, List.set_cons_succ]; rfl
    refine seq_take (v := ?_) (a' := ?_) (some 8) rfl rfl (by rfl) ?_ ?_ ?_
    rotate_left; rotate_left
    · intro w' hS; have q0 := cb hS hf; have q1 := cb hS he; have q2 := cb hS c0; have q3 := HLK.out _ hS; go_simp; with_reducible rfl
    · simp only [Act.put, List.setIfInBounds_toArray, List.set_cons_zero, List.set_cons_succ]; rfl
    refine seq_take (v := ?_) (a' := ?_) (some 9) rfl rfl (by rfl) ?_ ?_ ?_
    rotate_left; rotate_left
    · intro w' hS; go_simp; with_reducible rfl
    · simp only [Act.put, List.setIfInBounds_toArray, List.set_cons_zero, List.set_cons_succ]; rfl
    refine seq_take (v := ?_) (a' := ?_) (some 10) rfl rfl (by rfl) ?_ ?_ ?_
    rotate_left; rotate_left
    · intro w' hS; go_simp; with_reducible rfl
    · simp only [Act.put, List.setIfInBounds_toArray, List.set_cons_zero, List.set_cons_succ]; rfl
    refine seq_take (v := ?_) (a' := ?_) (some 11) rfl rfl (by rfl) ?_ ?_ ?_
    rotate_left; rotate_left
    · intro w' hS; have q0 := cb hS hf; have q1 := cb hS he; have q2 := cb hS c0; have q3 := HLK.out _ hS; go_simp; with_reducible rfl
    · simp only [Act.put, List.setIfInBounds_toArray, List.set_cons_zero, List.set_cons_succ]; rfl
    refine seq_take (v := ?_) (a' := ?_) (some 12) rfl rfl (by rfl) ?_ ?_ ?_
    rotate_left; rotate_left
    · intro w' hS; go_simp; with_reducible rfl
    · simp only [Act.put, List.setIfInBounds_toArray, List.set_cons_zero, List.set_cons_succ]; rfl
    refine seq_take (v := ?_) (a' := ?_) (some 13) rfl rfl (by rfl) ?_ ?_ ?_
    rotate_left; rotate_left
    · intro w' hS; have q0 := cb hS hf; have q1 := cb hS he; have q2 := cb hS c0; have q3 := HLK.out _ hS; go_simp; with_reducible rfl
    · simp only [Act.put, List.setIfInBounds_toArray, List.set_cons_zero, List.set_cons_succ]; rfl
    refine seq_take (v := ?_) (a' := ?_) (some 14) rfl rfl (by rfl) ?_ ?_ ?_
    rotate_left; rotate_left
    · intro w' hS; have q0 := cb hS hf; have q1 := cb hS he; have q2 := cb hS c0; have q3 := HLK.out _ hS; go_simp; with_reducible rfl
    · simp only [Act.put, List.setIfInBounds_toArray, List.set_cons_zero, List.set_cons_succ]; rfl
    refine seq_take (v := ?_) (a' := ?_) (some 15) rfl rfl (by rfl) ?_ ?_ ?_
    rotate_left; rotate_left
    · intro w' hS; go_simp; with_reducible rfl
    · simp only [Act.put, List.setIfInBounds_toArray, List.set_cons_zero, List.set_cons_succ]; rfl
    refine seq_take (v := ?_) (a' := ?_) (some 16) rfl rfl (by rfl) ?_ ?_ ?_
    rotate_left; rotate_left
    · intro w' hS; go_simp; with_reducible rfl
    · simp only [Act.put, List.setIfInBounds_toArray, List.set_cons_zero, List.set_cons_succ]; rfl
    refine seq_take (v := ?_) (a' := ?_) (some 4) rfl rfl (by rfl) ?_ ?_ ?_
    rotate_left; rotate_left
    · intro w' hS; go_simp; with_reducible rfl
    · simp only [Act.put, List.setIfInBounds_toArray, List.set_cons_zero, List.set_cons_succ]; rfl
    refine seq_done ?_
    go_wp2
    go_ret
    exact ⟨ret_bool (by rw [beq_str]; simp [hr]), hB⟩
theorem containsS_in (l : List ByteArray) (s : ByteArray) : Lib.containsS l s = inL l s := by
  rw [Bool.eq_iff_iff, inL_iff]; exact Lib.containsS_iff l s
theorem contains_calls (w : World) {b : Nat} {v : Value} {l : List ByteArray} (h : w.ownsRow b 9 1 v l.length (strC l)) (s : ByteArray) (hl : l.length ≤ 1000000) :
    Calls Try.prog 69 #[v, .string s] w fun e w' => e = .returned (.bool (inL l s)) ∧ Below w.heap.size w w' := by
  rcases Nat.eq_zero_or_pos l.length with h0 | h0
  · obtain ⟨ao, cap, rfl⟩ := rw_form h
    have e : l = [] := List.eq_nil_of_length_eq_zero h0
    subst e
    refine (Try.slices_Contains_string_empty _ _ s w).mono ?_
    rintro e w' ⟨rfl, rfl⟩
    exact ⟨rfl, Below.refl _ _⟩
  · obtain ⟨g, cap, rfl⟩ := rw_pos h h0
    refine (Try.slices_Contains_string g 0 l.length cap l s w (Nat.le_refl _) (by omega) (fun j hj => ?_)).mono ?_
    · rw [Nat.zero_add, (rw_cells h).2.2.1 j (by omega), strC_getD hj, List.getD_eq_getElem?_getD, List.getElem?_eq_getElem hj]; rfl
    · rintro e w' ⟨rfl, rfl⟩
      exact ⟨by rw [List.take_length, containsS_in], Below.refl _ _⟩
theorem below1_calls {tp mb : Nat} {N : Nodes} (w : World) (h : TreeAt w tp mb N) (G : Good11 N) (fx eb : Nat) (s x : ByteArray) (hf : w.cell? ⟨fx, 0, none⟩ = some (.pointer (some ⟨tp, 0, none⟩))) (he : w.cell? ⟨eb, 0, none⟩ = some (.string s)) (hx : x.size ≤ 1000) :
    Calls Try.prog 68 #[.string x, .pointer (some ⟨fx, 0, none⟩), .pointer (some ⟨eb, 0, none⟩)] w fun e w' => e = .returned (.bool (inL (pathT N x) s)) ∧ Below w.heap.size w w' := by
  have H := Lib.hid h
  have h8 : (pathT N x).length ≤ 1000000 := by have := G.deep x; omega
  have H8 := Lib.hid h8
  clear h h8
  obtain ⟨W, rfl⟩ : ∃ W : World, W = w := ⟨_, rfl⟩
  have hB := Below.refl W.heap.size W
  go_enter Try.func68, Try.ntmps68
  go_upto_region 1 with fail
  have hB := hB.drew
  refine region_seq (fun w' => Below W.heap.size W w') [(0, true), (1, true), (3, true), (2, false), (4, false), (5, true)] (by kernel_rfl) (by kernel_rfl) (fun _ _ _ _ h => h) hB ?_
  try generalize World.drew _ = wS at hB ⊢
  refine seq_take (v := ?_) (a' := ?_) (some 5) rfl rfl (by rfl) ?_ ?_ ?_
  rotate_left; rotate_left
  · intro w' hS; have q0 := cb hS hf; have q1 := cb hS he; go_simp; with_reducible rfl
  · simp only [Act.put, List.setIfInBounds_toArray, List.set_cons_zero, List.set_cons_succ]; rfl
  refine seq_take (v := ?_) (a' := ?_) (some 6) rfl rfl (by rfl) ?_ ?_ ?_
  rotate_left; rotate_left
  · intro w' hS; go_simp; with_reducible rfl
  · simp only [Act.put, List.setIfInBounds_toArray, List.set_cons_zero, List.set_cons_succ]; rfl
  refine seq_take (v := ?_) (a' := ?_) (some 8) rfl rfl (by rfl) ?_ ?_ ?_
  rotate_left; rotate_left
  · intro w' hS; have q0 := cb hS hf; have q1 := cb hS he; go_simp; with_reducible rfl
  · simp only [Act.put, List.setIfInBounds_toArray, List.set_cons_zero, List.set_cons_succ]; rfl
  refine seq_call (args := ?_) Try.func19 (by kernel_rfl) rfl (some 7) rfl rfl (by rfl) rfl ?_ ?_
  rotate_left
  · simp only [List.map_toArray, List.map_cons, List.map_nil]; go_simp; rfl
  with_reducible refine (path_calls _ (H.out.below hB) G x hx).mono ?_
  rintro e w' ⟨v, rfl, hrow, hb⟩
  refine ⟨_, rfl, bl_next (by repeat (first | with_reducible exact hB | refine Below.alloc ?_ (by have := hB.size; simp; omega) _ | refine bl_dN ?_ _ | refine Below.drew ?_ | refine Below.setCell ?_ (by have := hB.size; simp; omega) _)) hb, ?_⟩
  have hB := bl_next (by repeat (first | with_reducible exact hB | refine Below.alloc ?_ (by have := hB.size; simp; omega) _ | refine bl_dN ?_ _ | refine Below.drew ?_ | refine Below.setCell ?_ (by have := hB.size; simp; omega) _)) hb; clear hb
  simp only [Act.put, List.setIfInBounds_toArray, List.set_cons_zero, List.set_cons_succ]
  refine seq_call (args := ?_) Try.func69 (by kernel_rfl) rfl (some 9) rfl rfl (by rfl) rfl ?_ ?_
  rotate_left
  · simp only [List.map_toArray, List.map_cons, List.map_nil]; go_simp; rfl
  with_reducible refine (contains_calls _ hrow s H8.out).mono ?_
  rintro e w' ⟨rfl, hb⟩
  refine ⟨_, rfl, bl_next (by repeat (first | with_reducible exact hB | refine Below.alloc ?_ (by have := hB.size; simp; omega) _ | refine bl_dN ?_ _ | refine Below.drew ?_ | refine Below.setCell ?_ (by have := hB.size; simp; omega) _)) hb, ?_⟩
  have hB := bl_next (by repeat (first | with_reducible exact hB | refine Below.alloc ?_ (by have := hB.size; simp; omega) _ | refine bl_dN ?_ _ | refine Below.drew ?_ | refine Below.setCell ?_ (by have := hB.size; simp; omega) _)) hb; clear hb
  simp only [Act.put, List.setIfInBounds_toArray, List.set_cons_zero, List.set_cons_succ]
  refine seq_take (v := ?_) (a' := ?_) (some 4) rfl rfl (by rfl) ?_ ?_ ?_
  rotate_left; rotate_left
  · intro w' hS; go_simp; with_reducible rfl
  · simp only [Act.put, List.setIfInBounds_toArray, List.set_cons_zero, List.set_cons_succ]; rfl
  refine seq_done ?_
  go_wp2
  go_ret
  exact ⟨rfl, hB⟩
end Go.Proofs.Ythaipgbjnigkhaa
