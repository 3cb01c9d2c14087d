import Derived.Test.YthaipgbjnigkhaaTrh
namespace Go.Proofs.Ythaipgbjnigkhaa
open Go.RowKit Go.Shelf Go.Maps
set_option linter.unusedVariables false
set_option linter.unusedSimpArgs false
set_option linter.unusedSectionVars false
/-! ### The reference's tree: a row of nodes -/
def nodesC (N : Nodes) : List Value := N.flatMap fun p => [.string p.1, .string p.2]
theorem nodesC_length (N : Nodes) : (nodesC N).length = N.length * 2 := by
  induction N with
  | nil => rfl
  | cons a r ih => simp only [nodesC, List.flatMap_cons, List.length_append, List.length_cons] at ih ⊢; rw [ih]; simp; omega
theorem nodesC_getD : ∀ (N : Nodes) (i j : Nat) (hi : i < N.length) (hj : j < 2), (nodesC N).getD (i * 2 + j) undef = [Value.string (N[i]'hi).1, .string (N[i]'hi).2].getD j undef
  | a :: r, 0, j, _, hj => by
    simp only [nodesC, List.flatMap_cons, Nat.zero_mul, Nat.zero_add, List.getD_eq_getElem?_getD]
    rw [List.getElem?_append_left (by simpa using hj)]
    rfl
  | a :: r, i + 1, j, hi, hj => by
    have h := nodesC_getD r i j (by simpa using hi) hj
    simp only [nodesC, List.flatMap_cons, List.getD_eq_getElem?_getD] at h ⊢
    rw [List.getElem?_append_right (by simp; omega)]
    simp only [List.getElem_cons_succ]
    rw [← h]
    congr 2; simp; omega
theorem nodesC_app (N : Nodes) (p : ByteArray × ByteArray) : nodesC N ++ [.string p.1, .string p.2] = nodesC (N ++ [p]) := by simp [nodesC]
structure RefT (w : World) (base rp : Nat) (v : Value) (N : Nodes) : Prop where
  box : w.heap[rp]? = some (.cells #[v] 91)
  row : w.ownsRow base 88 2 v N.length (nodesC N)
  bas : base ≤ rp
def refTX (rp : Nat) (v : Value) : Nat → Prop := fun k => k = rp ∨ v.ownBlock = some k
section
variable {w w' : World} {base rp : Nat} {v : Value} {N : Nodes}
theorem RefT.kept {X : Nat → Prop} (h : RefT w base rp v N) (hk : Kept X w w') (hx : ∀ k, refTX rp v k → ¬ X k) : RefT w' base rp v N :=
  ⟨hk.heap h.box (hx _ (.inl rfl)), rw_kept h.row hk (fun k q => hx _ (.inr q)), h.bas⟩
theorem RefT.below (h : RefT w base rp v N) (hb : Below w.heap.size w w') : RefT w' base rp v N := h.kept (kept_of_below (X := fun _ => False) hb) (fun _ _ q => q)
theorem RefT.ge (h : RefT w base rp v N) : ∀ k, refTX rp v k → base ≤ k := by
  rintro k (rfl | q)
  · exact h.bas
  · exact (rw_type h.row q).1
theorem RefT.form (h : RefT w base rp v N) : ∃ ao cap, v = .slice ao N.length cap := rw_form h.row
theorem RefT.at' (h : RefT w base rp v N) {i : Nat} (hi : i < N.length) : ∃ g cap, v = .slice (some ⟨g, 0, none⟩) N.length cap ∧ w.cell? ⟨g, i * 2, none⟩ = some (.string (N[i]'hi).1) ∧ w.cell? ⟨g, i * 2 + 1, none⟩ = some (.string (N[i]'hi).2) := by
  obtain ⟨g, cap, hv⟩ := rw_pos h.row (by omega)
  have hr := h.row
  rw [hv] at hr
  have hc := (rw_cells hr).2.2.1
  refine ⟨g, cap, hv, ?_, ?_⟩
  · rw [hc _ (by omega), show i * 2 = i * 2 + 0 by omega, nodesC_getD N i 0 hi (by decide)]; rfl
  · rw [hc _ (by omega), nodesC_getD N i 1 hi (by decide)]; rfl
end
def noneTo (N : Nodes) (s : ByteArray) (k : Nat) : Prop := ∀ j (h : j < N.length), j < k → (N[j]'h).1 ≠ s
theorem noneTo_has {N : Nodes} {s : ByteArray} (h : noneTo N s N.length) : hasN N s = false := by
  unfold hasN
  rw [List.any_eq_false]
  intro q hq
  obtain ⟨j, hj, rfl⟩ := List.getElem_of_mem hq
  simpa using h j hj hj
theorem noneTo_succ {N : Nodes} {s : ByteArray} {k : Nat} (h : noneTo N s k) (hk : k < N.length) (hs : (N[k]'hk).1 ≠ s) : noneTo N s (k + 1) := fun j hj hjk => by
  rcases Nat.lt_or_ge j k with q | q
  · exact h j hj q
  · obtain rfl : j = k := by omega
    exact hs
section
variable {base rp : Nat} {v : Value} {N : Nodes}
set_option maxRecDepth 100000 in
set_option maxHeartbeats 4000000 in
theorem rhasT_calls (w : World) (h : RefT w base rp v N) (s : ByteArray) (hl : N.length ≤ 1000000) :
    Calls Try.prog 26 #[.pointer (some ⟨rp, 0, none⟩), .string s] w fun e w' => e = .returned (.bool (hasN N s)) ∧ Below w.heap.size w w' := by
  have hB := Below.refl w.heap.size w
  have H := Lib.hid h
  obtain ⟨ao, cap, rfl⟩ := h.form
  have c0 := blk_cell h.box 0
  have C0 := Lib.hid c0
  clear h
  go_enter Try.func26, Try.ntmps26
  go_wp2
  clear c0
  go_loopw [5] (fun i wr => ∃ k : Nat, i = .int .i64 k ∧ k ≤ N.length ∧ Hid (noneTo N s k) ∧ Below w.heap.size w wr) (fun i _ => N.length - (intOf i).toNat)
  case atStart => exact ⟨0, rfl, Nat.zero_le _, Lib.hid (fun j h q => absurd q (Nat.not_lt_zero _)), hB⟩
  case round =>
    clear hB
    obtain ⟨k, rfl, hk, HT, hB⟩ := hrel
    have c0 := cb hB C0.out
    by_cases hkl : k < N.length
    · have hkI : (k : Int) < N.length := by omega
      obtain ⟨g, c', he, c1, c2⟩ := (H.out.below hB).at' hkl
      cases he
      obtain ⟨x, hx⟩ : ∃ x, N[k]'hkl = x := ⟨_, rfl⟩
      rw [hx] at c1 c2
      have HX := Lib.hid hx
      clear hx
      by_cases hxy : x.1 = s
      · have hbf : (x.1.toList == s.toList) = true := by rw [beq_str]; simpa using hxy
        have hbn : x.1.toList = s.toList := by rw [hxy]
        have HXY := Lib.hid hxy
        clear hxy
        go_wp2
        go_ret
        refine ⟨ret_bool (Eq.symm ?_), hB⟩
        exact hasN_iff.2 ⟨x.2, by rw [← HXY.out]; exact HX.out ▸ List.getElem_mem hkl⟩
      · have hbf := beqF hxy
        have hbn := neF hxy
        have HXY := Lib.hid hxy
        clear hxy
        go_wp2
        go_roundw
        case rel => exact ⟨k + 1, by simp, by omega, Lib.hid (noneTo_succ HT.out hkl (by rw [HX.out]; exact HXY.out)), hB⟩
        case measure => simp [intOf]; omega
    · obtain rfl : k = N.length := by omega
      go_wp2
      go_ret
      exact ⟨ret_bool (noneTo_has HT.out).symm, hB⟩
set_option maxRecDepth 100000 in
set_option maxHeartbeats 4000000 in
theorem rparT_calls (w : World) (h : RefT w base rp v N) (hR : Rising N) (s : ByteArray) (hl : N.length ≤ 1000000) :
    Calls Try.prog 28 #[.pointer (some ⟨rp, 0, none⟩), .string s] w fun e w' => e = .returned (.string (parN N s)) ∧ Below w.heap.size w w' := by
  have hB := Below.refl w.heap.size w
  have H := Lib.hid h
  obtain ⟨ao, cap, rfl⟩ := h.form
  have c0 := blk_cell h.box 0
  have C0 := Lib.hid c0
  clear h
  go_enter Try.func28, Try.ntmps28
  go_wp2
  clear c0
  go_loopw [5] (fun i wr => ∃ k : Nat, i = .int .i64 k ∧ k ≤ N.length ∧ Hid (noneTo N s k) ∧ Below w.heap.size w wr) (fun i _ => N.length - (intOf i).toNat)
  case atStart => exact ⟨0, rfl, Nat.zero_le _, Lib.hid (fun j h q => absurd q (Nat.not_lt_zero _)), hB⟩
  case round =>
    clear hB
    obtain ⟨k, rfl, hk, HT, hB⟩ := hrel
    have c0 := cb hB C0.out
    by_cases hkl : k < N.length
    · have hkI : (k : Int) < N.length := by omega
      obtain ⟨g, c', he, c1, c2⟩ := (H.out.below hB).at' hkl
      cases he
      obtain ⟨x, hx⟩ : ∃ x, N[k]'hkl = x := ⟨_, rfl⟩
      rw [hx] at c1 c2
      have HX := Lib.hid hx
      clear hx
      by_cases hxy : x.1 = s
      · have hbf : (x.1.toList == s.toList) = true := by rw [beq_str]; simpa using hxy
        have hbn : x.1.toList = s.toList := by rw [hxy]
        have HXY := Lib.hid hxy
        clear hxy
        go_wp2
        go_ret
        refine ⟨?_, hB⟩
        rw [parN_some (p := x.2) hR (by rw [← HXY.out]; exact HX.out ▸ List.getElem_mem hkl)]
        first | rfl | (simp; done) | (go_simp; done)
      · have hbf := beqF hxy
        have hbn := neF hxy
        have HXY := Lib.hid hxy
        clear hxy
        go_wp2
        go_roundw
        case rel => exact ⟨k + 1, by simp, by omega, Lib.hid (noneTo_succ HT.out hkl (by rw [HX.out]; exact HXY.out)), hB⟩
        case measure => simp [intOf]; omega
    · obtain rfl : k = N.length := by omega
      go_wp2
      go_ret
      refine ⟨?_, hB⟩
      rw [parN_none (noneTo_has HT.out)]
      first | rfl | (simp; done) | (go_simp; done)
end
end Go.Proofs.Ythaipgbjnigkhaa
