import Derived.Test.YthaipgbjnigkhaaMkb
namespace Go.Proofs.Ythaipgbjnigkhaa
open Go.RowKit Go.Shelf Go.Maps
set_option linter.unusedVariables false
set_option linter.unusedSimpArgs false
set_option linter.unusedSectionVars false
theorem mnew_calls (w : World) : Calls Try.prog 50 #[] w fun e w' => ∃ mp kb, e = .returned (.pointer (some ⟨mp, 0, none⟩)) ∧ MarksAt w' mp kb [] ∧ (w.heap.size ≤ mp ∧ w.heap.size ≤ kb) ∧ Below w.heap.size w w' := by
  have hmm := @run_makeMap Try.prog
  have hown := World.ownsMap_made w Try.prog 9 RV
  have HO := Lib.hid hown
  clear hown
  go_enter Try.func50, Try.ntmps50
  go_wp2
  go_ret
  have hb1 : Below w.heap.size w (w.alloc (.map #[] 0)) := (Below.refl _ w).alloc (Nat.le_refl _) _
  refine ⟨w.heap.size + 1, w.heap.size, rfl, ⟨?_, ?_⟩, ⟨by omega, Nat.le_refl _⟩, hb1.alloc hb1.size _⟩
  · have := blk_new (w.alloc (.map #[] 0)) (.cells #[.map (some w.heap.size)] 122)
    simpa using this
  · exact mv_below HO.out ((Below.refl _ _).alloc (Nat.le_refl _) _)
theorem enc_allB (N : Nodes) : (N.map fun p => p.1.data.toList).map Go.Proofs.encStr = strC (allN N) := enc_all N
set_option maxHeartbeats 1000000 in
theorem set_all_calls {kb : Nat} {N : Nodes} (w : World) (h : w.ownsMap Try.prog 9 RV kb N.length (dmB N)) (hR : Rising N) (hl : N.length ≤ 1000000) :
    Calls Try.prog 87 #[.map (some kb)] w fun e w' => ∃ v, e = .returned v ∧ w'.ownsRow w.heap.size 9 1 v (allN N).length (strC (allN N)) ∧ Below w.heap.size w w' := by
  have HM := Lib.hid h
  have hsz : Maps.size (dmB N) ≤ maxLen := by rw [size_dmB]; unfold Go.maxLen; omega
  have hby : Maps.size (dmB N) * 16 ≤ 140737488355328 := by rw [size_dmB]; omega
  have HS := Lib.hid hsz; have HBY := Lib.hid hby
  clear h hsz hby
  refine (callsIn_wide (n := 6)).1 ?_
  have hfK : Fence.wide.fn 101 := trivial
  have hfS : Fence.wide.fn 63 := trivial
  refine callsIn_of_wp Try.func87 rfl trivial ?_ rfl
  simp only [Try.ntmps87, List.size_toArray, List.length_cons, List.length_nil, Nat.reduceAdd, Nat.reduceSub, Array.replicate_succ, Array.replicate_zero, List.push_toArray, List.append_toArray, List.nil_append, List.cons_append]
  gi_wp2_with (first
    | (gi_at_call 101; refine (Try.maps_Keys_101 _ _).mono ?_; rintro e w' ⟨rfl, rfl⟩)
    | (gi_at_call 63; refine (Try.slices_Sorted_keys_63_101 kb N.length (dmB N) RV w HM.out HS.out HBY.out).mono ?_; rintro e w' ⟨v, ss, rfl, hS, hrow, hnil, hb⟩))
  go_ret
  refine ⟨v, rfl, ?_, ((Below.refl _ w).alloc (Nat.le_refl _) _).trans (hb.mono (by simp))⟩
  have e1 : ss.mergeSort (fun x y => decide (x ≤ y)) = N.map fun p => p.1.data.toList := by
    rw [strKeys_dmB] at hS
    exact (mergeSort_of_perm hS).trans (sorted_dm hR)
  have e2 : ss.length = (allN N).length := by have := hS.length_eq; rw [strKeys_dmB] at this; simpa [allN] using this
  rw [e1, e2, enc_all] at hrow
  exact rw_mono hrow (by simp)
theorem mall_calls {mp kb : Nat} {N : Nodes} (w : World) (h : MarksAt w mp kb N) (hR : Rising N) (hl : N.length ≤ 1000000) :
    Calls Try.prog 56 #[.pointer (some ⟨mp, 0, none⟩)] w fun e w' => ∃ v, e = .returned v ∧ w'.ownsRow w.heap.size 9 1 v (allN N).length (strC (allN N)) ∧ Below w.heap.size w w' := by
  have c0 := blk_cell h.box 0
  have H := Lib.hid h
  clear h
  go_enter Try.func56, Try.ntmps56
  go_wp2_with fail
  refine (set_all_calls _ H.out.map hR hl).mono ?_
  rintro e w' ⟨v, rfl, hrow, hb⟩
  go_wp2_with fail
  go_ret
  exact ⟨v, rfl, hrow, hb⟩
end Go.Proofs.Ythaipgbjnigkhaa
