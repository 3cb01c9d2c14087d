import Derived.Test.YtdcceaafiammfaaFdl
namespace Go.Proofs.Ytdcceaafiammfaa
open Go.RowKit
set_option linter.unusedVariables false
set_option linter.unusedSimpArgs false
/-! ### Which acts are gone through -/
def fitB (a : ActX) : Bool := decide (a.k.size ≤ 100) && decide (a.s.size ≤ 100) && decide (a.n.size ≤ 100)
def fitsB (l : List ActX) : Bool := decide (l.length ≤ 100) && l.all fitB
theorem fitB_iff {a : ActX} : fitB a = true ↔ FitA a := by unfold fitB FitA; simp [and_assoc]
theorem fitsB_spec {l : List ActX} (h : fitsB l = true) : l.length ≤ 100 ∧ ∀ i (hi : i < l.length), FitA (l[i]'hi) := by
  unfold fitsB at h
  simp only [Bool.and_eq_true, decide_eq_true_eq, List.all_eq_true] at h
  exact ⟨h.1, fun i hi => fitB_iff.1 (h.2 _ (List.getElem_mem hi))⟩
set_option maxRecDepth 100000 in
set_option maxHeartbeats 4000000 in
theorem fits10_calls (w : World) (A : Option Addr) (cap : Nat) (l : List ActX) (h : Acts w A l) :
    Calls Try.prog 12 #[.slice A l.length cap] w fun e w' => e = .returned (.bool (fitsB l)) ∧ Below w.heap.size w w' := by
  have hB := Below.refl w.heap.size w
  by_cases hl : 100 < l.length
  · have hlI : (100 : Int) < l.length := by omega
    go_enter Try.func12, Try.ntmps12
    go_wp2
    go_ret
    refine ⟨ret_bool ?_, hB⟩
    unfold fitsB
    rw [show decide (l.length ≤ 100) = false by simp; omega]; rfl
  · have hlI : (l.length : Int) ≤ 100 := by omega
    go_enter Try.func12, Try.ntmps12
    go_wp2
    go_loopw [3] (fun i wr => ∃ k : Nat, i = .int .i64 k ∧ k ≤ l.length ∧ (∀ j (hj : j < l.length), j < k → fitB (l[j]'hj) = true) ∧ Below w.heap.size w wr) (fun i _ => l.length - (intOf i).toNat)
    case atStart => exact ⟨0, rfl, Nat.zero_le _, fun j hj h => absurd h (Nat.not_lt_zero _), hB⟩
    case round =>
      obtain ⟨k, rfl, hk, hall, hB⟩ := hrel
      have HALL := Lib.hid hall
      clear hall
      by_cases hkl : k < l.length
      · have hkI : (k : Int) < l.length := by omega
        obtain ⟨b, off, rfl, hb, c0, c1, c2, c3, c4, q⟩ := (h.below hB).at' k hkl
        have HF := Lib.hid (show fitB (l[k]'hkl) = fitB (l[k]'hkl) from rfl)
        have HS := Lib.hid (show ∀ x, l[k]'hkl = x → fitB x = fitB (l[k]'hkl) from fun x hx => by rw [hx])
        generalize hz : l[k]'hkl = z at c0 c1 c2 c3 c4
        have HZ := Lib.hid hz
        clear hz q
        have fin : fitB z = false → fitsB l = false := fun hf => by
          have hn : l.all fitB = false := by
            rw [List.all_eq_false]
            exact ⟨z, by rw [← HZ.out]; exact List.getElem_mem hkl, by simp [hf]⟩
          unfold fitsB; rw [hn, Bool.and_false]
        have FIN := Lib.hid fin
        clear fin HF HS
        by_cases h1 : 100 < z.k.size
        · have h1I : (100 : Int) < z.k.size := by omega
          go_wp2
          go_ret
          exact ⟨ret_bool (FIN.out (by unfold fitB; simp; omega)).symm, hB⟩
        · have h1I : (z.k.size : Int) ≤ 100 := by omega
          by_cases h2 : 100 < z.s.size
          · have h2I : (100 : Int) < z.s.size := by omega
            go_wp2
            go_ret
            exact ⟨ret_bool (FIN.out (by unfold fitB; simp; omega)).symm, hB⟩
          · have h2I : (z.s.size : Int) ≤ 100 := by omega
            by_cases h3 : 100 < z.n.size
            · have h3I : (100 : Int) < z.n.size := by omega
              go_wp2
              go_ret
              exact ⟨ret_bool (FIN.out (by unfold fitB; simp; omega)).symm, hB⟩
            · have h3I : (z.n.size : Int) ≤ 100 := by omega
              go_wp2
              go_roundw
              case rel =>
                refine ⟨k + 1, by simp, by omega, fun j hj hjk => ?_, hB⟩
                rcases Nat.lt_or_ge j k with q | q
                · exact HALL.out j hj q
                · obtain rfl : j = k := by omega
                  rw [HZ.out]; unfold fitB; simp; omega
              case measure => simp [intOf]; omega
      · obtain rfl : k = l.length := by omega
        go_wp2
        go_ret
        refine ⟨ret_bool ?_, hB⟩
        unfold fitsB
        rw [show decide (l.length ≤ 100) = true by simp; omega, show l.all fitB = true by
          rw [List.all_eq_true]
          intro x hx
          obtain ⟨j, hj, rfl⟩ := List.getElem_of_mem hx
          exact HALL.out j hj hj]
        rfl
end Go.Proofs.Ytdcceaafiammfaa
