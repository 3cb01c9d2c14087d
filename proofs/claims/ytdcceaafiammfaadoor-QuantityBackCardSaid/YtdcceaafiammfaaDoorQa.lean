import Derived.Test.YtdcceaafiammfaaDoorQv
import Derived.Test.YtdcceaafiammfaaDoorSeq
namespace Go.Proofs.YtdcceaafiammfaaDoor
open Go.RowKit
set_option linter.unusedVariables false
/-! ### Quantities: the plain law -/
def isD (b : UInt8) : Bool := decide (48 ≤ b.toNat) && decide (b.toNat ≤ 57)
def figN (s : ByteArray) : Nat := (s.data.toList.takeWhile isD).length
theorem tw_len {α : Type} {p : α → Bool} : ∀ (l : List α) (k : Nat), (∀ j (h : j < l.length), j < k → p l[j] = true) → (k = l.length ∨ ∃ h : k < l.length, p l[k] = false) → (l.takeWhile p).length = k
  | [], k, _, h2 => by rcases h2 with rfl | ⟨h, _⟩; rfl; simp at h
  | a :: l, 0, _, h2 => by
    rcases h2 with h | ⟨h, h2⟩
    · simp at h
    · simp only [List.getElem_cons_zero] at h2; simp [List.takeWhile, h2]
  | a :: l, k + 1, h1, h2 => by
    have h0 := h1 0 (by simp) (by omega)
    simp only [List.getElem_cons_zero] at h0
    rw [List.takeWhile_cons_of_pos h0, List.length_cons, tw_len l k (fun j hj hk => by have := h1 (j + 1) (by simp; omega) (by omega); simpa using this) (by
      rcases h2 with h | ⟨h, h2⟩
      · left; simpa using h
      · right; exact ⟨by simpa using h, by simpa using h2⟩)]
theorem byteAt_list (s : ByteArray) (j : Nat) (h : j < s.data.toList.length) : byteAt s j = ((s.data.toList[j]).toNat : Int) := by
  have hs : j < s.size := by simpa using h
  rw [byteAt_eq s j hs]; simp; rfl
theorem figN_eq {s : ByteArray} {k : Nat} (hk : k ≤ s.size) (h1 : ∀ j, j < k → 48 ≤ byteAt s j ∧ byteAt s j ≤ 57) (h2 : k = s.size ∨ ¬ (48 ≤ byteAt s k ∧ byteAt s k ≤ 57)) : figN s = k := by
  have hl : s.data.toList.length = s.size := by simp
  refine tw_len _ _ (fun j hj hjk => ?_) ?_
  · have := h1 j hjk
    rw [byteAt_list s j hj] at this
    simp only [isD, Bool.and_eq_true, decide_eq_true_eq]; omega
  · rcases Nat.lt_or_ge k s.size with q | q
    · right
      refine ⟨by omega, ?_⟩
      have := h2.resolve_left (by omega)
      rw [byteAt_list s k (by omega)] at this
      simp only [isD, Bool.and_eq_false_iff, decide_eq_false_iff_not]; omega
    · left; omega
theorem figN_le (s : ByteArray) : figN s ≤ s.size := by
  have : (s.data.toList.takeWhile isD).length ≤ s.data.toList.length := (List.takeWhile_sublist _).length_le
  simpa [figN] using this
theorem tw_all {α : Type} {p : α → Bool} : ∀ (l : List α) (j : Nat) (h : j < l.length), j < (l.takeWhile p).length → p l[j] = true
  | [], j, h, _ => by simp at h
  | a :: l, j, h, hj => by
    cases hp : p a with
    | false => simp [List.takeWhile, hp] at hj
    | true =>
      cases j with
      | zero => simpa using hp
      | succ j => rw [List.takeWhile_cons_of_pos hp] at hj; simpa using tw_all l j (by simpa using h) (by simpa using hj)
theorem tw_stop {α : Type} {p : α → Bool} : ∀ (l : List α) (h : (l.takeWhile p).length < l.length), p l[(l.takeWhile p).length] = false
  | [], h => by simp at h
  | a :: l, h => by
    cases hp : p a with
    | false => simp [List.takeWhile, hp]
    | true =>
      simp only [List.takeWhile_cons_of_pos hp, List.length_cons, List.getElem_cons_succ]
      exact tw_stop l _
theorem figN_all (s : ByteArray) (j : Nat) (h : j < figN s) : 48 ≤ byteAt s j ∧ byteAt s j ≤ 57 := by
  have hl : j < s.data.toList.length := by have := figN_le s; simp; omega
  have := tw_all s.data.toList j hl h
  simp only [isD, Bool.and_eq_true, decide_eq_true_eq] at this
  rw [byteAt_list s j hl]; omega
theorem figN_stop (s : ByteArray) (h : figN s < s.size) : ¬ (48 ≤ byteAt s (figN s) ∧ byteAt s (figN s) ≤ 57) := by
  have hl : figN s < s.data.toList.length := by simpa using h
  have := tw_stop s.data.toList hl
  simp only [isD, Bool.and_eq_false_iff, decide_eq_false_iff_not] at this
  rw [byteAt_list s _ hl]
  change ¬ (48 ≤ ((s.data.toList[(s.data.toList.takeWhile isD).length]).toNat : Int) ∧ ((s.data.toList[(s.data.toList.takeWhile isD).length]).toNat : Int) ≤ 57)
  omega
/-- A suffix's factor. -/
def facV (l : List UInt8) : Int := ((sufL.find? fun x => l == x.1).map (·.2)).getD 0
theorem facV_of {l m : List UInt8} {f : Int} (h : (l == m) = true) (hf : facV m = f) : facV l = f := by rw [show l = m by simpa using h]; exact hf
theorem facV_nil {l : List UInt8} (h : l.isEmpty = true) : facV l = 1 := by rw [show l = [] by simpa using h]; rfl
theorem facV_none {l : List UInt8} (h : l.isEmpty = false) (h1 : (l == [107]) = false) (h2 : (l == [77]) = false) (h3 : (l == [71]) = false) (h4 : (l == [84]) = false) (h5 : (l == [75, 105]) = false) (h6 : (l == [77, 105]) = false) (h7 : (l == [71, 105]) = false) (h8 : (l == [84, 105]) = false) : facV l = 0 := by
  have h0 : (l == []) = false := by cases l; simp at h; rfl
  simp [facV, sufL, List.find?, h0, h1, h2, h3, h4, h5, h6, h7, h8]
theorem QV.cells {w : World} (h : QV w) : ∀ j, w.cell? ⟨0, j, none⟩ = sufA[j]? := fun j => World.var?_cell (by kernel_rfl) h.suf j
end Go.Proofs.YtdcceaafiammfaaDoor
