import Derived.Test.YthhfcambdmdgfaaRw
import Derived.Test.YthhfcambdmdgfaaProg
import Derived.Lib.Strings
namespace Go.Proofs.Ythhfcambdmdgfaa
open Go.RowKit
set_option linter.unusedVariables false
set_option linter.unusedSimpArgs false
theorem fzb {W w1 : World} (hb : Below W.heap.size W w1) {a : Addr} (ha : a.block < W.heap.size) (h : W.frozen? a = false) : w1.frozen? a = false := fb hb ha h
theorem ba_eq {a b : ByteArray} : a.toList = b.toList ↔ a = b := ⟨fun h => by rw [Lib.toList_data, Lib.toList_data] at h; exact ByteArray.ext (Array.toList_inj.1 h), fun h => by rw [h]⟩
def strC (l : List ByteArray) : List Value := l.map fun s => .string s
theorem strC_length (l : List ByteArray) : (strC l).length = l.length := by simp [strC]
theorem strC_one (l : List ByteArray) : ∀ u ∈ strC l, u.oneCell' = true := by
  intro u hu; unfold strC at hu; obtain ⟨x, _, rfl⟩ := List.mem_map.1 hu; rfl
theorem strC_getD {l : List ByteArray} {i : Nat} (h : i < l.length) : (strC l).getD i undef = .string (l[i]'h) := by
  unfold strC; rw [List.getD_eq_getElem?_getD, List.getElem?_map, List.getElem?_eq_getElem h]; rfl
theorem info_string : (Try.prog.info? 9).map (fun i => (i.zero, i.size, i.bytes)) = some (some (.string ⟨#[]⟩), 1, 16) := by kernel_rfl
/-! ### Lists of texts -/
def StrS (w : World) (v : Value) (l : List ByteArray) : Prop := ∃ A c, v = .slice A l.length c ∧ l.length ≤ c ∧ (l = [] ∨ ∃ b off, A = some ⟨b, off, none⟩ ∧ ∀ j (h : j < l.length), w.cell? ⟨b, off + j, none⟩ = some (.string (l[j]'h)))
theorem StrS.below {w w' : World} {v : Value} {l : List ByteArray} (h : StrS w v l) (hb : Below w.heap.size w w') : StrS w' v l := by
  obtain ⟨A, c, rfl, hc, h0 | ⟨b, off, rfl, hx⟩⟩ := h
  · exact ⟨A, c, rfl, hc, .inl h0⟩
  · exact ⟨_, c, rfl, hc, .inr ⟨b, off, rfl, fun j hj => cb hb (hx j hj)⟩⟩
theorem strS_of {w : World} {b : Nat} {v : Value} {l : List ByteArray} (h : w.ownsRow b 9 1 v l.length (strC l)) : StrS w v l := by
  rcases Nat.eq_zero_or_pos l.length with h0 | h0
  · have e : l = [] := List.eq_nil_of_length_eq_zero h0
    subst e
    rcases h.2 with ⟨rfl, _⟩ | ⟨g, cap, cur, rfl, _, _, hc, _⟩
    · exact ⟨none, 0, rfl, Nat.le_refl _, .inl rfl⟩
    · exact ⟨_, cap, rfl, hc, .inl rfl⟩
  · obtain ⟨g, cap, rfl⟩ := rw_pos h h0
    have hc : l.length ≤ cap := by
      rcases h.2 with ⟨h9, _⟩ | ⟨g', cap', cur, h9, _, _, hc, _⟩
      · cases h9
      · cases h9; exact hc
    exact ⟨_, cap, rfl, hc, .inr ⟨g, 0, rfl, fun j hj => by rw [Nat.zero_add, (rw_cells h).2.2.1 j (by omega), strC_getD hj]⟩⟩
theorem strS_nil (w : World) : StrS w (.slice none 0 0) [] := ⟨none, 0, rfl, Nat.le_refl _, .inl rfl⟩
theorem StrS.at' {w : World} {v : Value} {l : List ByteArray} (h : StrS w v l) {j : Nat} (hj : j < l.length) : ∃ b off c, v = .slice (some ⟨b, off, none⟩) l.length c ∧ w.cell? ⟨b, off + j, none⟩ = some (.string (l[j]'hj)) := by
  obtain ⟨A, c, rfl, hc, h0 | ⟨b, off, rfl, hx⟩⟩ := h
  · subst h0; cases hj
  · exact ⟨b, off, c, rfl, hx j hj⟩
theorem StrS.form {w : World} {v : Value} {l : List ByteArray} (h : StrS w v l) : ∃ A c, v = .slice A l.length c := by obtain ⟨A, c, rfl, _⟩ := h; exact ⟨_, _, rfl⟩
theorem beq_str (a b : ByteArray) : (a.toList == b.toList) = decide (a = b) := by rw [Bool.eq_iff_iff, beq_iff_eq, decide_eq_true_eq]; exact ba_eq
theorem beqF {a b : ByteArray} (h : ¬ a = b) : (a.toList == b.toList) = false := by rw [beq_str]; simpa using h
theorem neF {a b : ByteArray} (h : ¬ a = b) : ¬ a.toList = b.toList := fun e => h (ba_eq.1 e)
end Go.Proofs.Ythhfcambdmdgfaa
