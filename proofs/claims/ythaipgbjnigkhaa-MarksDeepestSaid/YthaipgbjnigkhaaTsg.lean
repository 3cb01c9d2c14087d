import Derived.Test.YthaipgbjnigkhaaTsf
namespace Go.Proofs.Ythaipgbjnigkhaa
set_option linter.unusedVariables false
set_option linter.unusedSimpArgs false
set_option linter.unusedSectionVars false
/-! ### Up to the root: in plain words -/
section
variable {N : Nodes} (G : Good11 N)
include G
theorem path_root : pathT N rootB = [rootB] := by
  rw [G.path rootB, if_pos G.hasRoot, G.par_root, G.path ⟨#[]⟩, G.noE]; simp
theorem path_pos {x : ByteArray} (h : hasN N x = true) : pathT N x = x :: pathT N (parN N x) := by rw [G.path x, if_pos h]
theorem path_last : ∀ (n : Nat) {x : ByteArray}, (pathT N x).length ≤ n → hasN N x = true → ∃ l, pathT N x = l ++ [rootB]
  | 0, x, hn, h => by rw [path_pos G h] at hn; simp at hn
  | n + 1, x, hn, h => by
    by_cases e : x = rootB
    · subst e; exact ⟨[], path_root G⟩
    · rw [path_pos G h] at hn ⊢
      obtain ⟨l, hl⟩ := path_last n (x := parN N x) (by simpa using hn) (G.par_has h e)
      exact ⟨x :: l, by rw [hl]; rfl⟩
theorem path_end {x : ByteArray} (h : hasN N x = true) {m : Nat} (hm : (pathT N x).length = m + 1) : (pathT N x)[m]'(by omega) = rootB := by
  obtain ⟨l, hl⟩ := path_last G _ (Nat.le_refl _) h
  have h2 : l.length = m := by rw [hl] at hm; simpa using hm
  have : (pathT N x)[m]? = some rootB := by rw [hl, ← h2]; simp
  rw [List.getElem?_eq_getElem (by omega)] at this
  exact Option.some.inj this
theorem path_first {x : ByteArray} (h : hasN N x = true) (hm : 0 < (pathT N x).length) : (pathT N x)[0]'hm = x := by
  have : (pathT N x)[0]? = some x := by rw [path_pos G h]; rfl
  rw [List.getElem?_eq_getElem hm] at this
  exact Option.some.inj this
theorem path_one {x : ByteArray} (h : hasN N x = true) {m : Nat} (hm : (pathT N x).length = m + 1) : m = 0 ↔ x = rootB := by
  constructor
  · intro h0
    subst h0
    apply Classical.byContradiction
    intro e
    have := G.par_has h e
    rw [path_pos G h, path_pos G this] at hm
    simp at hm
  · rintro rfl
    rw [path_root G] at hm
    simp at hm; omega
theorem path_part : ∀ (i : Nat) (x y : ByteArray), (pathT N x)[i]? = some y → pathT N y = (pathT N x).drop i
  | 0, x, y, h => by
    cases k : hasN N x with
    | false => rw [G.path x, k] at h; simp at h
    | true =>
      rw [path_pos G k] at h
      have : x = y := by simpa using h
      subst this; rfl
  | i + 1, x, y, h => by
    cases k : hasN N x with
    | false => rw [G.path x, k] at h; simp at h
    | true =>
      rw [path_pos G k] at h ⊢
      simp only [List.getElem?_cons_succ] at h
      rw [path_part i _ y h]; rfl
theorem path_differ {x : ByteArray} {i j : Nat} (hi : i < j) (hj : j < (pathT N x).length) : (pathT N x)[i]'(by omega) ≠ (pathT N x)[j]'hj := by
  intro e
  have h1 := path_part G i x _ (List.getElem?_eq_getElem (by omega : i < (pathT N x).length))
  have h2 := path_part G j x _ (List.getElem?_eq_getElem hj)
  rw [e, h2] at h1
  have := congrArg List.length h1
  simp at this; omega
theorem path_on {x y : ByteArray} (hx : hasN N x = true) : inL (belowN N y) x = inL (pathT N x) y := by
  rw [Bool.eq_iff_iff, inL_iff, inL_iff, mem_below, mem_all]
  exact ⟨fun h => h.2, fun h => ⟨hx, h⟩⟩
end
/-! A row, less its first. -/
theorem strS_tail {w : World} {b o n c : Nat} {l : List ByteArray} (h : StrS w (.slice (some ⟨b, o, none⟩) n c) l) : StrS w (.slice (some ⟨b, o + 1, none⟩) (n - 1) (c - 1)) l.tail := by
  obtain ⟨A, c', he, hc, h0⟩ := h
  cases he
  refine ⟨some ⟨b, o + 1, none⟩, c - 1, by rw [List.length_tail], by rw [List.length_tail]; omega, ?_⟩
  rcases h0 with rfl | ⟨b', off, hA, hx⟩
  · exact .inl rfl
  · cases hA
    refine .inr ⟨b, o + 1, rfl, fun j hj => ?_⟩
    rw [List.length_tail] at hj
    have := hx (j + 1) (by omega)
    rw [show o + 1 + j = o + (j + 1) by omega, this]
    congr 2
    simp
theorem path_size (N : Nodes) (x : ByteArray) (G : Good11 N) : (pathT N x).length ≤ 1000000 := by have := G.deep x; omega
end Go.Proofs.Ythaipgbjnigkhaa
