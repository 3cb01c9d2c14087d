import Derived.Test.YthaipgbjnigkhaaMkp
namespace Go.Proofs.Ythaipgbjnigkhaa
set_option linter.unusedVariables false
set_option linter.unusedSimpArgs false
set_option linter.unusedSectionVars false
/-! ### The deepest first: in plain words -/
theorem nextD_ge {T : Nodes} : ∀ (l : List ByteArray) (bd : ByteArray × Nat), bd.2 ≤ (l.foldl (stepD T) bd).2 ∧ ∀ x ∈ l, (pathT T x).length ≤ (l.foldl (stepD T) bd).2
  | [], bd => ⟨Nat.le_refl _, by rintro x ⟨⟩⟩
  | a :: r, bd => by
    obtain ⟨h1, h2⟩ := nextD_ge (T := T) r (stepD T bd a)
    rw [List.foldl_cons]
    have h3 : bd.2 ≤ (stepD T bd a).2 ∧ (pathT T a).length ≤ (stepD T bd a).2 := by
      unfold stepD; split
      · rename_i h; exact ⟨Nat.le_of_lt h, Nat.le_refl _⟩
      · rename_i h; exact ⟨Nat.le_refl _, by omega⟩
    refine ⟨Nat.le_trans h3.1 h1, fun x hx => ?_⟩
    rcases List.mem_cons.1 hx with rfl | hx
    · exact Nat.le_trans h3.2 h1
    · exact h2 x hx
theorem nodup_len {α : Type} [DecidableEq α] : ∀ {l m : List α}, l.Nodup → (∀ x ∈ l, x ∈ m) → l.length ≤ m.length
  | [], _, _, _ => Nat.zero_le _
  | a :: r, m, hn, h => by
    rw [List.nodup_cons] at hn
    have ih := nodup_len (l := r) (m := m.erase a) hn.2 (fun x hx => (List.mem_erase_of_ne (fun e => hn.1 (by rw [← e]; exact hx))).2 (h x (List.mem_cons_of_mem _ hx)))
    have ha := h a List.mem_cons_self
    rw [List.length_erase_of_mem ha] at ih
    have := List.length_pos_of_mem ha
    rw [List.length_cons]; omega
/-- Marks that are nodes of a tree, each with all of its path. -/
structure Cl (T N : Nodes) : Prop where
  rise : Rising N
  node : ∀ x, hasN N x = true → hasN T x = true
  up : ∀ x, hasN N x = true → x ≠ rootB → hasN N (parN T x) = true
theorem cl_nil (T : Nodes) : Cl T [] := ⟨List.Pairwise.nil, (by intro x h; cases h), (by intro x h; cases h)⟩
section
variable {T N : Nodes} (G : Good11 T)
include G
theorem path_up {x s : ByteArray} (h : x ∈ pathT T s) (hx : x ≠ rootB) : parN T x ∈ pathT T s := by
  obtain ⟨i, hi, rfl⟩ := List.getElem_of_mem h
  have hp := path_part G i s _ (List.getElem?_eq_getElem hi)
  have hh := pathT_has h
  have h2 := path_pos G hh
  rw [hp] at h2
  rw [List.drop_eq_getElem_cons hi] at h2
  have h3 := (List.cons.inj h2).2
  have h4 : hasN T (parN T ((pathT T s)[i])) = true := G.par_has hh hx
  have h5 := path_pos G h4
  rw [← h3] at h5
  exact List.mem_of_mem_drop (by rw [h5]; exact List.mem_cons_self)
theorem cl_mark (C : Cl T N) (s : ByteArray) : Cl T (markAll N (pathT T s)) := by
  refine ⟨markAll_rise C.rise _, fun x hx => ?_, fun x hx hr => ?_⟩
  · rw [has_markAll, Bool.or_eq_true] at hx
    rcases hx with hx | hx
    · exact C.node x hx
    · exact pathT_has (inL_iff.1 hx)
  · rw [has_markAll, Bool.or_eq_true] at hx ⊢
    rcases hx with hx | hx
    · exact .inl (C.up x hx hr)
    · exact .inr (inL_iff.2 (path_up G (inL_iff.1 hx) hr))
theorem cl_next (C : Cl T N) (hN : N ≠ []) : ∃ s d, nextD T (allN N) = (s, d + 1) ∧ hasN N s = true ∧ hasN T s = true ∧ ∀ y, hasN N y = true → (pathT T y).length ≤ (pathT T s).length := by
  obtain ⟨p, hp⟩ := List.exists_mem_of_ne_nil N hN
  have h0 : hasN N p.1 = true := hasN_iff.2 ⟨p.2, hp⟩
  have h1 := C.node _ h0
  have h2 := nextD_ge (T := T) (allN N) (⟨#[]⟩, 0)
  have h3 := h2.2 p.1 (mem_all.2 h0)
  rw [path_pos G h1, List.length_cons] at h3
  have e : nextD T (allN N) = (allN N).foldl (stepD T) (⟨#[]⟩, 0) := rfl
  rw [← e] at h2 h3
  rcases nextD_in (T := T) (allN N) (⟨#[]⟩, 0) with q | ⟨q1, q2⟩
  · rw [← e] at q; rw [q] at h3; omega
  · rw [← e] at q1 q2
    obtain ⟨⟨s, d⟩, hsd⟩ : ∃ p, nextD T (allN N) = p := ⟨_, rfl⟩
    rw [hsd] at h2 h3 q1 q2 ⊢
    simp only at h2 h3 q1 q2
    obtain ⟨d, rfl⟩ : ∃ d', d = d' + 1 := ⟨d - 1, by omega⟩
    have q3 := mem_all.1 q1
    exact ⟨s, d, rfl, q3, C.node _ q3, fun y hy => by rw [q2]; exact h2.2 y (mem_all.2 hy)⟩
/-- What is below a deepest one is not marked. -/
theorem cl_below {s y : ByteArray} (hm : ∀ y, hasN N y = true → (pathT T y).length ≤ (pathT T s).length) (hs : hasN T s = true) (hy : y ∈ belowN T s) (hne : y ≠ s) : hasN N y = false := by
  cases hh : hasN N y with
  | false => rfl
  | true =>
    have h1 := hm y hh
    unfold belowN at hy
    rw [List.mem_filter] at hy
    obtain ⟨i, hi, he⟩ := List.getElem_of_mem (inL_iff.1 hy.2)
    have hp := path_part G i y _ (List.getElem?_eq_getElem hi)
    rw [he] at hp
    rw [hp, List.length_drop] at h1
    have hyT := mem_all.1 hy.1
    have h0 : i ≠ 0 := by
      rintro rfl
      have := path_first G hyT hi
      exact hne (this.symm.trans he)
    have := hi
    omega
theorem cl_clear (C : Cl T N) {s : ByteArray} (hm : ∀ y, hasN N y = true → (pathT T y).length ≤ (pathT T s).length) : Cl T (delN N s) := by
  refine ⟨rising_delN C.rise, fun x hx => ?_, fun x hx hr => ?_⟩
  · rw [hasN_del, Bool.and_eq_true] at hx; exact C.node x hx.2
  · rw [hasN_del, Bool.and_eq_true] at hx ⊢
    refine ⟨?_, C.up x hx.2 hr⟩
    have hT := C.node x hx.2
    have h1 := hm x hx.2
    rw [path_pos G hT, List.length_cons] at h1
    have : parN T x ≠ s := by rintro e; rw [e] at h1; omega
    simpa using this
theorem cl_len (C : Cl T N) : N.length ≤ 200 := by
  have h1 : (allN N).Nodup := all_nodup C.rise
  have h2 : ∀ x ∈ allN N, x ∈ allN T := fun x hx => mem_all.2 (C.node x (mem_all.1 hx))
  have h3 := nodup_len h1 h2
  rw [allN_length, allN_length] at h3
  exact Nat.le_trans h3 G.few
end
end Go.Proofs.Ythaipgbjnigkhaa
