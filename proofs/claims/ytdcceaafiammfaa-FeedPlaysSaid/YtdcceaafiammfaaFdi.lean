import Derived.Test.YtdcceaafiammfaaFdh
namespace Go.Proofs.Ytdcceaafiammfaa
set_option linter.unusedVariables false
set_option linter.unusedSimpArgs false
/-! ### What a feed's acts do, in plain words -/
structure ActX where
  kind : Int
  k : ByteArray
  s : ByteArray
  n : ByteArray
  N : Int
def isGrow (a : ActX) : Bool := (a.kind.tmod 7 == 0) || (a.kind.tmod 7 == 1)
def doR (l : List Item) (cov : Nat) (a : ActX) : Int × List Item × Nat :=
  if isGrow a then (0, l ++ [⟨a.k, a.s, a.n, 0⟩], cov)
  else if a.kind.tmod 7 == 5 then ((dropR l cov a.N).1, (dropR l cov a.N).2, cov)
  else if a.kind.tmod 7 == 6 then ((coverR l cov a.N).1, l, (coverR l cov a.N).2)
  else ((tellR l cov a.N).1, (tellR l cov a.N).2, cov)
theorem itemAt_set (l : List Item) (i j st : Nat) (hi : i < l.length) (hj : j < l.length) : itemAt (setSt l i st) j = if i = j then { itemAt l j with st := st } else itemAt l j := by
  rw [itemAt_eq hj, itemAt_eq (by rw [setSt_length]; exact hj)]
  unfold setSt
  rw [List.getElem_modify]
theorem itemAt_app {l : List Item} {x : Item} {j : Nat} (hj : j < l.length) : itemAt (l ++ [x]) j = itemAt l j := by
  rw [itemAt_eq hj, itemAt_eq (by simp; omega), List.getElem_append_left hj]
theorem itemAt_new (l : List Item) (x : Item) : itemAt (l ++ [x]) l.length = x := by
  rw [itemAt_eq (by simp)]; simp
theorem stB_def (l : List Item) (cov i : Nat) : stB l cov i = (decide ((itemAt l i).st = 1) || decide (i < cov)) := rfl
theorem noneB_false {l : List Item} {i : Int} (h : noneB l i = false) : ∃ j : Nat, i = (j : Int) ∧ j < l.length := by
  unfold noneB at h; simp at h; exact ⟨i.toNat, by omega, by omega⟩
/-- What is known of a feed's state. -/
structure Good (l : List Item) (cov : Nat) : Prop where
  le : cov ≤ l.length
  fit : FitK l
/-- An act's ways. -/
inductive Way (l : List Item) (cov : Nat) (a : ActX) : Int × List Item × Nat → Prop
  | grow (h : isGrow a = true) : Way l cov a (0, l ++ [⟨a.k, a.s, a.n, 0⟩], cov)
  | same (e : Int) (hg : isGrow a = false) (he : e ≠ 0) : Way l cov a (e, l, cov)
  | drop (j : Nat) (h5 : a.kind.tmod 7 = 5) (hg : isGrow a = false) (hj : j < l.length) (hN : a.N = (j : Int)) (hs : stB l cov j = false) (h2 : (itemAt l j).st ≠ 2) : Way l cov a (0, setSt l j 2, cov)
  | cover (c : Nat) (h6 : a.kind.tmod 7 = 6) (hg : isGrow a = false) (h1 : cov ≤ c) (h2 : c ≤ l.length) : Way l cov a (0, l, c)
  | tell (j : Nat) (h5 : a.kind.tmod 7 ≠ 5) (h6 : a.kind.tmod 7 ≠ 6) (hg : isGrow a = false) (hj : j < l.length) (hN : a.N = (j : Int)) (h2 : (itemAt l j).st ≠ 2) (hb : (openTo l cov j).any (blkB l j) = false) : Way l cov a (0, setSt l j 1, cov)
theorem way (l : List Item) (cov : Nat) (a : ActX) : Way l cov a (doR l cov a) := by
  unfold doR
  cases hg : isGrow a with
  | true => rw [if_pos rfl]; exact .grow hg
  | false =>
    rw [if_neg (by simp)]
    by_cases h5 : a.kind.tmod 7 = 5
    · rw [if_pos (by simp [h5])]
      unfold dropR
      cases hn : noneB l a.N with
      | true => exact .same 1 hg (by decide)
      | false =>
        obtain ⟨j, hN, hj⟩ := noneB_false hn
        rw [hN]
        simp only [Bool.false_eq_true, if_false, Int.toNat_natCast]
        by_cases hs : (stB l cov j || decide ((itemAt l j).st = 2)) = true
        · rw [if_pos hs]; exact .same 6 hg (by decide)
        · rw [if_neg hs]
          simp only [Bool.or_eq_true, decide_eq_true_eq, not_or, Bool.not_eq_true] at hs
          exact .drop j h5 hg hj hN hs.1 hs.2
    · rw [if_neg (by simp [h5])]
      by_cases h6 : a.kind.tmod 7 = 6
      · rw [if_pos (by simp [h6])]
        unfold coverR
        by_cases h1 : (decide (a.N < 0) || decide ((l.length : Int) < a.N)) = true
        · rw [if_pos h1]; exact .same 1 hg (by decide)
        · rw [if_neg h1]
          simp only [Bool.or_eq_true, decide_eq_true_eq, not_or, Int.not_lt] at h1
          by_cases h2 : decide (a.N < cov) = true
          · rw [if_pos h2]; exact .same 6 hg (by decide)
          · rw [if_neg h2]
            simp only [decide_eq_true_eq, Int.not_lt] at h2
            exact .cover _ h6 hg (by omega) (by omega)
      · rw [if_neg (by simp [h6])]
        unfold tellR
        cases hn : noneB l a.N with
        | true => exact .same 1 hg (by decide)
        | false =>
          obtain ⟨j, hN, hj⟩ := noneB_false hn
          rw [hN]
          simp only [Bool.false_eq_true, if_false, Int.toNat_natCast]
          by_cases h2 : (itemAt l j).st = 2
          · rw [if_pos h2]; exact .same 6 hg (by decide)
          · rw [if_neg h2]
            by_cases hb : (openTo l cov j).any (blkB l j) = true
            · rw [if_pos hb]; exact .same 7 hg (by decide)
            · rw [if_neg hb]
              exact .tell j h5 h6 hg hj hN h2 (by simpa using hb)
theorem fitK_set {l : List Item} (h : FitK l) (i st : Nat) : FitK (setSt l i st) := by
  intro x hx
  obtain ⟨j, hj, rfl⟩ := List.getElem_of_mem hx
  have hj' : j < l.length := by rw [setSt_length] at hj; exact hj
  have e := itemAt_set l i j st
  rw [← itemAt_eq hj]
  by_cases hi : i < l.length
  · rw [e hi hj']
    have := h _ (itemAt_mem hj')
    split <;> exact this
  · have e2 : setSt l i st = l := by
      unfold setSt
      rw [List.modify_eq_self (by omega)]
    rw [e2]
    exact h _ (itemAt_mem hj')
def FitA (a : ActX) : Prop := a.k.size ≤ 100 ∧ a.s.size ≤ 100 ∧ a.n.size ≤ 100
theorem good_do {l : List Item} {cov : Nat} (h : Good l cov) (a : ActX) (ha : FitA a) : Good (doR l cov a).2.1 (doR l cov a).2.2 := by
  have hw := way l cov a
  generalize doR l cov a = r at hw
  cases hw with
  | grow _ =>
    refine ⟨by have := h.le; simp; omega, ?_⟩
    intro x hx
    rcases List.mem_append.1 hx with hx | hx
    · exact h.fit x hx
    · obtain rfl : x = _ := by simpa using hx
      obtain ⟨h1, h2, h3⟩ := ha
      unfold Go.maxLen
      exact ⟨by show a.k.size ≤ _; omega, by show a.s.size ≤ _; omega, by show a.n.size ≤ _; omega⟩
  | same e _ _ => exact h
  | drop j _ _ hj hN hs h2 => exact ⟨by rw [setSt_length]; exact h.le, fitK_set h.fit _ _⟩
  | cover c _ _ h1 h2 => exact ⟨h2, h.fit⟩
  | tell j _ _ _ hj hN h2 hb => exact ⟨by rw [setSt_length]; exact h.le, fitK_set h.fit _ _⟩
theorem do_length (l : List Item) (cov : Nat) (a : ActX) : l.length ≤ (doR l cov a).2.1.length ∧ (doR l cov a).2.1.length ≤ l.length + 1 := by
  have hw := way l cov a
  generalize doR l cov a = r at hw
  cases hw <;> simp [setSt_length]
/-- What is settled stays so. -/
theorem do_settled (l : List Item) (cov : Nat) (a : ActX) {i : Nat} (hi : i < l.length) (h : stB l cov i = true) : stB (doR l cov a).2.1 (doR l cov a).2.2 i = true := by
  have hw := way l cov a
  generalize doR l cov a = r at hw
  cases hw with
  | grow _ => rw [stB_def] at h ⊢; rw [itemAt_app hi]; exact h
  | same e _ _ => exact h
  | drop j _ _ hj hN hs h2 =>
    have hne : j ≠ i := by rintro rfl; rw [h] at hs; cases hs
    rw [stB_def] at h ⊢; rw [itemAt_set _ _ _ _ hj hi, if_neg hne]; exact h
  | cover c _ _ h1 h2 =>
    rw [stB_def] at h ⊢
    simp only [Bool.or_eq_true, decide_eq_true_eq] at h ⊢
    omega
  | tell j _ _ _ hj hN h2 hb =>
    rw [stB_def] at h ⊢; rw [itemAt_set _ _ _ _ hj hi]
    by_cases e : j = i
    · rw [if_pos e]; rfl
    · rw [if_neg e]; exact h
theorem safe_spec (l : List Item) (cov : Nat) : safeN l cov ≤ l.length ∧ (∀ i, i < safeN l cov → stB l cov i = true) ∧ (safeN l cov < l.length → stB l cov (safeN l cov) = false) := by
  unfold safeN
  cases h : (List.range l.length).find? (fun i => !stB l cov i) with
  | none =>
    rw [List.find?_eq_none] at h
    refine ⟨Nat.le_refl _, fun i hi => ?_, fun hi => absurd hi (Nat.lt_irrefl _)⟩
    have := h i (List.mem_range.2 hi)
    simpa using this
  | some k =>
    rw [List.find?_range_eq_some] at h
    refine ⟨?_, fun i hi => ?_, fun _ => ?_⟩
    · have := h.2.1; simp at this ⊢; omega
    · have := h.2.2 i hi; simpa using this
    · have := h.1; simpa using this
theorem safe_rises (l : List Item) (cov : Nat) (a : ActX) : safeN l cov ≤ safeN (doR l cov a).2.1 (doR l cov a).2.2 := by
  obtain ⟨h1, h2, h3⟩ := safe_spec l cov
  obtain ⟨k1, k2, k3⟩ := safe_spec (doR l cov a).2.1 (doR l cov a).2.2
  have hl := (do_length l cov a).1
  rcases Nat.lt_or_ge (safeN (doR l cov a).2.1 (doR l cov a).2.2) (safeN l cov) with q | q
  · exfalso
    have h4 := k3 (by omega)
    rw [do_settled l cov a (by omega) (h2 _ q)] at h4
    cases h4
  · exact q
theorem safe_settled {l : List Item} {cov : Nat} (h : safeN l cov = l.length) : settledAll l cov = true := by
  obtain ⟨h1, h2, h3⟩ := safe_spec l cov
  unfold settledAll
  rw [List.all_eq_true]
  intro i hi
  rw [h2 i (by rw [h]; exact List.mem_range.1 hi)]; simp
theorem cover_all {l : List Item} {cov : Nat} (h : cov ≤ l.length) : coverR l cov l.length = (0, l.length) := by
  unfold coverR
  rw [if_neg (by simp), if_neg (by simp; omega)]
  simp
theorem safe_covered (l : List Item) : safeN l l.length = l.length := by
  obtain ⟨h1, h2, h3⟩ := safe_spec l l.length
  rcases Nat.lt_or_ge (safeN l l.length) l.length with q | q
  · have := h3 q
    rw [stB_def] at this
    simp at this
    omega
  · omega
theorem open_covered (l : List Item) : openP l (openTo l l.length l.length) = [] := by
  have e : openTo l l.length l.length = [] := by
    unfold openTo
    rw [List.filter_eq_nil_iff]
    intro i hi
    rw [List.mem_range] at hi
    rw [stB_def]; simp [hi]
  rw [e]; rfl
end Go.Proofs.Ytdcceaafiammfaa
