import Derived.Test.YthhfcambdmdgfaaMv
namespace Go.Proofs.Ythhfcambdmdgfaa
open Go.RowKit Go.Maps
set_option linter.unusedVariables false
set_option linter.unusedSimpArgs false
set_option linter.unusedSectionVars false
/-! ### Maps in plain words: lists of keys and what stands there, in the order of the keys -/
abbrev AM (κ β : Type) := List (κ × β)
structure Strict {κ : Type} (lt : κ → κ → Bool) : Prop where
  irrefl : ∀ a, lt a a = false
  trans : ∀ {a b c}, lt a b = true → lt b c = true → lt a c = true
  total : ∀ {a b}, a ≠ b → lt a b = true ∨ lt b a = true
section
variable {κ β : Type} [DecidableEq κ]
def hasA (M : AM κ β) (k : κ) : Bool := M.any fun p => decide (p.1 = k)
def getA (M : AM κ β) (k : κ) : Option β := (M.find? fun p => decide (p.1 = k)).map (·.2)
def delA (M : AM κ β) (k : κ) : AM κ β := M.filter fun p => !decide (p.1 = k)
def insA (lt : κ → κ → Bool) : AM κ β → κ → β → AM κ β
  | [], k, v => [(k, v)]
  | y :: r, k, v => if lt k y.1 then (k, v) :: y :: r else y :: insA lt r k v
def putA (lt : κ → κ → Bool) (M : AM κ β) (k : κ) (v : β) : AM κ β := insA lt (delA M k) k v
def RiseA (lt : κ → κ → Bool) (M : AM κ β) : Prop := M.Pairwise fun p q => lt p.1 q.1 = true
def keysA (M : AM κ β) : List κ := M.map (·.1)
theorem getA_nil (k : κ) : getA ([] : AM κ β) k = none := rfl
theorem getA_cons (p : κ × β) (M : AM κ β) (k : κ) : getA (p :: M) k = if p.1 = k then some p.2 else getA M k := by
  unfold getA
  by_cases h : p.1 = k
  · rw [List.find?_cons_of_pos (by simp [h]), if_pos h]; rfl
  · rw [List.find?_cons_of_neg (by simpa using h), if_neg h]
theorem hasA_get (M : AM κ β) (k : κ) : hasA M k = (getA M k).isSome := by
  induction M with
  | nil => rfl
  | cons p r ih =>
    rw [getA_cons]
    unfold hasA at ih ⊢
    rw [List.any_cons, ih]
    by_cases h : p.1 = k <;> simp [h]
theorem getA_del (M : AM κ β) (k x : κ) : getA (delA M k) x = if x = k then none else getA M x := by
  induction M with
  | nil => simp [delA, getA]
  | cons p r ih =>
    unfold delA at ih ⊢
    by_cases h : p.1 = k
    · rw [List.filter_cons_of_neg (by simp [h]), ih, getA_cons]
      by_cases hx : x = k
      · simp [hx]
      · rw [if_neg hx, if_neg hx, if_neg (by rw [h]; exact fun e => hx e.symm)]
    · rw [List.filter_cons_of_pos (by simp [h]), getA_cons, getA_cons, ih]
      by_cases hx : x = k
      · subst hx; simp [h]
      · simp [hx]
theorem getA_ins (lt : κ → κ → Bool) (M : AM κ β) (k : κ) (v : β) (h : getA M k = none) (x : κ) : getA (insA lt M k v) x = if x = k then some v else getA M x := by
  induction M with
  | nil =>
    unfold insA; rw [getA_cons]
    by_cases e : x = k
    · simp [e]
    · rw [if_neg (fun q => e q.symm), if_neg e]
  | cons p r ih =>
    rw [getA_cons] at h
    have hpk : p.1 ≠ k := by rintro e; rw [if_pos e] at h; cases h
    rw [if_neg hpk] at h
    unfold insA
    split
    · rw [getA_cons]
      by_cases e : x = k
      · simp [e]
      · simp only; rw [if_neg (fun q => e q.symm), if_neg e]
    · rw [getA_cons, getA_cons, ih h]
      by_cases e : x = k
      · subst e; rw [if_neg hpk, if_pos rfl, if_pos rfl]
      · rw [if_neg e, if_neg e]
theorem getA_put (lt : κ → κ → Bool) (M : AM κ β) (k : κ) (v : β) (x : κ) : getA (putA lt M k v) x = if x = k then some v else getA M x := by
  unfold putA
  rw [getA_ins lt _ k v (by rw [getA_del, if_pos rfl]), getA_del]
  split <;> rfl
theorem mem_ins {lt : κ → κ → Bool} {M : AM κ β} {k : κ} {v : β} {q : κ × β} : q ∈ insA lt M k v ↔ q = (k, v) ∨ q ∈ M := by
  induction M with
  | nil => simp [insA]
  | cons y r ih =>
    unfold insA
    split
    · simp
    · simp [ih]; constructor
      · rintro (h | h | h) <;> simp [h]
      · rintro (h | h | h) <;> simp [h]
theorem ins_len (lt : κ → κ → Bool) (M : AM κ β) (k : κ) (v : β) : (insA lt M k v).length = M.length + 1 := by
  induction M with
  | nil => rfl
  | cons y r ih => unfold insA; split <;> simp [ih]
theorem del_le (M : AM κ β) (k : κ) : (delA M k).length ≤ M.length := List.length_filter_le _ _
theorem put_le (lt : κ → κ → Bool) (M : AM κ β) (k : κ) (v : β) : (putA lt M k v).length ≤ M.length + 1 := by
  unfold putA; rw [ins_len]; have := del_le M k; omega
theorem mem_del {M : AM κ β} {k : κ} {q : κ × β} : q ∈ delA M k ↔ q ∈ M ∧ q.1 ≠ k := by simp [delA]
theorem mem_put {lt : κ → κ → Bool} {M : AM κ β} {k : κ} {v : β} {q : κ × β} : q ∈ putA lt M k v ↔ q = (k, v) ∨ (q ∈ M ∧ q.1 ≠ k) := by unfold putA; rw [mem_ins, mem_del]
section
variable {lt : κ → κ → Bool} (O : Strict lt)
include O
theorem Strict.ne {a b : κ} (h : lt a b = true) : a ≠ b := by rintro rfl; rw [O.irrefl] at h; cases h
theorem Strict.asymm {a b : κ} (h : lt a b = true) : lt b a = false := by
  cases k : lt b a with
  | false => rfl
  | true => have := O.trans h k; rw [O.irrefl] at this; cases this
theorem rise_ins {M : AM κ β} (h : RiseA lt M) {k : κ} {v : β} (hk : getA M k = none) : RiseA lt (insA lt M k v) := by
  induction M with
  | nil => exact List.pairwise_singleton _ _
  | cons y r ih =>
    rw [RiseA, List.pairwise_cons] at h
    rw [getA_cons] at hk
    have hne : y.1 ≠ k := by rintro e; rw [if_pos e] at hk; cases hk
    rw [if_neg hne] at hk
    unfold insA
    split
    · rename_i hl
      refine List.pairwise_cons.2 ⟨fun q hq => ?_, List.pairwise_cons.2 h⟩
      rcases List.mem_cons.1 hq with rfl | hq
      · exact hl
      · exact O.trans hl (h.1 _ hq)
    · rename_i hl
      refine List.pairwise_cons.2 ⟨fun q hq => ?_, ih h.2 hk⟩
      rcases mem_ins.1 hq with rfl | hq
      · rcases O.total hne with q | q
        · exact q
        · exact absurd q hl
      · exact h.1 _ hq
theorem rise_del {M : AM κ β} (h : RiseA lt M) (k : κ) : RiseA lt (delA M k) := List.Pairwise.filter _ h
theorem rise_put {M : AM κ β} (h : RiseA lt M) (k : κ) (v : β) : RiseA lt (putA lt M k v) := rise_ins O (rise_del O h k) (by rw [getA_del, if_pos rfl])
theorem get_mem {M : AM κ β} (h : RiseA lt M) {k : κ} {v : β} : getA M k = some v ↔ (k, v) ∈ M := by
  induction M with
  | nil => simp [getA]
  | cons y r ih =>
    rw [RiseA, List.pairwise_cons] at h
    rw [getA_cons]
    by_cases e : y.1 = k
    · rw [if_pos e]
      constructor
      · intro q; cases q; subst e; exact List.mem_cons_self
      · intro q
        rcases List.mem_cons.1 q with rfl | q
        · rfl
        · have := h.1 _ q; rw [e] at this; exact absurd rfl (O.ne this)
    · rw [if_neg e, ih h.2]
      constructor
      · exact List.mem_cons_of_mem _
      · intro q
        rcases List.mem_cons.1 q with rfl | q
        · exact absurd rfl e
        · exact q
/-- Two maps that hold the same are one. -/
theorem am_ext {M N : AM κ β} (hM : RiseA lt M) (hN : RiseA lt N) (h : ∀ k, getA M k = getA N k) : M = N := by
  induction M generalizing N with
  | nil =>
    cases N with
    | nil => rfl
    | cons y r => have := h y.1; rw [getA_cons, if_pos rfl] at this; cases this
  | cons x s ih =>
    cases N with
    | nil => have := h x.1; rw [getA_cons, if_pos rfl] at this; cases this
    | cons y r =>
      have hMm := (get_mem O hN (k := x.1) (v := x.2)).1 (by rw [← h x.1, getA_cons, if_pos rfl])
      have hNm := (get_mem O hM (k := y.1) (v := y.2)).1 (by rw [h y.1, getA_cons, if_pos rfl])
      have hM' := hM; have hN' := hN
      rw [RiseA, List.pairwise_cons] at hM' hN'
      have e : x = y := by
        rcases List.mem_cons.1 hMm with q | q
        · exact q
        · rcases List.mem_cons.1 hNm with q2 | q2
          · exact q2.symm
          · have := O.trans (hN'.1 _ q) (hM'.1 _ q2); rw [O.irrefl] at this; cases this
      subst e
      congr 1
      refine ih hM'.2 hN'.2 fun k => ?_
      have hk := h k
      rw [getA_cons, getA_cons] at hk
      by_cases e : x.1 = k
      · subst e
        have h1 : getA s x.1 = none := by
          cases q : getA s x.1 with
          | none => rfl
          | some v => have := hM'.1 _ ((get_mem O hM'.2).1 q); exact absurd rfl (O.ne this)
        have h2 : getA r x.1 = none := by
          cases q : getA r x.1 with
          | none => rfl
          | some v => have := hN'.1 _ ((get_mem O hN'.2).1 q); exact absurd rfl (O.ne this)
        rw [h1, h2]
      · rwa [if_neg e, if_neg e] at hk
theorem keys_nodup {M : AM κ β} (h : RiseA lt M) : (keysA M).Nodup := by
  unfold keysA List.Nodup
  rw [List.pairwise_map]
  exact h.imp fun q => O.ne q
theorem len_del {M : AM κ β} (h : RiseA lt M) (k : κ) : (delA M k).length + (if hasA M k then 1 else 0) = M.length := by
  induction M with
  | nil => rfl
  | cons y r ih =>
    rw [RiseA, List.pairwise_cons] at h
    have ih := ih h.2
    unfold delA at ih ⊢
    by_cases e : y.1 = k
    · have hn : hasA r k = false := by
        rw [hasA_get]
        cases q : getA r k with
        | none => rfl
        | some v => have := h.1 _ ((get_mem O h.2).1 q); rw [e] at this; exact absurd rfl (O.ne this)
      rw [List.filter_cons_of_neg (by simp [e])]
      rw [hn] at ih
      have : hasA (y :: r) k = true := by unfold hasA; rw [List.any_cons]; simp [e]
      rw [this, List.length_cons, if_pos rfl]
      rw [if_neg (by simp)] at ih
      omega
    · rw [List.filter_cons_of_pos (by simp [e])]
      have : hasA (y :: r) k = hasA r k := by unfold hasA; rw [List.any_cons]; simp [e]
      rw [this, List.length_cons, List.length_cons]
      omega
theorem len_put {M : AM κ β} (h : RiseA lt M) (k : κ) (v : β) : (putA lt M k v).length = if hasA M k then M.length else M.length + 1 := by
  have := len_del O h k
  unfold putA; rw [ins_len]
  split <;> simp_all
end
/-! In memory. -/
structure KeyLit (ek : κ → Lit) (lt : κ → κ → Bool) : Prop where
  same : ∀ a b, (ek a).sameKey (ek b) = decide (a = b)
  before : ∀ a b, (ek a).before (ek b) = lt a b
def dmA (ek : κ → Lit) (ev : β → Value) (M : AM κ β) : DataW Value := .map (M.map fun p => (ek p.1, .held (ev p.2)))
section
variable {ek : κ → Lit} {lt : κ → κ → Bool} (hk : KeyLit ek lt) (ev : β → Value)
include hk
theorem has_dmA (M : AM κ β) (k : κ) : Maps.has (dmA ek ev M) (ek k) = hasA M k := by
  show (M.map (fun p : κ × β => ((ek p.1, DataW.held (ev p.2)) : Lit × DataW Value))).any (fun p => p.1.sameKey (ek k)) = _
  rw [List.any_map]
  unfold hasA
  congr 1; funext p; exact hk.same _ _
theorem val_dmA (M : AM κ β) (k : κ) (z : Value) : valAt (dmA ek ev M) (ek k) z = ((getA M k).map ev).getD z := by
  unfold valAt dmA DataW.atKey getA
  simp only
  rw [List.find?_map]
  have e : ((fun p : Lit × DataW Value => p.1.sameKey (ek k)) ∘ fun p : κ × β => (ek p.1, DataW.held (ev p.2))) = fun p => decide (p.1 = k) := by funext p; exact hk.same _ _
  rw [e]
  cases M.find? (fun p => decide (p.1 = k)) <;> rfl
theorem size_dmA (M : AM κ β) : Maps.size (dmA ek ev M) = M.length := by simp [dmA, Maps.size]
theorem filter_dmA (M : AM κ β) (k : κ) : (M.map fun p : κ × β => (ek p.1, DataW.held (ev p.2))).filter (fun p => !p.1.sameKey (ek k)) = (delA M k).map fun p : κ × β => (ek p.1, DataW.held (ev p.2)) := by
  rw [List.filter_map]
  unfold delA
  congr 2; funext p; show (!(ek p.1).sameKey (ek k)) = _; rw [hk.same]
theorem del_dmA (M : AM κ β) (k : κ) : (dmA ek ev M).del (ek k) = dmA ek ev (delA M k) := by
  show DataW.map _ = _
  rw [filter_dmA hk]; rfl
theorem insert_dmA : ∀ (M : AM κ β) (k : κ) (v : β), DataW.insert (ek k, DataW.held (ev v)) (M.map fun p : κ × β => (ek p.1, DataW.held (ev p.2))) = (insA lt M k v).map fun p : κ × β => (ek p.1, DataW.held (ev p.2))
  | [], _, _ => rfl
  | y :: r, k, v => by
    have h : (ek k).before (ek y.1) = lt k y.1 := hk.before _ _
    simp only [List.map_cons, DataW.insert, insA]
    rw [h]
    split
    · rfl
    · rw [List.map_cons, insert_dmA r k v]
theorem put_dmA (M : AM κ β) (k : κ) (v : β) : (dmA ek ev M).put (ek k) (.held (ev v)) = dmA ek ev (putA lt M k v) := by
  show DataW.map (DataW.insert _ _) = _
  rw [filter_dmA hk, insert_dmA hk]; rfl
end
end
end Go.Proofs.Ythhfcambdmdgfaa
