import Derived.Test.YthaipgbjnigkhaaMki
namespace Go.Proofs.Ythaipgbjnigkhaa
open Go.RowKit Go.Shelf Go.Maps
set_option linter.unusedVariables false
set_option linter.unusedSimpArgs false
set_option linter.unusedSectionVars false
/-! ### The deepest one, by definition -/
theorem nextD_zero {T : Nodes} : ∀ (l : List ByteArray), (∀ x ∈ l, (pathT T x).length = 0) → nextD T l = (⟨#[]⟩, 0) := by
  intro l h
  unfold nextD
  induction l with
  | nil => rfl
  | cons a r ih =>
    rw [List.foldl_cons, show stepD T (⟨#[]⟩, 0) a = (⟨#[]⟩, 0) by unfold stepD; rw [h a (List.mem_cons_self ..)]; rfl]
    exact ih (fun x hx => h x (List.mem_cons_of_mem _ hx))
theorem fold_stay {T : Nodes} {bd : ByteArray × Nat} : ∀ (l : List ByteArray), (∀ x ∈ l, (pathT T x).length ≤ bd.2) → l.foldl (stepD T) bd = bd := by
  intro l h
  induction l with
  | nil => rfl
  | cons a r ih =>
    rw [List.foldl_cons, show stepD T bd a = bd by unfold stepD; rw [if_neg (by have := h a (List.mem_cons_self ..); omega)]]
    exact ih (fun x hx => h x (List.mem_cons_of_mem _ hx))
theorem fold_lt {T : Nodes} {D : Nat} : ∀ (l : List ByteArray) (bd : ByteArray × Nat), bd.2 < D → (∀ x ∈ l, (pathT T x).length < D) → (l.foldl (stepD T) bd).2 < D := by
  intro l
  induction l with
  | nil => exact fun bd h _ => h
  | cons a r ih =>
    intro bd h hl
    refine ih _ ?_ (fun x hx => hl x (List.mem_cons_of_mem _ hx))
    unfold stepD
    split
    · exact hl a (List.mem_cons_self ..)
    · exact h
theorem nextD_is {T : Nodes} {l : List ByteArray} {D i : Nat} (hD : 0 < D) (hi : i < l.length) (hl : ∀ x ∈ l, (pathT T x).length ≤ D) (he : (pathT T (l[i]'hi)).length = D) (hn : ∀ j (hj : j < l.length), j < i → (pathT T (l[j]'hj)).length ≠ D) : nextD T l = (l[i]'hi, D) := by
  have h1 : l = l.take i ++ (l[i]'hi :: l.drop (i + 1)) := by
    rw [List.getElem_cons_drop, List.take_append_drop]
  have hp : ∀ x ∈ l.take i, (pathT T x).length < D := by
    intro x hx
    obtain ⟨j, hj, rfl⟩ := List.getElem_of_mem hx
    rw [List.length_take] at hj
    rw [List.getElem_take]
    have h2 := hn j (by omega) (by omega)
    have h3 := hl _ (List.getElem_mem (by omega : j < l.length))
    omega
  have hq : ∀ x ∈ l.drop (i + 1), (pathT T x).length ≤ D := fun x hx => hl x (List.mem_of_mem_drop hx)
  have h4 := fold_lt (T := T) (D := D) (l.take i) (⟨#[]⟩, 0) hD hp
  have h5 : stepD T ((l.take i).foldl (stepD T) (⟨#[]⟩, 0)) (l[i]'hi) = (l[i]'hi, D) := by
    generalize (l.take i).foldl (stepD T) (⟨#[]⟩, 0) = bd at h4
    unfold stepD; rw [he, if_pos h4]
  have h6 := fold_stay (T := T) (bd := (l[i]'hi, D)) (l.drop (i + 1)) hq
  have h7 : nextD T (l.take i ++ (l[i]'hi :: l.drop (i + 1))) = (l[i]'hi, D) := by
    unfold nextD
    rw [List.foldl_append, List.foldl_cons, h5, h6]
  exact (congrArg (nextD T) h1).trans h7
end Go.Proofs.Ythaipgbjnigkhaa
