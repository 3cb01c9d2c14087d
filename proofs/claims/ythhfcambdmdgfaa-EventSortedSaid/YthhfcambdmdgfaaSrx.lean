import Derived.Test.YthhfcambdmdgfaaSrt
import Derived.Test.YthhfcambdmdgfaaTra
namespace Go.Proofs.Ythhfcambdmdgfaa
open Srt
set_option linter.unusedVariables false
set_option linter.unusedSimpArgs false
set_option linter.unusedSectionVars false
/-! ### Sorted by texts: each one ahead of the first that it is ahead of -/
theorem toB : TO ltB := ⟨ltB_irrefl, fun _ _ _ h k => ltB_trans h k, fun x y h k => by
  by_cases e : x = y
  · exact e
  · rcases ltB_total e with q | q
    · rw [h] at q; cases q
    · rw [k] at q; cases q⟩
section
variable {α : Type} {t : α → ByteArray}
def insX (t : α → ByteArray) (x : α) : List α → List α
  | [] => [x]
  | y :: r => if ltB (t x) (t y) then x :: y :: r else y :: insX t x r
def srtX (t : α → ByteArray) (l : List α) : List α := l.foldl (fun a x => insX t x a) []
def SrtL (t : α → ByteArray) (l : List α) : Prop := l.Pairwise (fun x y => ltB (t y) (t x) = false)
theorem insX_mem {x z : α} : ∀ (l : List α), z ∈ insX t x l ↔ z = x ∨ z ∈ l
  | [] => by simp [insX]
  | y :: r => by
    unfold insX
    split
    · simp
    · simp only [List.mem_cons, insX_mem r]
      constructor
      · rintro (h | h | h) <;> simp_all
      · rintro (h | h | h) <;> simp_all
theorem insX_len (x : α) : ∀ (l : List α), (insX t x l).length = l.length + 1
  | [] => rfl
  | y :: r => by unfold insX; split <;> simp [insX_len x r]
theorem insX_stab (x : α) : ∀ (l : List α), SrtL t l → Stab t (insX t x l) (l ++ [x])
  | [], _ => Stab.refl _
  | y :: r, h => by
    have h' := List.pairwise_cons.1 h
    unfold insX
    split
    · rename_i hlt
      exact stab_swap (K := t) (X := [x]) (Y := y :: r) (fun a ha b hb => by
        obtain rfl := List.mem_singleton.1 ha
        intro e
        rcases List.mem_cons.1 hb with rfl | hb
        · rw [e, ltB_irrefl] at hlt; cases hlt
        · have := h'.1 b hb
          rw [← e, hlt] at this; cases this)
    · exact stab_app (Stab.refl (K := t) [y]) (insX_stab x r h'.2)
theorem insX_srt (x : α) : ∀ (l : List α), SrtL t l → SrtL t (insX t x l)
  | [], _ => List.pairwise_singleton _ _
  | y :: r, h => by
    have h' := List.pairwise_cons.1 h
    unfold insX
    split
    · rename_i hlt
      refine List.pairwise_cons.2 ⟨fun z hz => ?_, h⟩
      rcases List.mem_cons.1 hz with rfl | hz
      · exact ltB_asymm hlt
      · exact toB.asym (toB.lt_le hlt (h'.1 z hz))
    · rename_i hlt
      refine List.pairwise_cons.2 ⟨fun z hz => ?_, insX_srt x r h'.2⟩
      rcases (insX_mem r).1 hz with rfl | hz
      · simpa using hlt
      · exact h'.1 z hz
theorem srtX_go : ∀ (l a : List α), SrtL t a → SrtL t (l.foldl (fun a x => insX t x a) a) ∧ Stab t (l.foldl (fun a x => insX t x a) a) (a ++ l)
  | [], a, h => ⟨h, by simpa using Stab.refl a⟩
  | x :: r, a, h => by
    obtain ⟨h1, h2⟩ := srtX_go r (insX t x a) (insX_srt x a h)
    refine ⟨h1, Stab.trans (K := t) h2 ?_⟩
    have := stab_app (insX_stab x a h) (Stab.refl (K := t) r)
    simpa [List.append_assoc] using this
theorem srtX_srt (l : List α) : SrtL t (srtX t l) := (srtX_go l [] List.Pairwise.nil).1
theorem srtX_stab (l : List α) : Stab t (srtX t l) l := (srtX_go (t := t) l [] List.Pairwise.nil).2
theorem Stab_symm {κ : Type} [DecidableEq κ] {K : α → κ} {l m : List α} (h : Stab K l m) : Stab K m l := fun c => (h c).symm
theorem srtX_of {l m : List α} (h : SrtL t m) (k : Stab t l m) : m = srtX t l :=
  srt_unique toB _ _ h (srtX_srt l) (Stab.trans (Stab_symm k) (Stab_symm (srtX_stab l)))
theorem srtX_same {l : List α} (h : SrtL t l) : srtX t l = l := (srtX_of h (Stab.refl l)).symm
theorem srtX_mem {l : List α} {x : α} : x ∈ srtX t l ↔ x ∈ l := (srtX_stab l).mem
theorem srtX_len (l : List α) : (srtX t l).length = l.length := by
  have : ∀ (l a : List α), (l.foldl (fun a x => insX t x a) a).length = a.length + l.length := by
    intro l
    induction l with
    | nil => intro a; rfl
    | cons x r ih => intro a; rw [List.foldl_cons, ih, insX_len, List.length_cons]; omega
  have h := this l []
  rw [List.length_nil, Nat.zero_add] at h
  exact h
theorem srtX_snoc (l : List α) (x : α) : srtX t (l ++ [x]) = insX t x (srtX t l) := by unfold srtX; rw [List.foldl_append]; rfl
theorem insX_map {β : Type} (f : β → α) (x : β) : ∀ (l : List β), (insX (fun b => t (f b)) x l).map f = insX t (f x) (l.map f)
  | [] => rfl
  | y :: r => by
    unfold insX
    split <;> rename_i h
    · simp [insX, h]
    · simp [insX, h, insX_map f x r]
theorem srtX_map {β : Type} (f : β → α) (l : List β) : (srtX (fun b => t (f b)) l).map f = srtX t (l.map f) := by
  unfold srtX
  have : ∀ (l a : List β), (l.foldl (fun a x => insX (fun b => t (f b)) x a) a).map f = (l.map f).foldl (fun a x => insX t x a) (a.map f) := by
    intro l
    induction l with
    | nil => intro a; rfl
    | cons x r ih => intro a; rw [List.foldl_cons, ih, insX_map]; rfl
  exact this l []
/-- The way of the reference: what stands so far, and whether x is in. -/
def insStep (t : α → ByteArray) (x : α) (s : List α × Bool) (y : α) : List α × Bool := if !s.2 && ltB (t x) (t y) then (s.1 ++ [x, y], true) else (s.1 ++ [y], s.2)
def insTo (t : α → ByteArray) (x : α) (l : List α) (k : Nat) : List α × Bool := (l.take k).foldl (insStep t x) ([], false)
theorem insTo_succ {x : α} {l : List α} {k : Nat} (h : k < l.length) : insTo t x l (k + 1) = if !(insTo t x l k).2 && ltB (t x) (t (l[k]'h)) then ((insTo t x l k).1 ++ [x, l[k]'h], true) else ((insTo t x l k).1 ++ [l[k]'h], (insTo t x l k).2) := by
  unfold insTo; rw [List.take_succ_eq_append_getElem h, List.foldl_append]; rfl
theorem insTo_true (x : α) : ∀ (l o : List α), l.foldl (insStep t x) (o, true) = (o ++ l, true)
  | [], o => by simp
  | y :: r, o => by
    have e : insStep t x (o, true) y = (o ++ [y], true) := rfl
    rw [List.foldl_cons, e, insTo_true x r]; simp
theorem insTo_go (x : α) : ∀ (l o : List α), l.foldl (insStep t x) (o, false) = if l.any (fun y => ltB (t x) (t y)) then (o ++ insX t x l, true) else (o ++ l, false)
  | [], o => by simp
  | y :: r, o => by
    rw [List.foldl_cons]
    by_cases h : ltB (t x) (t y) = true
    · have e : insStep t x (o, false) y = (o ++ [x, y], true) := by unfold insStep; simp [h]
      rw [e, insTo_true, if_pos (by simp [h])]; unfold insX; rw [if_pos h]; simp
    · have h' : ltB (t x) (t y) = false := by simpa using h
      have e : insStep t x (o, false) y = (o ++ [y], false) := by unfold insStep; simp [h']
      have e2 : insX t x (y :: r) = y :: insX t x r := by show (if _ then _ else _) = _; rw [if_neg h]
      rw [e, insTo_go x r, List.any_cons, h', Bool.false_or, e2]
      split <;> simp
theorem insX_last {x : α} : ∀ {l : List α}, l.any (fun y => ltB (t x) (t y)) = false → insX t x l = l ++ [x]
  | [], _ => rfl
  | y :: r, h => by
    simp only [List.any_cons, Bool.or_eq_false_iff] at h
    unfold insX; rw [if_neg (by simp [h.1]), insX_last h.2]; rfl
/-- At the end. -/
theorem insTo_end (x : α) (l : List α) : insX t x l = if (insTo t x l l.length).2 then (insTo t x l l.length).1 else (insTo t x l l.length).1 ++ [x] := by
  unfold insTo
  rw [List.take_length, insTo_go]
  split <;> rename_i h
  · simp
  · rw [insX_last (by simpa using h)]; simp
theorem insTo_len (x : α) (l : List α) (k : Nat) (h : k ≤ l.length) : (insTo t x l k).1.length = k + (if (insTo t x l k).2 then 1 else 0) := by
  induction k with
  | zero => rfl
  | succ k ih =>
    rw [insTo_succ (by omega)]
    have := ih (by omega)
    cases hb : (insTo t x l k).2 with
    | true => rw [hb] at this; simp at this ⊢; omega
    | false =>
      rw [hb] at this
      by_cases q : ltB (t x) (t (l[k]'(by omega))) = true
      · simp [q] at this ⊢; omega
      · simp [q] at this ⊢; omega
theorem insTo_mem {x z : α} {l : List α} {k : Nat} (h : k ≤ l.length) (hz : z ∈ (insTo t x l k).1) : z = x ∨ z ∈ l := by
  induction k with
  | zero => simp [insTo] at hz
  | succ k ih =>
    rw [insTo_succ (by omega)] at hz
    have hg : l[k]'(by omega) ∈ l := List.getElem_mem _
    split at hz
    · simp only [List.mem_append, List.mem_cons, List.not_mem_nil, or_false] at hz
      rcases hz with q | rfl | rfl
      · exact ih (by omega) q
      · exact .inl rfl
      · exact .inr hg
    · simp only [List.mem_append, List.mem_cons, List.not_mem_nil, or_false] at hz
      rcases hz with q | rfl
      · exact ih (by omega) q
      · exact .inr hg
end
end Go.Proofs.Ythhfcambdmdgfaa
