import Derived.Test.YteomicjjaajblaaAmap
import Derived.Test.YteomicjjaajblaaTra
import Derived.Test.YteomicjjaajblaaLb1
import Derived.Test.YteomicjjaajblaaWida
namespace Go.Proofs.Yteomicjjaajblaa
open Classical
set_option linter.unusedVariables false
set_option linter.unusedSimpArgs false
/-! ### Vectors, in plain words -/
theorem strictB : Strict ltB := ⟨ltB_irrefl, fun h k => ltB_trans h k, fun h => ltB_total h⟩
abbrev Vec := AM ByteArray Int
def getV (v : Vec) (n : ByteArray) : Int := (getA v n).getD 0
def risB : List ByteArray → Bool
  | a :: b :: r => ltB a b && risB (b :: r)
  | _ => true
theorem risB_iff : ∀ (l : List ByteArray), risB l = true ↔ l.Pairwise (fun a b => ltB a b = true)
  | [] => ⟨fun _ => List.Pairwise.nil, fun _ => rfl⟩
  | [a] => ⟨fun _ => List.pairwise_singleton _ _, fun _ => rfl⟩
  | a :: b :: r => by
    have ih := risB_iff (b :: r)
    unfold risB
    rw [Bool.and_eq_true, ih, List.pairwise_cons (a := a)]
    constructor
    · rintro ⟨h1, h2⟩
      refine ⟨fun x hx => ?_, h2⟩
      rcases List.mem_cons.1 hx with rfl | hx
      · exact h1
      · exact ltB_trans h1 ((List.pairwise_cons.1 h2).1 x hx)
    · rintro ⟨h1, h2⟩
      exact ⟨h1 b List.mem_cons_self, h2⟩
theorem risB_rise (v : Vec) : risB (keysA v) = true ↔ RiseA ltB v := by
  rw [risB_iff]; unfold keysA RiseA; rw [List.pairwise_map]
/-- Rising so far, and one more. -/
theorem risB_snoc : ∀ (l : List ByteArray) (a b : ByteArray), risB (l ++ [a] ++ [b]) = (risB (l ++ [a]) && ltB a b)
  | [], a, b => by simp [risB]
  | [x], a, b => by simp [risB, Bool.and_assoc]
  | x :: y :: r, a, b => by
    have ih := risB_snoc (y :: r) a b
    simp only [List.cons_append, risB] at ih ⊢
    rw [ih, Bool.and_assoc]
def entB (p : ByteArray × Int) : Bool := rightB p.1 && decide (p.2 ≠ 0)
def rightV (v : Vec) : Bool := v.all entB && risB (keysA v)
theorem rightV_spec {v : Vec} (h : rightV v = true) : RiseA ltB v ∧ ∀ p ∈ v, rightB p.1 = true ∧ p.2 ≠ 0 := by
  unfold rightV at h
  rw [Bool.and_eq_true, risB_rise, List.all_eq_true] at h
  refine ⟨h.2, fun p hp => ?_⟩
  have := h.1 p hp
  unfold entB at this
  simpa using this
theorem rightV_of {v : Vec} (h : RiseA ltB v) (h2 : ∀ p ∈ v, rightB p.1 = true ∧ p.2 ≠ 0) : rightV v = true := by
  unfold rightV
  rw [Bool.and_eq_true, risB_rise, List.all_eq_true]
  exact ⟨fun p hp => by unfold entB; simpa using h2 p hp, h⟩
/-- Without what is none. -/
def someV (v : Vec) : Vec := v.filter fun p => !decide (p.2 = 0)
theorem rise_some {v : Vec} (h : RiseA ltB v) : RiseA ltB (someV v) := List.Pairwise.filter _ h
theorem getV_cons (p : ByteArray × Int) (v : Vec) (n : ByteArray) : getV (p :: v) n = if p.1 = n then p.2 else getV v n := by
  unfold getV; rw [getA_cons]; split <;> rfl
theorem getV_put (v : Vec) (n : ByteArray) (x : Int) (m : ByteArray) : getV (putA ltB v n x) m = if m = n then x else getV v m := by
  unfold getV; rw [getA_put]; split <;> rfl
theorem getV_none {v : Vec} {n : ByteArray} (h : ∀ p ∈ v, p.1 ≠ n) : getV v n = 0 := by
  induction v with
  | nil => rfl
  | cons p r ih => rw [getV_cons, if_neg (h p List.mem_cons_self)]; exact ih fun q hq => h q (List.mem_cons_of_mem _ hq)
theorem getV_some {v : Vec} (h : RiseA ltB v) (n : ByteArray) : getV (someV v) n = getV v n := by
  induction v with
  | nil => rfl
  | cons p r ih =>
    rw [RiseA, List.pairwise_cons] at h
    have ih := ih h.2
    unfold someV at ih ⊢
    by_cases e : p.2 = 0
    · rw [List.filter_cons_of_neg (by simp [e]), ih, getV_cons]
      by_cases q : p.1 = n
      · rw [if_pos q, e]
        exact getV_none fun x hx => by have := h.1 x hx; rw [q] at this; exact (strictB.ne this).symm
      · rw [if_neg q]
    · rw [List.filter_cons_of_pos (by simpa using e), getV_cons, getV_cons, ih]
theorem getV_mem {v : Vec} (h : RiseA ltB v) {p : ByteArray × Int} (hp : p ∈ v) : getV v p.1 = p.2 := by
  unfold getV; rw [(get_mem strictB h).2 (show (p.1, p.2) ∈ v from hp)]; rfl
theorem getV_ne {v : Vec} {n : ByteArray} (h : getV v n ≠ 0) : ∃ x, (n, x) ∈ v ∧ x = getV v n := by
  unfold getV at h ⊢
  cases q : getA v n with
  | none => rw [q] at h; exact absurd rfl h
  | some x =>
    refine ⟨x, ?_, rfl⟩
    unfold getA at q
    cases r : v.find? (fun p => decide (p.1 = n)) with
    | none => rw [r] at q; cases q
    | some p =>
      rw [r] at q
      have h1 := List.find?_some r
      have h2 := List.mem_of_find?_eq_some r
      simp only [decide_eq_true_eq] at h1
      simp only [Option.map_some, Option.some.injEq] at q
      subst h1; subst q; exact h2
/-- Two vectors without nothings that have of each name the same are one. -/
theorem vec_ext {u v : Vec} (hu : RiseA ltB u) (hv : RiseA ltB v) (zu : ∀ p ∈ u, p.2 ≠ 0) (zv : ∀ p ∈ v, p.2 ≠ 0) (h : ∀ n, getV u n = getV v n) : u = v := by
  refine am_ext strictB hu hv fun n => ?_
  have key : ∀ {a b : Vec}, RiseA ltB a → RiseA ltB b → (∀ p ∈ a, p.2 ≠ 0) → (∀ m, getV a m = getV b m) → ∀ x, getA a n = some x → getA b n = some x := by
    intro a b ha hb za hab x hx
    have hm := (get_mem strictB ha).1 hx
    have h1 := getV_mem ha hm
    have h2 := hab n
    rw [h1] at h2
    have h3 := za _ hm
    obtain ⟨y, hy, e⟩ := getV_ne (v := b) (n := n) (by rw [← h2]; exact h3)
    rw [(get_mem strictB hb).2 hy, e, ← h2]
  cases q : getA u n with
  | some x => exact (key hu hv zu h x q).symm
  | none =>
    cases r : getA v n with
    | none => rfl
    | some y => rw [key hv hu zv (fun m => (h m).symm) y r] at q; cases q
theorem someV_nz (v : Vec) : ∀ p ∈ someV v, p.2 ≠ 0 := by
  intro p hp; unfold someV at hp; rw [List.mem_filter] at hp; simpa using hp.2
/-! The program's way: all names are gone through. -/
def stepB (f : Int → Int → Int) (a b : Vec) (m : Vec) (n : ByteArray) : Vec := putA ltB m n (f (getV a n) (getV b n))
def foldB (f : Int → Int → Int) (a b : Vec) (l : List ByteArray) : Vec := l.foldl (stepB f a b) []
theorem foldB_snoc (f : Int → Int → Int) (a b : Vec) (l : List ByteArray) (n : ByteArray) : foldB f a b (l ++ [n]) = putA ltB (foldB f a b l) n (f (getV a n) (getV b n)) := by
  unfold foldB; rw [List.foldl_append]; rfl
theorem foldB_rise (f : Int → Int → Int) (a b : Vec) (l : List ByteArray) : RiseA ltB (foldB f a b l) := by
  unfold foldB
  suffices ∀ m : Vec, RiseA ltB m → RiseA ltB (l.foldl (stepB f a b) m) from this [] List.Pairwise.nil
  induction l with
  | nil => exact fun m h => h
  | cons n r ih => exact fun m h => ih _ (rise_put strictB h _ _)
theorem foldB_get (f : Int → Int → Int) (a b : Vec) (l : List ByteArray) (n : ByteArray) : getV (foldB f a b l) n = if n ∈ l then f (getV a n) (getV b n) else 0 := by
  unfold foldB
  suffices ∀ m : Vec, getV (l.foldl (stepB f a b) m) n = if n ∈ l then f (getV a n) (getV b n) else getV m n from this []
  induction l with
  | nil => intro m; simp
  | cons x r ih =>
    intro m
    rw [List.foldl_cons, ih]
    unfold stepB
    rw [getV_put]
    by_cases h1 : n ∈ r
    · simp [h1]
    · by_cases h2 : n = x
      · subst h2; simp [h1]
      · simp [h1, h2]
theorem foldB_mem {f : Int → Int → Int} {a b : Vec} {l : List ByteArray} {p : ByteArray × Int} (h : p ∈ foldB f a b l) : p.1 ∈ l ∧ p.2 = f (getV a p.1) (getV b p.1) := by
  have h1 := getV_mem (foldB_rise f a b l) h
  have h0 : p.1 ∈ l := by
    revert h
    unfold foldB
    suffices ∀ m : Vec, p ∈ l.foldl (stepB f a b) m → p.1 ∈ l ∨ p ∈ m from fun h => (this [] h).elim id (fun q => by cases q)
    clear h1
    induction l with
    | nil => exact fun m h => .inr h
    | cons x r ih =>
      intro m h
      rcases ih _ h with q | q
      · exact .inl (List.mem_cons_of_mem _ q)
      · unfold stepB at q
        rw [mem_put] at q
        rcases q with rfl | q
        · exact .inl List.mem_cons_self
        · exact .inr q.1
  rw [foldB_get, if_pos h0] at h1
  exact ⟨h0, h1.symm⟩
theorem foldB_len (f : Int → Int → Int) (a b : Vec) (l : List ByteArray) : (foldB f a b l).length ≤ l.length := by
  unfold foldB
  suffices ∀ m : Vec, (l.foldl (stepB f a b) m).length ≤ m.length + l.length from by have := this []; simpa using this
  induction l with
  | nil => exact fun m => Nat.le_refl _
  | cons x r ih => intro m; have h1 := ih (stepB f a b m x); have h2 := put_le ltB m x (f (getV a x) (getV b x)); rw [List.foldl_cons, List.length_cons]; unfold stepB at h1 ⊢; omega
/-- Both: none, if a number is none. -/
def allIn (f : Int → Int → Int) (a b : Vec) (l : List ByteArray) : Bool := l.all fun n => wIn (f (getV a n) (getV b n))
def bothV (f : Int → Int → Int) (a b : Vec) : Vec := someV (foldB f a b (keysA a ++ keysA b))
def bothR (f : Int → Int → Int) (a b : Vec) : Int × Vec :=
  if !rightV a || !rightV b then (1, []) else if allIn f a b (keysA a ++ keysA b) then (0, bothV f a b) else (3, [])
theorem bothV_get {f : Int → Int → Int} (h0 : f 0 0 = 0) (a b : Vec) (n : ByteArray) : getV (bothV f a b) n = f (getV a n) (getV b n) := by
  unfold bothV
  rw [getV_some (foldB_rise _ _ _ _), foldB_get]
  split
  · rfl
  · rename_i h
    rw [List.mem_append, not_or] at h
    have h1 : getV a n = 0 := getV_none fun p hp e => h.1 (by unfold keysA; exact List.mem_map.2 ⟨p, hp, e⟩)
    have h2 : getV b n = 0 := getV_none fun p hp e => h.2 (by unfold keysA; exact List.mem_map.2 ⟨p, hp, e⟩)
    rw [h1, h2, h0]
theorem bothV_rise (f : Int → Int → Int) (a b : Vec) : RiseA ltB (bothV f a b) := rise_some (foldB_rise _ _ _ _)
theorem bothV_nz (f : Int → Int → Int) (a b : Vec) : ∀ p ∈ bothV f a b, p.2 ≠ 0 := someV_nz _
theorem bothV_names {f : Int → Int → Int} {a b : Vec} {p : ByteArray × Int} (h : p ∈ bothV f a b) : p.1 ∈ keysA a ∨ p.1 ∈ keysA b := by
  unfold bothV someV at h
  rw [List.mem_filter] at h
  exact List.mem_append.1 (foldB_mem h.1).1
theorem bothV_right {f : Int → Int → Int} {a b : Vec} (ha : rightV a = true) (hb : rightV b = true) : rightV (bothV f a b) = true := by
  refine rightV_of (bothV_rise _ _ _) fun p hp => ⟨?_, bothV_nz _ _ _ p hp⟩
  rcases bothV_names hp with h | h
  · obtain ⟨q, hq, e⟩ := List.mem_map.1 h; rw [← e]; exact ((rightV_spec ha).2 q hq).1
  · obtain ⟨q, hq, e⟩ := List.mem_map.1 h; rw [← e]; exact ((rightV_spec hb).2 q hq).1
end Go.Proofs.Yteomicjjaajblaa
