import Derived.Test.YthhfcambdmdgfaaBase
import Derived.WideShapes
import Derived.Sort.Walk0
import Derived.Lib.Strings
namespace Go.Proofs.Ythhfcambdmdgfaa
set_option linter.unusedVariables false
set_option linter.unusedSimpArgs false
/-! ### A tree of names, in plain words -/
theorem bytes_eq : ∀ (x y : List UInt8), bytesBefore x y = Op.bytesLess x y
  | [], [] => rfl
  | [], _ :: _ => rfl
  | _ :: _, [] => rfl
  | a :: x, b :: y => by simp only [bytesBefore, Op.bytesLess, bytes_eq x y]
def ltB (a b : ByteArray) : Bool := Op.bytesLess a.toList b.toList
theorem ltB_eq (a b : ByteArray) : ltB a b = bytesBefore a.data.toList b.data.toList := by unfold ltB; rw [Lib.toList_data, Lib.toList_data, bytes_eq]
theorem data_inj {a b : ByteArray} (h : a.data.toList = b.data.toList) : a = b := by
  cases a; cases b; simp at h; subst h; rfl
theorem ltB_irrefl (a : ByteArray) : ltB a a = false := by rw [ltB_eq]; exact WideAt.bytes_irrefl _
theorem ltB_total {a b : ByteArray} (h : a ≠ b) : ltB a b = true ∨ ltB b a = true := by
  rw [ltB_eq, ltB_eq]; exact WideAt.bytes_total _ _ (fun e => h (data_inj e))
theorem ltB_trans {a b c : ByteArray} (h : ltB a b = true) (k : ltB b c = true) : ltB a c = true := by
  rw [ltB_eq] at *; exact WideShapes.bytes_trans _ _ _ h k
theorem ltB_ne {a b : ByteArray} (h : ltB a b = true) : a ≠ b := by rintro rfl; rw [ltB_irrefl] at h; cases h
theorem ltB_asymm {a b : ByteArray} (h : ltB a b = true) : ltB b a = false := by
  cases k : ltB b a with
  | false => rfl
  | true => have := ltB_trans h k; rw [ltB_irrefl] at this; cases this
abbrev Nodes := List (ByteArray × ByteArray)
def hasN (N : Nodes) (s : ByteArray) : Bool := N.any fun p => decide (p.1 = s)
def parN (N : Nodes) (s : ByteArray) : ByteArray := match N.find? (fun p => decide (p.1 = s)) with | some p => p.2 | none => ⟨#[]⟩
def insN : Nodes → ByteArray → ByteArray → Nodes
  | [], s, p => [(s, p)]
  | y :: r, s, p => if ltB s y.1 then (s, p) :: y :: r else y :: insN r s p
def setN (N : Nodes) (s p : ByteArray) : Nodes := N.map fun q => if q.1 = s then (q.1, p) else q
def delN (N : Nodes) (s : ByteArray) : Nodes := N.filter fun q => !decide (q.1 = s)
def Rising (N : Nodes) : Prop := N.Pairwise fun p q => ltB p.1 q.1 = true
theorem hasN_iff {N : Nodes} {s : ByteArray} : hasN N s = true ↔ ∃ p, (s, p) ∈ N := by
  unfold hasN
  rw [List.any_eq_true]
  constructor
  · rintro ⟨q, hq, h⟩; obtain rfl := of_decide_eq_true h; exact ⟨q.2, hq⟩
  · rintro ⟨p, hp⟩; exact ⟨_, hp, by simp⟩
theorem parN_none {N : Nodes} {s : ByteArray} (h : hasN N s = false) : parN N s = ⟨#[]⟩ := by
  unfold parN
  rw [List.find?_eq_none.2]
  intro q hq hs
  unfold hasN at h
  rw [List.any_eq_false] at h
  exact absurd hs (by simpa using h q hq)
theorem parN_some {N : Nodes} {s p : ByteArray} (hR : Rising N) (h : (s, p) ∈ N) : parN N s = p := by
  unfold parN
  induction N with
  | nil => cases h
  | cons y r ih =>
    rw [Rising, List.pairwise_cons] at hR
    by_cases e : y.1 = s
    · rw [List.find?_cons_of_pos (by simp [e])]
      rcases List.mem_cons.1 h with rfl | h
      · rfl
      · have := hR.1 _ h; rw [e] at this; exact absurd rfl (ltB_ne this)
    · rw [List.find?_cons_of_neg (by simpa using e)]
      rcases List.mem_cons.1 h with rfl | h
      · exact absurd rfl e
      · exact ih hR.2 h
theorem parN_mem {N : Nodes} {s : ByteArray} (h : hasN N s = true) : (s, parN N s) ∈ N := by
  unfold parN
  cases q : N.find? (fun p => decide (p.1 = s)) with
  | none =>
    rw [List.find?_eq_none] at q
    obtain ⟨p, hp⟩ := hasN_iff.1 h
    exact absurd (by simp) (q _ hp)
  | some p =>
    have h1 := List.find?_some q
    have h2 := List.mem_of_find?_eq_some q
    simp only [decide_eq_true_eq] at h1
    subst h1; exact h2
theorem mem_insN {N : Nodes} {s p : ByteArray} {q : ByteArray × ByteArray} : q ∈ insN N s p ↔ q = (s, p) ∨ q ∈ N := by
  induction N with
  | nil => simp [insN]
  | cons y r ih =>
    unfold insN
    split
    · simp
    · simp [ih]; constructor
      · rintro (h | h | h) <;> simp [h]
      · rintro (h | h | h) <;> simp [h]
theorem insN_length (N : Nodes) (s p : ByteArray) : (insN N s p).length = N.length + 1 := by
  induction N with
  | nil => rfl
  | cons y r ih => unfold insN; split <;> simp [ih]
theorem rising_insN {N : Nodes} {s p : ByteArray} (h : Rising N) (hs : hasN N s = false) : Rising (insN N s p) := by
  induction N with
  | nil => exact List.pairwise_singleton _ _
  | cons y r ih =>
    rw [Rising, List.pairwise_cons] at h
    unfold hasN at hs
    rw [List.any_cons, Bool.or_eq_false_iff] at hs
    have hne : y.1 ≠ s := by simpa using hs.1
    unfold insN
    split
    · rename_i hl
      refine List.pairwise_cons.2 ⟨fun q hq => ?_, List.pairwise_cons.2 h⟩
      rcases List.mem_cons.1 hq with rfl | hq
      · exact hl
      · exact ltB_trans hl (h.1 _ hq)
    · rename_i hl
      refine List.pairwise_cons.2 ⟨fun q hq => ?_, ih h.2 hs.2⟩
      rcases mem_insN.1 hq with rfl | hq
      · rcases ltB_total hne with k | k
        · exact k
        · exact absurd k hl
      · exact h.1 _ hq
theorem rising_setN {N : Nodes} {s p : ByteArray} (h : Rising N) : Rising (setN N s p) := by
  unfold Rising setN
  rw [List.pairwise_map]
  refine List.Pairwise.imp (fun {a b} hab => ?_) h
  split <;> split <;> simpa using hab
theorem rising_delN {N : Nodes} {s : ByteArray} (h : Rising N) : Rising (delN N s) := List.Pairwise.filter _ h
theorem setN_length (N : Nodes) (s p : ByteArray) : (setN N s p).length = N.length := by simp [setN]
theorem hasN_ins {N : Nodes} {s p x : ByteArray} : hasN (insN N s p) x = (decide (s = x) || hasN N x) := by
  rw [Bool.eq_iff_iff, Bool.or_eq_true, decide_eq_true_eq, hasN_iff, hasN_iff]
  constructor
  · rintro ⟨q, hq⟩
    rcases mem_insN.1 hq with h | h
    · cases h; exact .inl rfl
    · exact .inr ⟨q, h⟩
  · rintro (rfl | ⟨q, h⟩)
    · exact ⟨p, mem_insN.2 (.inl rfl)⟩
    · exact ⟨q, mem_insN.2 (.inr h)⟩
theorem mem_setN {N : Nodes} {s p x y : ByteArray} : (x, y) ∈ setN N s p ↔ (x = s ∧ y = p ∧ hasN N s = true) ∨ (x ≠ s ∧ (x, y) ∈ N) := by
  unfold setN
  rw [List.mem_map]
  constructor
  · rintro ⟨q, hq, e⟩
    by_cases h : q.1 = s
    · rw [if_pos h] at e
      cases e
      exact .inl ⟨h, rfl, hasN_iff.2 ⟨q.2, by rw [← h]; exact hq⟩⟩
    · rw [if_neg h] at e
      subst e
      exact .inr ⟨h, hq⟩
  · rintro (⟨rfl, rfl, h⟩ | ⟨h, hm⟩)
    · obtain ⟨q, hq⟩ := hasN_iff.1 h
      exact ⟨_, hq, by simp⟩
    · exact ⟨_, hm, by simp [h]⟩
theorem hasN_set {N : Nodes} {s p x : ByteArray} : hasN (setN N s p) x = hasN N x := by
  unfold hasN setN
  rw [List.any_map]
  congr 1
  funext q
  simp only [Function.comp]
  split <;> rfl
theorem hasN_del {N : Nodes} {s x : ByteArray} : hasN (delN N s) x = (!decide (x = s) && hasN N x) := by
  rw [Bool.eq_iff_iff, Bool.and_eq_true, hasN_iff, hasN_iff]
  unfold delN
  constructor
  · rintro ⟨q, hq⟩
    rw [List.mem_filter] at hq
    exact ⟨hq.2, q, hq.1⟩
  · rintro ⟨h, q, hq⟩
    exact ⟨q, List.mem_filter.2 ⟨hq, h⟩⟩
theorem parN_ins {N : Nodes} {s p x : ByteArray} (h : Rising N) (hs : hasN N s = false) : parN (insN N s p) x = if x = s then p else parN N x := by
  have hR := rising_insN (p := p) h hs
  split
  · rename_i e; subst e; exact parN_some hR (mem_insN.2 (.inl rfl))
  · rename_i e
    cases k : hasN N x with
    | true => exact parN_some hR (mem_insN.2 (.inr (parN_mem k)))
    | false => rw [parN_none k, parN_none (by rw [hasN_ins, k]; simp; exact fun q => e q.symm)]
theorem parN_set {N : Nodes} {s p x : ByteArray} (h : Rising N) (hs : hasN N s = true) : parN (setN N s p) x = if x = s then p else parN N x := by
  have hR := rising_setN (s := s) (p := p) h
  split
  · rename_i e; subst e; exact parN_some hR (mem_setN.2 (.inl ⟨rfl, rfl, hs⟩))
  · rename_i e
    cases k : hasN N x with
    | true => exact parN_some hR (mem_setN.2 (.inr ⟨e, parN_mem k⟩))
    | false => rw [parN_none k, parN_none (by rw [hasN_set, k])]
theorem parN_del {N : Nodes} {s x : ByteArray} (h : Rising N) (e : x ≠ s) : parN (delN N s) x = parN N x := by
  cases k : hasN N x with
  | true => exact parN_some (rising_delN h) (List.mem_filter.2 ⟨parN_mem k, by simpa using e⟩)
  | false => rw [parN_none k, parN_none (by rw [hasN_del, k]; simp)]
/-! ### Paths -/
def pathN : Nat → Nodes → ByteArray → List ByteArray
  | 0, _, _ => []
  | f + 1, N, s => if hasN N s then s :: pathN f N (parN N s) else []
theorem pathN_le (f : Nat) (N : Nodes) (s : ByteArray) : (pathN f N s).length ≤ f := by
  induction f generalizing s with
  | zero => exact Nat.le_refl _
  | succ f ih => unfold pathN; split; simpa using ih _; exact Nat.zero_le _
theorem pathN_more {f : Nat} {N : Nodes} {s : ByteArray} (h : (pathN f N s).length < f) : pathN (f + 1) N s = pathN f N s := by
  induction f generalizing s with
  | zero => exact absurd h (Nat.lt_irrefl _)
  | succ f ih =>
    have e : pathN (f + 1) N s = if hasN N s then s :: pathN f N (parN N s) else [] := rfl
    have e2 : pathN (f + 1 + 1) N s = if hasN N s then s :: pathN (f + 1) N (parN N s) else [] := rfl
    rw [e2]
    rw [e] at h ⊢
    split
    · rename_i k
      rw [if_pos k] at h
      rw [ih (by simpa using h)]
    · rfl
theorem pathN_stay {f g : Nat} {N : Nodes} {s : ByteArray} (h : (pathN f N s).length < f) (hg : f ≤ g) : pathN g N s = pathN f N s := by
  induction g with
  | zero => have : f = 0 := by omega
            subst this; rfl
  | succ g ih =>
    rcases Nat.lt_or_ge f (g + 1) with q | q
    · have e := ih (by omega)
      rw [pathN_more (by rw [e]; omega), e]
    · have : f = g + 1 := by omega
      subst this; rfl
theorem pathN_take (f : Nat) (N : Nodes) (s : ByteArray) : ∀ g, f ≤ g → (pathN f N s).length ≤ (pathN g N s).length := by
  induction f generalizing s with
  | zero => intro g _; exact Nat.zero_le _
  | succ f ih =>
    intro g hg
    obtain ⟨g, rfl⟩ : ∃ g', g = g' + 1 := ⟨g - 1, by omega⟩
    unfold pathN
    split
    · simpa using ih _ g (by omega)
    · exact Nat.zero_le _
theorem pathN_congr {N M : Nodes} {A : ByteArray → Prop} (h : ∀ x, A x → hasN M x = hasN N x ∧ (hasN N x = true → parN M x = parN N x ∧ A (parN N x))) : ∀ (f : Nat) (x : ByteArray), A x → pathN f M x = pathN f N x
  | 0, _, _ => rfl
  | f + 1, x, hx => by
    obtain ⟨h1, h2⟩ := h x hx
    unfold pathN
    rw [h1]
    cases k : hasN N x with
    | false => rfl
    | true =>
      obtain ⟨h3, h4⟩ := h2 k
      rw [h3, pathN_congr h f _ h4]
def rootB : ByteArray := ⟨#[114, 111, 111, 116]⟩
def pathT (N : Nodes) (s : ByteArray) : List ByteArray := pathN 20 N s
structure Good11 (N : Nodes) : Prop where
  rise : Rising N
  root : (rootB, ⟨#[]⟩) ∈ N
  noE : hasN N ⟨#[]⟩ = false
  up : ∀ x y, (x, y) ∈ N → x ≠ rootB → hasN N y = true
  deep : ∀ s, (pathT N s).length ≤ 8
  fit : ∀ x y, (x, y) ∈ N → x.size ≤ 100 ∧ y.size ≤ 100
  few : N.length ≤ 200
theorem pathT_of {N : Nodes} (h : ∀ s, (pathT N s).length < 19) (s : ByteArray) : pathT N s = if hasN N s then s :: pathT N (parN N s) else [] := by
  have e : pathT N s = if hasN N s then s :: pathN 19 N (parN N s) else [] := rfl
  rw [e]
  split
  · have := pathN_take 19 N (parN N s) 20 (by omega)
    have h2 := h (parN N s)
    unfold pathT at h2 ⊢
    rw [pathN_stay (f := 19) (g := 20) (by omega) (by omega)]
  · rfl
theorem Good11.path {N : Nodes} (h : Good11 N) (s : ByteArray) : pathT N s = if hasN N s then s :: pathT N (parN N s) else [] := pathT_of (fun s => by have := h.deep s; omega) s
def inL (l : List ByteArray) (s : ByteArray) : Bool := l.any fun y => decide (y = s)
theorem inL_iff {l : List ByteArray} {s : ByteArray} : inL l s = true ↔ s ∈ l := by
  unfold inL; rw [List.any_eq_true]
  exact ⟨fun ⟨y, h, e⟩ => of_decide_eq_true e ▸ h, fun h => ⟨s, h, by simp⟩⟩
def childN (N : Nodes) (s : ByteArray) : List ByteArray := (N.filter fun p => !decide (p.1 = rootB) && decide (p.2 = s)).map (·.1)
def allN (N : Nodes) : List ByteArray := N.map (·.1)
def belowN (N : Nodes) (s : ByteArray) : List ByteArray := (allN N).filter fun x => inL (pathT N x) s
end Go.Proofs.Ythhfcambdmdgfaa
