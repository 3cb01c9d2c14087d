import Derived.Test.YthhfcambdmdgfaaBase
namespace Go.Proofs.Ythhfcambdmdgfaa.Srt
set_option linter.unusedVariables false
set_option linter.unusedSectionVars false
set_option linter.unusedSimpArgs false
/-! ### A stable sort by rotations, on rows that are functions -/
structure TO {κ : Type} (lt : κ → κ → Bool) : Prop where
  irr : ∀ x, lt x x = false
  tr : ∀ x y z, lt x y = true → lt y z = true → lt x z = true
  tot : ∀ x y, lt x y = false → lt y x = false → x = y
section
variable {κ : Type} {lt : κ → κ → Bool}
theorem TO.asym (h : TO lt) {x y : κ} (q : lt x y = true) : lt y x = false := by
  cases e : lt y x with
  | false => rfl
  | true => have := h.tr _ _ _ q e; rw [h.irr] at this; cases this
/-- Not behind, then not behind. -/
theorem TO.le_tr (h : TO lt) {x y z : κ} (q : lt y x = false) (r : lt z y = false) : lt z x = false := by
  cases e : lt z x with
  | false => rfl
  | true =>
    cases f : lt x y with
    | true => rw [h.tr _ _ _ e f] at r; cases r
    | false => have := h.tot x y f q; subst this; rw [e] at r; cases r
theorem TO.lt_le (h : TO lt) {x y z : κ} (q : lt x y = true) (r : lt z y = false) : lt x z = true := by
  cases e : lt x z with
  | true => rfl
  | false => rw [h.le_tr r e] at q; cases q
theorem TO.le_lt (h : TO lt) {x y z : κ} (q : lt y x = false) (r : lt y z = true) : lt x z = true := by
  cases e : lt x z with
  | true => rfl
  | false => rw [h.le_tr e q] at r; cases r
end
section
variable {α κ : Type} [DecidableEq κ] {K : α → κ} {lt : κ → κ → Bool}
def rowF (d : Nat → α) (n : Nat) : List α := (List.range n).map d
theorem rowF_len (d : Nat → α) (n : Nat) : (rowF d n).length = n := by simp [rowF]
theorem rowF_get (d : Nat → α) (n : Nat) {i : Nat} (h : i < n) : (rowF d n)[i]? = some (d i) := by simp [rowF, h]
/-- A piece. -/
def pc (d : Nat → α) (a b : Nat) : List α := (List.range' a (b - a)).map d
theorem pc_app (d : Nat → α) {a b c : Nat} (h1 : a ≤ b) (h2 : b ≤ c) : pc d a c = pc d a b ++ pc d b c := by
  unfold pc
  rw [← List.map_append]
  congr 1
  have := List.range'_append_1 (s := a) (m := b - a) (n := c - b)
  rw [show a + (b - a) = b by omega, show b - a + (c - b) = c - a by omega] at this
  exact this.symm
theorem rowF_pc (d : Nat → α) (n : Nat) : rowF d n = pc d 0 n := by unfold rowF pc; rw [List.range_eq_range', Nat.sub_zero]
theorem mem_pc {d : Nat → α} {a b : Nat} {x : α} : x ∈ pc d a b ↔ ∃ i, a ≤ i ∧ i < b ∧ d i = x := by
  unfold pc
  simp only [List.mem_map, List.mem_range'_1]
  exact ⟨fun ⟨i, h1, h2⟩ => ⟨i, h1.1, by omega, h2⟩, fun ⟨i, h1, h2, h3⟩ => ⟨i, ⟨h1, by omega⟩, h3⟩⟩
theorem pc_shift {d e : Nat → α} {a b c : Nat} (h : ∀ i, i < b - a → e (c + i) = d (a + i)) : pc e c (c + (b - a)) = pc d a b := by
  unfold pc
  rw [show c + (b - a) - c = b - a by omega]
  apply List.ext_getElem?
  intro i
  simp only [List.getElem?_map]
  by_cases hi : i < b - a
  · rw [List.getElem?_range' hi, List.getElem?_range' hi]
    simp [h i hi]
  · rw [List.getElem?_eq_none (by simp; omega), List.getElem?_eq_none (by simp; omega)]; rfl
theorem pc_same {d e : Nat → α} {a b : Nat} (h : ∀ i, a ≤ i → i < b → e i = d i) : pc e a b = pc d a b := by
  by_cases hab : a ≤ b
  · have := pc_shift (d := d) (e := e) (a := a) (b := b) (c := a) (fun i hi => h _ (by omega) (by omega))
    rwa [show a + (b - a) = b by omega] at this
  · unfold pc; rw [show b - a = 0 by omega]; rfl
/-- Two at a time. -/
def swF (d : Nat → α) (x y : Nat) : Nat → α := fun i => if i = x then d y else if i = y then d x else d i
def swR (d : Nat → α) (a b n : Nat) : Nat → α := fun i => if a ≤ i ∧ i < a + n then d (i - a + b) else if b ≤ i ∧ i < b + n then d (i - b + a) else d i
def rot (d : Nat → α) (s m e : Nat) : Nat → α := fun i => if s ≤ i ∧ i < e then (if i < s + (e - m) then d (i + (m - s)) else d (i - (e - m))) else d i
theorem swR_zero (d : Nat → α) (a b : Nat) : swR d a b 0 = d := by
  funext i; unfold swR; rw [if_neg (by omega), if_neg (by omega)]
theorem swR_succ (d : Nat → α) {a b n : Nat} (h : a + n < b) : swF (swR d a b n) (a + n) (b + n) = swR d a b (n + 1) := by
  funext i
  unfold swF swR
  by_cases h1 : i = a + n
  · subst h1
    rw [if_pos rfl, if_neg (by omega), if_neg (by omega), if_pos (by omega)]; congr 1; omega
  · rw [if_neg h1]
    by_cases h2 : i = b + n
    · subst h2
      rw [if_pos rfl, if_neg (by omega), if_neg (by omega), if_neg (by omega), if_pos (by omega)]; congr 1; omega
    · rw [if_neg h2]
      by_cases h3 : a ≤ i ∧ i < a + n
      · rw [if_pos h3, if_pos (show a ≤ i ∧ i < a + (n + 1) by omega)]
      · rw [if_neg h3, if_neg (show ¬ (a ≤ i ∧ i < a + (n + 1)) by omega)]
        by_cases h4 : b ≤ i ∧ i < b + n
        · rw [if_pos h4, if_pos (show b ≤ i ∧ i < b + (n + 1) by omega)]
        · rw [if_neg h4, if_neg (show ¬ (b ≤ i ∧ i < b + (n + 1)) by omega)]
theorem rot_left (d : Nat → α) {m i j : Nat} (hi : i ≤ m) (hj : j < i) : rot (swR d (m - i) m j) (m - (i - j)) m (m + j) = rot d (m - i) m (m + j) := by
  funext x
  unfold rot swR
  by_cases h1 : m - (i - j) ≤ x ∧ x < m + j
  · rw [if_pos h1, if_pos (show m - i ≤ x ∧ x < m + j by omega)]
    by_cases h2 : x < m - (i - j) + (m + j - m)
    · rw [if_pos h2, if_neg (show ¬ x < m - i + (m + j - m) by omega), if_neg (by omega), if_pos (by omega)]; congr 1; omega
    · rw [if_neg h2, if_neg (show ¬ x < m - i + (m + j - m) by omega), if_neg (by omega), if_neg (by omega)]
  · rw [if_neg h1]
    by_cases h2 : m - i ≤ x ∧ x < m + j
    · rw [if_pos h2, if_pos (show m - i ≤ x ∧ x < m - i + j by omega), if_pos (by omega)]; congr 1; omega
    · rw [if_neg h2, if_neg (by omega), if_neg (by omega)]
theorem rot_right (d : Nat → α) {m i j : Nat} (hi : i ≤ m) (hj : i < j) : rot (swR d (m - i) (m + j - i) i) (m - i) m (m + (j - i)) = rot d (m - i) m (m + j) := by
  funext x
  unfold rot swR
  by_cases h1 : m - i ≤ x ∧ x < m + (j - i)
  · rw [if_pos h1, if_pos (show m - i ≤ x ∧ x < m + j by omega)]
    by_cases h2 : x < m - i + (m + (j - i) - m)
    · rw [if_pos h2, if_pos (show x < m - i + (m + j - m) by omega), if_neg (by omega), if_neg (by omega)]
    · rw [if_neg h2, if_pos (show x < m - i + (m + j - m) by omega), if_pos (by omega)]; congr 1; omega
  · rw [if_neg h1]
    by_cases h2 : m - i ≤ x ∧ x < m + j
    · rw [if_pos h2, if_neg (by omega), if_pos (show m + j - i ≤ x ∧ x < m + j - i + i by omega), if_neg (by omega)]; congr 1; omega
    · rw [if_neg h2, if_neg (by omega), if_neg (by omega)]
theorem rot_even (d : Nat → α) {m i : Nat} (hi : i ≤ m) : swR d (m - i) m i = rot d (m - i) m (m + i) := by
  funext x
  unfold rot swR
  by_cases h1 : m - i ≤ x ∧ x < m - i + i
  · rw [if_pos h1, if_pos (by omega), if_pos (by omega)]; congr 1; omega
  · rw [if_neg h1]
    by_cases h2 : m ≤ x ∧ x < m + i
    · rw [if_pos h2, if_pos (by omega), if_neg (by omega)]; congr 1; omega
    · rw [if_neg h2, if_neg (by omega)]
theorem rot_nilL (d : Nat → α) {s e : Nat} (h : s ≤ e) : rot d s s e = d := by
  funext x; unfold rot
  by_cases h1 : s ≤ x ∧ x < e
  · rw [if_pos h1, if_pos (by omega)]; congr 1; omega
  · rw [if_neg h1]
theorem rot_nilR (d : Nat → α) {s m : Nat} (h : s ≤ m) : rot d s m m = d := by
  funext x; unfold rot
  by_cases h1 : s ≤ x ∧ x < m
  · rw [if_pos h1, if_neg (by omega)]; congr 1; omega
  · rw [if_neg h1]
/-- One up. -/
theorem rot_up (d : Nat → α) {a k : Nat} (h : a ≤ k) : swF (rot d a (a + 1) (k + 1)) k (k + 1) = rot d a (a + 1) (k + 2) := by
  funext x
  unfold swF rot
  by_cases h1 : x = k
  · subst h1; rw [if_pos rfl, if_neg (by omega), if_pos (by omega), if_pos (by omega)]; congr 1; omega
  · rw [if_neg h1]
    by_cases h2 : x = k + 1
    · subst h2; rw [if_pos rfl, if_pos (by omega), if_neg (by omega), if_pos (by omega), if_neg (by omega)]; congr 1; omega
    · rw [if_neg h2]
      by_cases h3 : a ≤ x ∧ x < k + 1
      · rw [if_pos h3, if_pos (by omega), if_pos (by omega), if_pos (by omega)]
      · rw [if_neg h3, if_neg (by omega)]
/-- One down. -/
theorem rot_down (d : Nat → α) {k m : Nat} (h : k < m) : swF (rot d (k + 1) m (m + 1)) (k + 1) k = rot d k m (m + 1) := by
  funext x
  unfold swF rot
  by_cases h1 : x = k + 1
  · subst h1; rw [if_pos rfl, if_neg (by omega), if_pos (by omega), if_neg (by omega)]; congr 1; omega
  · rw [if_neg h1]
    by_cases h2 : x = k
    · subst h2; rw [if_pos rfl, if_pos (by omega), if_pos (by omega), if_pos (by omega), if_pos (by omega)]; congr 1; omega
    · rw [if_neg h2]
      by_cases h3 : k + 1 ≤ x ∧ x < m + 1
      · rw [if_pos h3, if_neg (by omega), if_pos (by omega), if_neg (by omega)]
      · rw [if_neg h3, if_neg (by omega)]
theorem rot_out (d : Nat → α) (s m e : Nat) {i : Nat} (h : i < s ∨ e ≤ i) : rot d s m e i = d i := by unfold rot; rw [if_neg (by omega)]
/-- In pieces. -/
theorem pc_rot (d : Nat → α) {s m e n : Nat} (h1 : s ≤ m) (h2 : m ≤ e) (h3 : e ≤ n) : pc (rot d s m e) 0 n = pc d 0 s ++ pc d m e ++ pc d s m ++ pc d e n := by
  rw [pc_app (rot d s m e) (Nat.zero_le s) (show s ≤ n by omega), pc_app (rot d s m e) (show s ≤ s + (e - m) by omega) (show s + (e - m) ≤ n by omega), pc_app (rot d s m e) (show s + (e - m) ≤ e by omega) h3]
  rw [pc_same (d := d) (a := 0) (b := s) (fun i _ hi => rot_out d s m e (.inl hi)), pc_same (d := d) (a := e) (b := n) (fun i hi _ => rot_out d s m e (.inr hi))]
  rw [pc_shift (d := d) (e := rot d s m e) (a := m) (b := e) (c := s) (fun i hi => by unfold rot; rw [if_pos (by omega), if_pos (by omega)]; congr 1; omega)]
  have := pc_shift (d := d) (e := rot d s m e) (a := s) (b := m) (c := s + (e - m)) (fun i hi => by unfold rot; rw [if_pos (by omega), if_neg (by omega)]; congr 1; omega)
  rw [show s + (e - m) + (m - s) = e by omega] at this
  rw [this]
  simp [List.append_assoc]
/-- Each class in its own order. -/
def Stab (K : α → κ) (l m : List α) : Prop := ∀ c, l.filter (fun x => decide (K x = c)) = m.filter (fun x => decide (K x = c))
theorem Stab.refl (l : List α) : Stab K l l := fun _ => rfl
theorem Stab.trans {l m o : List α} (h : Stab K l m) (k : Stab K m o) : Stab K l o := fun c => (h c).trans (k c)
theorem Stab.mem {l m : List α} (h : Stab K l m) {x : α} : x ∈ l ↔ x ∈ m := by
  have e : ∀ q : List α, x ∈ q ↔ x ∈ q.filter (fun y => decide (K y = K x)) := fun q => by simp
  rw [e l, e m, h (K x)]
theorem stab_app {l m l' m' : List α} (h : Stab K l l') (k : Stab K m m') : Stab K (l ++ m) (l' ++ m') := fun c => by rw [List.filter_append, List.filter_append, h c, k c]
theorem stab_swap {X Y : List α} (h : ∀ x ∈ X, ∀ y ∈ Y, K x ≠ K y) : Stab K (X ++ Y) (Y ++ X) := fun c => by
  rw [List.filter_append, List.filter_append]
  by_cases hX : X.filter (fun x => decide (K x = c)) = []
  · rw [hX]; simp
  · have hY : Y.filter (fun x => decide (K x = c)) = [] := by
      rw [List.filter_eq_nil_iff]
      intro y hy hyc
      obtain ⟨x, hx⟩ := List.exists_mem_of_ne_nil _ hX
      rw [List.mem_filter] at hx
      exact h x hx.1 y hy (by simp at hyc hx; rw [hx.2, hyc])
    rw [hY]; simp
theorem stab_rot (d : Nat → α) {s m e n : Nat} (h1 : s ≤ m) (h2 : m ≤ e) (h3 : e ≤ n) (h : ∀ i j, s ≤ i → i < m → m ≤ j → j < e → K (d i) ≠ K (d j)) : Stab K (rowF d n) (rowF (rot d s m e) n) := by
  rw [rowF_pc, rowF_pc, pc_rot d h1 h2 h3, pc_app d (Nat.zero_le s) (show s ≤ n by omega), pc_app d h1 (show m ≤ n by omega), pc_app d h2 h3]
  have hs := stab_swap (K := K) (X := pc d s m) (Y := pc d m e) (fun x hx y hy => by
    obtain ⟨i, h4, h5, rfl⟩ := mem_pc.1 hx
    obtain ⟨j, h6, h7, rfl⟩ := mem_pc.1 hy
    exact h i j h4 h5 h6 h7)
  have := stab_app (Stab.refl (K := K) (pc d 0 s)) (stab_app hs (Stab.refl (K := K) (pc d e n)))
  simpa [List.append_assoc] using this
def SrtF (K : α → κ) (lt : κ → κ → Bool) (d : Nat → α) (a b : Nat) : Prop := ∀ i j, a ≤ i → i < j → j < b → lt (K (d j)) (K (d i)) = false
/-- What a piece of work may do. -/
structure Wk (K : α → κ) (n : Nat) (d d' : Nat → α) (a b : Nat) : Prop where
  out : ∀ i, i < a ∨ b ≤ i → d' i = d i
  stab : Stab K (rowF d n) (rowF d' n)
theorem Wk.refl {n : Nat} (d : Nat → α) (a b : Nat) : Wk K n d d a b := ⟨fun _ _ => rfl, Stab.refl _⟩
theorem Wk.trans {n : Nat} {d e f : Nat → α} {a b : Nat} (h : Wk K n d e a b) (k : Wk K n e f a b) : Wk K n d f a b := ⟨fun i hi => (k.out i hi).trans (h.out i hi), h.stab.trans k.stab⟩
theorem Wk.wider {n : Nat} {d e : Nat → α} {a b a' b' : Nat} (h : Wk K n d e a b) (ha : a' ≤ a) (hb : b ≤ b') : Wk K n d e a' b' := ⟨fun i hi => h.out i (by omega), h.stab⟩
/-- The piece itself is in its classes' order. -/
theorem Wk.piece {n : Nat} {d e : Nat → α} {a b : Nat} (h : Wk K n d e a b) (hab : a ≤ b) (hb : b ≤ n) : Stab K (pc d a b) (pc e a b) := by
  intro c
  have := h.stab c
  rw [rowF_pc, rowF_pc, pc_app d (Nat.zero_le a) (show a ≤ n by omega), pc_app d hab hb, pc_app e (Nat.zero_le a) (show a ≤ n by omega), pc_app e hab hb,
    pc_same (d := d) (e := e) (a := 0) (b := a) (fun i _ hi => h.out i (.inl hi)), pc_same (d := d) (e := e) (a := b) (b := n) (fun i hi _ => h.out i (.inr hi))] at this
  simp only [List.filter_append] at this
  exact List.append_cancel_right (List.append_cancel_left this)
theorem Wk.all {n : Nat} {d e : Nat → α} {a b : Nat} (h : Wk K n d e a b) (hb : b ≤ n) {p : α → Prop} (hp : ∀ i, a ≤ i → i < b → p (d i)) : ∀ i, a ≤ i → i < b → p (e i) := by
  intro i h1 h2
  have hm : e i ∈ pc e a b := mem_pc.2 ⟨i, h1, h2, rfl⟩
  obtain ⟨j, h3, h4, h5⟩ := mem_pc.1 (((h.piece (by omega) hb).mem).2 hm)
  rw [← h5]; exact hp j h3 h4
/-- Two halves in order, one not behind the other. -/
theorem srt_join {d : Nat → α} {a m b : Nat} (h1 : SrtF K lt d a m) (h2 : SrtF K lt d m b) (h : ∀ i j, a ≤ i → i < m → m ≤ j → j < b → lt (K (d j)) (K (d i)) = false) : SrtF K lt d a b := by
  intro i j hi hij hj
  by_cases q : j < m
  · exact h1 i j hi hij q
  · by_cases r : i < m
    · exact h i j hi r (by omega) hj
    · exact h2 i j (by omega) hij hj
theorem srt_same {d e : Nat → α} {a b : Nat} (h : SrtF K lt d a b) (he : ∀ i, a ≤ i → i < b → e i = d i) : SrtF K lt e a b := by
  intro i j hi hij hj; rw [he i hi (by omega), he j (by omega) hj]; exact h i j hi hij hj
theorem srt_sub {d : Nat → α} {a b a' b' : Nat} (h : SrtF K lt d a b) (ha : a ≤ a') (hb : b' ≤ b) : SrtF K lt d a' b' := fun i j hi hij hj => h i j (by omega) hij (by omega)
/-- Sorted, in their classes' order: there is one. -/
theorem srt_unique (T : TO lt) : ∀ (l m : List α), l.Pairwise (fun x y => lt (K y) (K x) = false) → m.Pairwise (fun x y => lt (K y) (K x) = false) → Stab K l m → l = m
  | [], [], _, _, _ => rfl
  | [], y :: r, _, _, h => by have := h (K y); simp at this
  | x :: r, [], _, _, h => by have := h (K x); simp at this
  | x :: r, y :: s, h1, h2, h => by
    have hx : K x = K y := by
      have mx : x ∈ y :: s := h.mem.1 (by simp)
      have my : y ∈ x :: r := h.mem.2 (by simp)
      rw [List.pairwise_cons] at h1 h2
      refine T.tot _ _ ?_ ?_
      · rcases List.mem_cons.1 mx with e | e
        · rw [e]; exact T.irr _
        · exact h2.1 x e
      · rcases List.mem_cons.1 my with e | e
        · rw [e]; exact T.irr _
        · exact h1.1 y e
    have h0 := h (K x)
    rw [List.filter_cons, List.filter_cons, if_pos (by simp), if_pos (by simp [hx])] at h0
    have hxy : x = y := (List.cons.inj h0).1
    subst hxy
    rw [List.pairwise_cons] at h1 h2
    rw [srt_unique T r s h1.2 h2.2 (fun c => by
      have := h c
      rw [List.filter_cons, List.filter_cons] at this
      by_cases q : K x = c
      · rw [if_pos (by simpa using q), if_pos (by simpa using q)] at this; exact (List.cons.inj this).2
      · rw [if_neg (by simpa using q), if_neg (by simpa using q)] at this; exact this)]
theorem srt_row {d : Nat → α} {n : Nat} (h : SrtF K lt d 0 n) : (rowF d n).Pairwise (fun x y => lt (K y) (K x) = false) := by
  rw [List.pairwise_iff_getElem]
  intro i j hi hj hij
  rw [rowF_len] at hi hj
  have e1 := rowF_get d n hi; have e2 := rowF_get d n hj
  rw [List.getElem?_eq_getElem (by rw [rowF_len]; exact hi)] at e1
  rw [List.getElem?_eq_getElem (by rw [rowF_len]; exact hj)] at e2
  rw [Option.some.inj e1, Option.some.inj e2]
  exact h i j (Nat.zero_le _) hij hj
/-! ### The merge -/
/-- What the search of the one ahead has found: [m, i) are ahead of d a, the others are not. -/
theorem merge_one {n : Nat} {d : Nat → α} (T : TO lt) {a i b : Nat} (h1 : a + 1 ≤ i) (h2 : i ≤ b) (hb : b ≤ n) (hs : SrtF K lt d (a + 1) b)
    (hl : ∀ j, a + 1 ≤ j → j < i → lt (K (d j)) (K (d a)) = true) (hr : ∀ j, i ≤ j → j < b → lt (K (d j)) (K (d a)) = false) : Wk K n d (rot d a (a + 1) i) a b ∧ SrtF K lt (rot d a (a + 1) i) a b := by
  refine ⟨⟨fun x hx => rot_out _ _ _ _ (by omega), stab_rot d (by omega) h1 (by omega) (fun x y h3 h4 h5 h6 => ?_)⟩, ?_⟩
  · obtain rfl : x = a := by omega
    intro e
    have := hl y h5 h6
    rw [e, T.irr] at this; cases this
  · have g : ∀ x, a ≤ x → x < b → (x < i - 1 ∧ rot d a (a + 1) i x = d (x + 1)) ∨ (x = i - 1 ∧ rot d a (a + 1) i x = d a) ∨ (i ≤ x ∧ rot d a (a + 1) i x = d x) := fun x h3 h4 => by
      by_cases q : x < i - 1
      · left; refine ⟨q, ?_⟩; unfold rot; rw [if_pos (by omega), if_pos (by omega)]; congr 1; omega
      · by_cases r : x = i - 1
        · right; left; refine ⟨r, ?_⟩; unfold rot; rw [if_pos (by omega), if_neg (by omega)]; congr 1; omega
        · right; right; exact ⟨by omega, rot_out _ _ _ _ (by omega)⟩
    intro x y hx hxy hy
    rcases g x hx (by omega) with ⟨q1, q2⟩ | ⟨q1, q2⟩ | ⟨q1, q2⟩ <;> rcases g y (by omega) hy with ⟨r1, r2⟩ | ⟨r1, r2⟩ | ⟨r1, r2⟩ <;> rw [q2, r2]
    · exact hs _ _ (by omega) (by omega) (by omega)
    · exact T.asym (hl _ (by omega) (by omega))
    · exact hs _ _ (by omega) (by omega) (by omega)
    · omega
    · omega
    · exact hr _ (by omega) hy
    · omega
    · omega
    · exact hs _ _ (by omega) hxy hy
theorem merge_last {n : Nat} {d : Nat → α} (T : TO lt) {a i m : Nat} (h1 : a ≤ i) (h2 : i ≤ m) (hb : m + 1 ≤ n) (hs : SrtF K lt d a m)
    (hl : ∀ j, a ≤ j → j < i → lt (K (d m)) (K (d j)) = false) (hr : ∀ j, i ≤ j → j < m → lt (K (d m)) (K (d j)) = true) : Wk K n d (rot d i m (m + 1)) a (m + 1) ∧ SrtF K lt (rot d i m (m + 1)) a (m + 1) := by
  refine ⟨⟨fun x hx => rot_out _ _ _ _ (by omega), stab_rot d (by omega) (by omega) (by omega) (fun x y h3 h4 h5 h6 => ?_)⟩, ?_⟩
  · obtain rfl : y = m := by omega
    intro e
    have := hr x h3 h4
    rw [e, T.irr] at this; cases this
  · have g : ∀ x, a ≤ x → x < m + 1 → (x < i ∧ rot d i m (m + 1) x = d x) ∨ (x = i ∧ rot d i m (m + 1) x = d m) ∨ (i < x ∧ rot d i m (m + 1) x = d (x - 1)) := fun x h3 h4 => by
      by_cases q : x < i
      · left; exact ⟨q, rot_out _ _ _ _ (by omega)⟩
      · by_cases r : x = i
        · right; left; refine ⟨r, ?_⟩; unfold rot; rw [if_pos (by omega), if_pos (by omega)]; congr 1; omega
        · right; right; refine ⟨by omega, ?_⟩; unfold rot; rw [if_pos (by omega), if_neg (by omega)]; congr 1; omega
    intro x y hx hxy hy
    rcases g x hx (by omega) with ⟨q1, q2⟩ | ⟨q1, q2⟩ | ⟨q1, q2⟩ <;> rcases g y (by omega) hy with ⟨r1, r2⟩ | ⟨r1, r2⟩ | ⟨r1, r2⟩ <;> rw [q2, r2]
    · exact hs _ _ (by omega) (by omega) (by omega)
    · exact hl _ (by omega) (by omega)
    · exact hs _ _ (by omega) (by omega) (by omega)
    · omega
    · omega
    · exact T.asym (hr _ (by omega) (by omega))
    · omega
    · omega
    · exact hs _ _ (by omega) (by omega) (by omega)
/-- The halves behind the rotation. -/
theorem merge_halves {n : Nat} {d : Nat → α} (T : TO lt) {a s m e b : Nat} (h1 : a ≤ s) (h2 : s ≤ m) (h3 : m ≤ e) (h4 : e ≤ b) (hb : b ≤ n) (hL : SrtF K lt d a m) (hR : SrtF K lt d m b)
    (hx : s < m → m < e → lt (K (d (e - 1))) (K (d s)) = true) (hy : a < s → e < b → lt (K (d e)) (K (d (s - 1))) = false) :
    Wk K n d (rot d s m e) a b ∧ SrtF K lt (rot d s m e) a s ∧ SrtF K lt (rot d s m e) s (s + (e - m)) ∧ SrtF K lt (rot d s m e) (s + (e - m)) e ∧ SrtF K lt (rot d s m e) e b ∧
    (∀ i j, a ≤ i → i < s + (e - m) → s + (e - m) ≤ j → j < b → lt (K (rot d s m e j)) (K (rot d s m e i)) = false) := by
  have hlt : ∀ i j, s ≤ i → i < m → m ≤ j → j < e → lt (K (d j)) (K (d i)) = true := fun i j q1 q2 q3 q4 => by
    have q := hx (by omega) (by omega)
    have r1 : lt (K (d i)) (K (d s)) = false := by
      rcases Nat.lt_or_ge s i with z | z
      · exact hL _ _ h1 z q2
      · obtain rfl : i = s := by omega
        exact T.irr _
    have r2 : lt (K (d (e - 1))) (K (d j)) = false := by
      rcases Nat.lt_or_ge j (e - 1) with z | z
      · exact hR _ _ q3 z (by omega)
      · obtain rfl : j = e - 1 := by omega
        exact T.irr _
    exact T.lt_le (T.le_lt r2 q) r1
  have hle : ∀ i j, a ≤ i → i < s → e ≤ j → j < b → lt (K (d j)) (K (d i)) = false := fun i j q1 q2 q3 q4 => by
    have q := hy (by omega) (by omega)
    have r1 : lt (K (d (s - 1))) (K (d i)) = false := by
      rcases Nat.lt_or_ge i (s - 1) with z | z
      · exact hL _ _ q1 z (by omega)
      · obtain rfl : i = s - 1 := by omega
        exact T.irr _
    have r2 : lt (K (d j)) (K (d e)) = false := by
      rcases Nat.lt_or_ge e j with z | z
      · exact hR _ _ h3 z q4
      · obtain rfl : j = e := by omega
        exact T.irr _
    exact T.le_tr (T.le_tr r1 q) r2
  have gA : ∀ x, x < s → rot d s m e x = d x := fun x hx => rot_out _ _ _ _ (.inl hx)
  have gB : ∀ x, s ≤ x → x < s + (e - m) → rot d s m e x = d (x + (m - s)) := fun x h5 h6 => by unfold rot; rw [if_pos (by omega), if_pos h6]
  have gC : ∀ x, s + (e - m) ≤ x → x < e → rot d s m e x = d (x - (e - m)) := fun x h5 h6 => by unfold rot; rw [if_pos (by omega), if_neg (by omega)]
  have gD : ∀ x, e ≤ x → rot d s m e x = d x := fun x hx => rot_out _ _ _ _ (.inr hx)
  refine ⟨⟨fun x hx => rot_out _ _ _ _ (by omega), stab_rot d h2 h3 (by omega) (fun i j q1 q2 q3 q4 z => ?_)⟩, ?_, ?_, ?_, ?_, ?_⟩
  · have := hlt i j q1 q2 q3 q4
    rw [z, T.irr] at this; cases this
  · exact srt_same (srt_sub hL (Nat.le_refl _) h2) (fun i _ hi => gA i hi)
  · intro i j q1 q2 q3; rw [gB i q1 (by omega), gB j (by omega) q3]; exact hR _ _ (by omega) (by omega) (by omega)
  · intro i j q1 q2 q3; rw [gC i q1 (by omega), gC j (by omega) q3]; exact hL _ _ (by omega) (by omega) (by omega)
  · exact srt_same (srt_sub hR h3 (Nat.le_refl _)) (fun i hi _ => gD i hi)
  · intro i j q1 q2 q3 q4
    by_cases hi : i < s
    · rw [gA i hi]
      by_cases hj : j < e
      · rw [gC j q3 hj]; exact hL _ _ q1 (by omega) (by omega)
      · rw [gD j (by omega)]; exact hle i j q1 hi (by omega) q4
    · rw [gB i (by omega) q2]
      by_cases hj : j < e
      · rw [gC j q3 hj]; exact T.asym (hlt _ _ (by omega) (by omega) (by omega) (by omega))
      · rw [gD j (by omega)]; exact hR _ _ (by omega) (by omega) q4
/-- The halves, each in order. -/
theorem merge_join {n : Nat} {d e f : Nat → α} {a mid b : Nat} (h1 : Wk K n d e a mid) (h2 : Wk K n e f mid b) (ha : a ≤ mid) (hm : mid ≤ b) (hb : b ≤ n) (hs1 : SrtF K lt e a mid) (hs2 : SrtF K lt f mid b)
    (h : ∀ i j, a ≤ i → i < mid → mid ≤ j → j < b → lt (K (d j)) (K (d i)) = false) : Wk K n d f a b ∧ SrtF K lt f a b := by
  refine ⟨(h1.wider (Nat.le_refl _) hm).trans (h2.wider ha (Nat.le_refl _)), srt_join (srt_same hs1 (fun i _ hi => h2.out i (.inl hi))) hs2 ?_⟩
  have q1 : ∀ i, a ≤ i → i < mid → ∀ j, mid ≤ j → j < b → lt (K (d j)) (K (e i)) = false := fun i hi hi2 j hj hj2 =>
    (h1.all (p := fun x => lt (K (d j)) (K x) = false) (by omega) (fun i hi hi2 => h i j hi hi2 hj hj2)) i hi hi2
  intro i j hi hi2 hj hj2
  rw [h2.out i (.inl hi2)]
  refine (h2.all (p := fun x => lt (K x) (K (e i)) = false) hb (fun j hj hj2 => ?_)) j hj hj2
  rw [h1.out j (.inr hj)]
  exact q1 i hi hi2 j hj hj2
end
end Go.Proofs.Ythhfcambdmdgfaa.Srt
