import Derived.Test.YthaipgbjnigkhaaTsc
namespace Go.Proofs.Ythaipgbjnigkhaa
set_option linter.unusedVariables false
set_option linter.unusedSimpArgs false
/-! ### None is lost: in plain words -/
def RightN (N : Nodes) : Prop := ∀ x, hasN N x = true → rightB x = true
theorem right_begin : RightN [(rootB, ⟨#[]⟩)] := by
  intro x hx
  have : rootB = x := by simpa [hasN] using hx
  subst this; decide
theorem right_createR {N : Nodes} (R : RightN N) (s p : ByteArray) : RightN (createR N s p).2 := by
  unfold createR
  cases h1 : rightB s with
  | false => exact R
  | true =>
    simp only [Bool.not_true, Bool.false_eq_true, if_false]
    split
    · exact R
    · split
      · exact R
      · split
        · exact R
        · split
          · exact R
          · intro x hx
            rw [hasN_ins, Bool.or_eq_true, decide_eq_true_eq] at hx
            rcases hx with rfl | hx
            · exact h1
            · exact R x hx
theorem right_removeR {N : Nodes} (R : RightN N) (s : ByteArray) : RightN (removeR N s).2 := by
  unfold removeR
  split
  · exact R
  · split
    · exact R
    · split
      · exact R
      · intro x hx
        rw [hasN_del, Bool.and_eq_true] at hx
        exact R x hx.2
theorem right_moveR {N : Nodes} (R : RightN N) (s p : ByteArray) : RightN (moveR N s p).2 := by
  unfold moveR
  split
  · exact R
  · split
    · exact R
    · split
      · exact R
      · split
        · exact R
        · intro x hx
          rw [hasN_set] at hx
          exact R x hx
theorem right_doT {N : Nodes} (R : RightN N) (a : ActT) : RightN (doT N a).2 := by
  unfold doT
  split
  · exact right_moveR R _ _
  · split
    · exact right_removeR R _
    · exact right_createR R _ _
theorem del_none {N : Nodes} {s : ByteArray} (h : hasN N s = false) : delN N s = N := by
  unfold delN
  rw [List.filter_eq_self]
  intro q hq
  unfold hasN at h
  rw [List.any_eq_false] at h
  simpa using h q hq
theorem has_rise {y : ByteArray × ByteArray} {r : Nodes} (h : Rising (y :: r)) : hasN r y.1 = false := by
  rw [Rising, List.pairwise_cons] at h
  unfold hasN
  rw [List.any_eq_false]
  intro q hq
  have := ltB_ne (h.1 q hq)
  simpa using fun e => this e.symm
theorem del_length {N : Nodes} {s : ByteArray} (hR : Rising N) (h : hasN N s = true) : (delN N s).length + 1 = N.length := by
  induction N with
  | nil => cases h
  | cons y r ih =>
    have hn := has_rise hR
    by_cases e : y.1 = s
    · subst e
      have : delN (y :: r) y.1 = delN r y.1 := by unfold delN; rw [List.filter_cons_of_neg (by simp)]
      rw [this, del_none hn]; rfl
    · have : delN (y :: r) s = y :: delN r s := by unfold delN; rw [List.filter_cons_of_pos (by simp [e])]
      rw [this]
      have h2 : hasN r s = true := by
        unfold hasN at h ⊢
        rw [List.any_cons] at h
        simpa [e] using h
      have := ih (List.Pairwise.of_cons hR) h2
      simp only [List.length_cons]; omega
theorem insdel_same {N : Nodes} {s : ByteArray} (hR : Rising N) (h : hasN N s = true) : insN (delN N s) s (parN N s) = N := by
  induction N with
  | nil => cases h
  | cons y r ih =>
    have hn := has_rise hR
    by_cases e : y.1 = s
    · subst e
      have h1 : delN (y :: r) y.1 = delN r y.1 := by unfold delN; rw [List.filter_cons_of_neg (by simp)]
      have h2 : parN (y :: r) y.1 = y.2 := parN_some hR (List.mem_cons_self ..)
      rw [h1, del_none hn, h2]
      cases r with
      | nil => rfl
      | cons z r =>
        rw [Rising, List.pairwise_cons] at hR
        have := hR.1 z (List.mem_cons_self ..)
        unfold insN
        rw [if_pos this]
    · have h1 : delN (y :: r) s = y :: delN r s := by unfold delN; rw [List.filter_cons_of_pos (by simp [e])]
      have h2 : hasN r s = true := by
        unfold hasN at h ⊢
        rw [List.any_cons] at h
        simpa [e] using h
      have h3 : parN (y :: r) s = parN r s := by unfold parN; rw [List.find?_cons_of_neg (by simpa using e)]
      have h4 : ltB s y.1 = false := by
        have := hR
        rw [Rising, List.pairwise_cons] at this
        exact ltB_asymm (this.1 _ (parN_mem h2))
      rw [h1, h3]
      unfold insN
      rw [h4, ih (List.Pairwise.of_cons hR) h2]; rfl
theorem child_par {N : Nodes} (G : Good11 N) {s c : ByteArray} (h : c ∈ childN N s) : parN N c = s ∧ hasN N c = true := by
  unfold childN at h
  obtain ⟨q, hq, rfl⟩ := List.mem_map.1 h
  rw [List.mem_filter] at hq
  have := hq.2
  simp only [Bool.and_eq_true, decide_eq_true_eq] at this
  exact ⟨by rw [← this.2]; exact parN_some G.rise hq.1, hasN_iff.2 ⟨_, hq.1⟩⟩
theorem par_not {N : Nodes} (G : Good11 N) {s : ByteArray} (h : hasN N s = true) : parN N s ≠ s := by
  intro e
  have h1 := G.path s
  rw [if_pos h, e] at h1
  have := congrArg List.length h1
  simp at this
theorem par_path {N : Nodes} (G : Good11 N) {s : ByteArray} (h : hasN N s = true) : (pathT N (parN N s)).length < 8 := by
  have h1 := G.path s
  rw [if_pos h] at h1
  have h2 := G.deep s
  rw [h1] at h2
  simp at h2; omega
theorem remove_zero {N M : Nodes} {s : ByteArray} (h : removeR N s = (0, M)) : hasN N s = true ∧ s ≠ rootB ∧ childN N s = [] ∧ M = delN N s := by
  unfold removeR at h
  cases h1 : hasN N s with
  | false => rw [h1] at h; simp at h
  | true =>
    rw [h1] at h
    simp only [Bool.not_true, Bool.false_eq_true, if_false] at h
    split at h
    · simp at h
    · rename_i hr
      cases h2 : childN N s with
      | cons a r => rw [h2] at h; simp at h
      | nil =>
        rw [h2] at h
        simp at h
        exact ⟨rfl, hr, rfl, h.symm⟩
theorem remove_create {N M : Nodes} (G : Good11 N) (R : RightN N) {s : ByteArray} (h : removeR N s = (0, M)) : hasN M s = false ∧ createR M s (parN N s) = (0, N) := by
  obtain ⟨h1, h2, h3, rfl⟩ := remove_zero h
  have h4 : hasN (delN N s) s = false := by rw [hasN_del]; simp
  have h5 := par_not G h1
  refine ⟨h4, ?_⟩
  unfold createR
  have h6 : hasN (delN N s) (parN N s) = true := by rw [hasN_del, G.par_has h1 h2]; simp [h5]
  have h7 := par_path G h1
  have h8 := remove_path G (x := parN N s) h1 h2 h3
  rw [if_neg h5] at h8
  have h9 := del_length G.rise h1
  have := G.few
  rw [R s h1, h4, h6, h8, if_neg (by simp), if_neg (by simp), if_neg (by simp), if_neg (by omega), if_neg (by omega), insdel_same G.rise h1]
theorem createR_cases (N : Nodes) (s p : ByteArray) : ((createR N s p).1 ≠ 0 ∧ (createR N s p).2 = N) ∨ ((createR N s p).1 = 0 ∧ (createR N s p).2.length = N.length + 1) := by
  unfold createR
  repeat' split
  all_goals first | (left; exact ⟨by simp, rfl⟩) | (right; exact ⟨rfl, insN_length _ _ _⟩)
theorem removeR_cases {N : Nodes} (G : Good11 N) (s : ByteArray) : ((removeR N s).1 ≠ 0 ∧ (removeR N s).2 = N) ∨ ((removeR N s).1 = 0 ∧ (removeR N s).2.length + 1 = N.length) := by
  obtain ⟨x, hx⟩ : ∃ x, removeR N s = x := ⟨_, rfl⟩
  obtain ⟨r, M⟩ := x
  by_cases e : r = 0
  · subst e
    obtain ⟨h1, _, _, rfl⟩ := remove_zero hx
    right; rw [hx]; exact ⟨rfl, del_length G.rise h1⟩
  · left
    rw [hx]
    refine ⟨e, ?_⟩
    unfold removeR at hx
    repeat' split at hx
    all_goals first | (cases hx; rfl) | (cases hx; exact absurd rfl e)
theorem moveR_cases (N : Nodes) (s p : ByteArray) : ((moveR N s p).1 ≠ 0 ∧ (moveR N s p).2 = N) ∨ ((moveR N s p).1 = 0 ∧ (moveR N s p).2.length = N.length) := by
  unfold moveR
  repeat' split
  all_goals first | (left; exact ⟨by simp, rfl⟩) | (right; exact ⟨rfl, setN_length _ _ _⟩)
/-- What an act leaves: as many nodes. -/
theorem doT_cases {N M : Nodes} (G : Good11 N) {a : ActT} {r : Int} (h0 : 0 ≤ a.kind) (h : doT N a = (r, M)) :
    (r ≠ 0 ∧ M = N) ∨ (r = 0 ∧ a.kind % 4 = 2 ∧ M.length = N.length) ∨ (r = 0 ∧ a.kind % 4 = 3 ∧ M.length + 1 = N.length) ∨ (r = 0 ∧ a.kind % 4 < 2 ∧ M.length = N.length + 1) := by
  have hT : a.kind.tmod 4 = a.kind % 4 := Int.tmod_eq_emod_of_nonneg h0
  unfold doT at h
  rw [hT] at h
  split at h
  · rename_i q
    rcases moveR_cases N a.n a.o with ⟨k1, k2⟩ | ⟨k1, k2⟩ <;> rw [h] at k1 k2
    · exact .inl ⟨k1, k2⟩
    · exact .inr (.inl ⟨k1, q, k2⟩)
  · split at h
    · rename_i q
      rcases removeR_cases G a.n with ⟨k1, k2⟩ | ⟨k1, k2⟩ <;> rw [h] at k1 k2
      · exact .inl ⟨k1, k2⟩
      · exact .inr (.inr (.inl ⟨k1, q, k2⟩))
    · rename_i q1 q2
      rcases createR_cases N a.n a.o with ⟨k1, k2⟩ | ⟨k1, k2⟩ <;> rw [h] at k1 k2
      · exact .inl ⟨k1, k2⟩
      · exact .inr (.inr (.inr ⟨k1, by omega, k2⟩))
/-! The root, and the children of all. -/
def sumN (l : List Nat) : Nat := l.foldr (· + ·) 0
theorem sumN_append (a b : List Nat) : sumN (a ++ b) = sumN a + sumN b := by
  induction a with
  | nil => simp [sumN]
  | cons x r ih => simp only [sumN, List.cons_append, List.foldr_cons] at ih ⊢; omega
theorem sumN_le {l : List Nat} {c : Nat} (h : ∀ x ∈ l, x ≤ c) : sumN l ≤ l.length * c := by
  induction l with
  | nil => simp [sumN]
  | cons x r ih =>
    have h1 := ih (fun y hy => h y (List.mem_cons_of_mem _ hy))
    have h2 := h x (List.mem_cons_self ..)
    simp only [sumN, List.foldr_cons, List.length_cons] at h1 ⊢
    rw [Nat.add_mul]; omega
theorem sum_zero {L : List ByteArray} {a : ByteArray} (h : a ∉ L) : sumN (L.map fun x => if a = x then 1 else 0) = 0 := by
  induction L with
  | nil => rfl
  | cons x r ih =>
    rw [List.mem_cons, not_or] at h
    have := ih h.2
    simp only [sumN, List.map_cons, List.foldr_cons, if_neg h.1] at this ⊢; omega
theorem sum_one {L : List ByteArray} {a : ByteArray} (hd : L.Nodup) (h : a ∈ L) : sumN (L.map fun x => if a = x then 1 else 0) = 1 := by
  induction L with
  | nil => cases h
  | cons x r ih =>
    rw [List.nodup_cons] at hd
    by_cases e : a = x
    · subst e
      have := sum_zero hd.1
      simp only [sumN, List.map_cons, List.foldr_cons, if_pos] at this ⊢; omega
    · have h2 : a ∈ r := by
        rcases List.mem_cons.1 h with q | q
        · exact absurd q e
        · exact q
      have := ih hd.2 h2
      simp only [sumN, List.map_cons, List.foldr_cons, if_neg e] at this ⊢; omega
theorem sum_add (L : List ByteArray) (f g : ByteArray → Nat) : sumN (L.map fun x => f x + g x) = sumN (L.map f) + sumN (L.map g) := by
  induction L with
  | nil => rfl
  | cons x r ih => simp only [sumN, List.map_cons, List.foldr_cons] at ih ⊢; omega
theorem sum_parts {L : List ByteArray} (hd : L.Nodup) (Q : Nodes) (h : ∀ q ∈ Q, q.2 ∈ L) : sumN (L.map fun x => (Q.filter fun q => decide (q.2 = x)).length) = Q.length := by
  induction Q with
  | nil =>
    induction L with
    | nil => rfl
    | cons x r ih => rw [List.nodup_cons] at hd; have := ih hd.2 (fun q hq => by cases hq); simp only [sumN, List.map_cons, List.foldr_cons, List.filter_nil, List.length_nil] at this ⊢; omega
  | cons q r ih =>
    have h1 := ih (fun y hy => h y (List.mem_cons_of_mem _ hy))
    have h2 := sum_one hd (h q (List.mem_cons_self ..))
    have h3 : (fun x => ((q :: r).filter fun q => decide (q.2 = x)).length) = fun x => (if q.2 = x then 1 else 0) + (r.filter fun q => decide (q.2 = x)).length := by
      funext x
      by_cases e : q.2 = x
      · rw [List.filter_cons_of_pos (by simp [e]), if_pos e]; simp; omega
      · rw [List.filter_cons_of_neg (by simp [e]), if_neg e]; simp
    rw [h3, sum_add, h1, h2]; simp; omega
theorem all_nodup {N : Nodes} (h : Rising N) : (allN N).Nodup := by
  unfold allN List.Nodup
  rw [List.pairwise_map]
  exact List.Pairwise.imp (fun {a b} q => ltB_ne q) h
def kidsN (N : Nodes) (x : ByteArray) : Nat := (childN N x).length
theorem kids_all {N : Nodes} (G : Good11 N) : sumN ((allN N).map (kidsN N)) + 1 = N.length := by
  have h1 := del_length G.rise G.hasRoot
  rw [← h1]
  have h2 : kidsN N = fun x => ((delN N rootB).filter fun q => decide (q.2 = x)).length := by
    funext x
    unfold kidsN childN delN
    rw [List.length_map, List.filter_filter]
    congr 2
    funext q
    rw [Bool.and_comm]
  rw [h2, sum_parts (all_nodup G.rise)]
  intro q hq
  obtain ⟨q1, q2⟩ := List.mem_filter.1 hq
  exact mem_all.2 (G.up q.1 q.2 q1 (by simpa using q2))
def cntTo (N : Nodes) (k : Nat) : Nat := 1 + sumN (((allN N).take k).map (kidsN N))
theorem cnt_zero (N : Nodes) : cntTo N 0 = 1 := rfl
theorem cnt_succ {N : Nodes} {k : Nat} (h : k < (allN N).length) : cntTo N (k + 1) = cntTo N k + kidsN N ((allN N)[k]'h) := by
  unfold cntTo
  rw [List.take_succ_eq_append_getElem h, List.map_append, sumN_append]
  simp [sumN]; omega
theorem cnt_all {N : Nodes} (G : Good11 N) : cntTo N (allN N).length = (allN N).length := by
  unfold cntTo
  rw [List.take_length]
  have := kids_all G
  have h2 : (allN N).length = N.length := by simp [allN]
  omega
theorem kids_le {N : Nodes} (G : Good11 N) (x : ByteArray) : kidsN N x ≤ 200 := by
  unfold kidsN childN
  rw [List.length_map]
  have := List.length_filter_le (fun p : ByteArray × ByteArray => !decide (p.1 = rootB) && decide (p.2 = x)) N
  have := G.few
  omega
theorem cnt_le {N : Nodes} (G : Good11 N) (k : Nat) : cntTo N k ≤ 1 + 200 * 200 := by
  unfold cntTo
  have h1 : sumN (((allN N).take k).map (kidsN N)) ≤ (((allN N).take k).map (kidsN N)).length * 200 := sumN_le (fun y hy => by
    obtain ⟨x, _, rfl⟩ := List.mem_map.1 hy; exact kids_le G x)
  have h2 : (((allN N).take k).map (kidsN N)).length ≤ 200 := by
    rw [List.length_map, List.length_take]
    have : (allN N).length = N.length := by simp [allN]
    have := G.few
    omega
  omega
end Go.Proofs.Ythaipgbjnigkhaa
