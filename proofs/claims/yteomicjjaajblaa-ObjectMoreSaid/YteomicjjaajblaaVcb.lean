import Derived.Test.YteomicjjaajblaaVca
namespace Go.Proofs.Yteomicjjaajblaa
open Classical
set_option linter.unusedVariables false
set_option linter.unusedSimpArgs false
/-! ### The reference's way: each entry is put where it belongs -/
structure PutS where
  out : Vec
  done : Bool
def stepP (n : ByteArray) (x : Int) (s : PutS) (y : ByteArray × Int) : PutS :=
  ⟨(if !s.done && ltB n y.1 then s.out ++ [(n, x)] else s.out) ++ (if y.1 = n then [] else [y]), s.done || ltB n y.1⟩
def putS (n : ByteArray) (x : Int) (v : Vec) : PutS := v.foldl (stepP n x) ⟨[], decide (x = 0)⟩
def putR (v : Vec) (n : ByteArray) (x : Int) : Vec := if (putS n x v).done then (putS n x v).out else (putS n x v).out ++ [(n, x)]
theorem putS_succ {n : ByteArray} {x : Int} {v : Vec} {k : Nat} (h : k < v.length) : putS n x (v.take (k + 1)) = stepP n x (putS n x (v.take k)) (v[k]'h) := by
  unfold putS; rw [List.take_succ_eq_append_getElem h, List.foldl_append]; rfl
theorem putS_len (n : ByteArray) (x : Int) (v : Vec) : (putS n x v).out.length ≤ v.length + 1 ∧ ((putS n x v).done = false → (putS n x v).out.length ≤ v.length) := by
  unfold putS
  suffices ∀ s : PutS, (s.done = false → (v.foldl (stepP n x) s).out.length ≤ s.out.length + v.length + 1) ∧ (s.done = true → (v.foldl (stepP n x) s).out.length ≤ s.out.length + v.length) ∧ ((v.foldl (stepP n x) s).done = false → (v.foldl (stepP n x) s).out.length ≤ s.out.length + v.length) by
    have h := this ⟨[], decide (x = 0)⟩
    simp only [List.length_nil, Nat.zero_add] at h
    refine ⟨?_, h.2.2⟩
    cases hx : decide (x = 0) with
    | false => have := h.1 hx; rw [hx] at this; exact this
    | true => have := h.2.1 hx; rw [hx] at this; omega
  induction v with
  | nil => intro s; simp
  | cons y r ih =>
    intro s
    obtain ⟨i1, i2, i3⟩ := ih (stepP n x s y)
    rw [List.foldl_cons, List.length_cons]
    have hl : (stepP n x s y).out.length ≤ s.out.length + 1 + (if !s.done && ltB n y.1 then 1 else 0) := by
      unfold stepP; simp only; split <;> split <;> simp
    have hd : (stepP n x s y).done = (s.done || ltB n y.1) := rfl
    refine ⟨fun h => ?_, fun h => ?_, fun h => ?_⟩
    · cases q : ltB n y.1 with
      | false => have := i1 (by rw [hd, h, q]; rfl); rw [h, q] at hl; simp at hl; omega
      | true => have := i2 (by rw [hd, q]; simp); rw [h, q] at hl; simp at hl; omega
    · have := i2 (by rw [hd, h]; rfl); rw [h] at hl; simp at hl; omega
    · have h9 := i3 h
      have hs : s.done = false ∧ ltB n y.1 = false := by
        have : ∀ (l : Vec) (t : PutS), t.done = true → (l.foldl (stepP n x) t).done = true := by
          intro l
          induction l with
          | nil => exact fun t h => h
          | cons z m ihm => exact fun t h => ihm _ (by show (t.done || _) = true; rw [h]; rfl)
        cases q : (stepP n x s y).done with
        | true => rw [this r _ q] at h; cases h
        | false => rw [hd, Bool.or_eq_false_iff] at q; exact q
      rw [hs.1, hs.2] at hl; simp at hl; omega
theorem putS_done (n : ByteArray) (x : Int) (r : Vec) : ∀ (o : Vec), r.foldl (stepP n x) ⟨o, true⟩ = ⟨o ++ delA r n, true⟩ := by
  induction r with
  | nil => intro o; simp [delA]
  | cons y r ih =>
    intro o
    rw [List.foldl_cons]
    have : stepP n x ⟨o, true⟩ y = ⟨o ++ (if y.1 = n then [] else [y]), true⟩ := rfl
    rw [this, ih]
    unfold delA
    by_cases e : y.1 = n
    · rw [if_pos e, List.filter_cons_of_neg (by simp [e]), List.append_nil]
    · rw [if_neg e, List.filter_cons_of_pos (by simp [e])]; simp
theorem delA_above {n : ByteArray} {y : ByteArray × Int} {r : Vec} (h : RiseA ltB (y :: r)) (hl : ltB n y.1 = true) : delA r n = r := by
  rw [RiseA, List.pairwise_cons] at h
  unfold delA
  rw [List.filter_eq_self]
  intro q hq
  have := ltB_trans hl (h.1 q hq)
  have := strictB.ne this
  simpa using this.symm
theorem insA_above {n : ByteArray} {x : Int} {y : ByteArray × Int} {r : Vec} (h : RiseA ltB (y :: r)) : insA ltB r y.1 x = (y.1, x) :: r := by
  rw [RiseA, List.pairwise_cons] at h
  cases r with
  | nil => rfl
  | cons z t => have := h.1 z List.mem_cons_self; unfold insA; rw [if_pos this]
theorem putR_go (n : ByteArray) (x : Int) : ∀ (v : Vec) (o : Vec), RiseA ltB v →
    (if (v.foldl (stepP n x) ⟨o, false⟩).done then (v.foldl (stepP n x) ⟨o, false⟩).out else (v.foldl (stepP n x) ⟨o, false⟩).out ++ [(n, x)]) = o ++ putA ltB v n x
  | [], o, _ => rfl
  | y :: r, o, h => by
    have hr := (List.pairwise_cons.1 h)
    rw [List.foldl_cons]
    cases q : ltB n y.1 with
    | true =>
      have hne := strictB.ne q
      have e : stepP n x ⟨o, false⟩ y = ⟨o ++ [(n, x)] ++ [y], true⟩ := by unfold stepP; simp only [q]; rw [if_neg (Ne.symm hne)]; rfl
      rw [e, putS_done]
      simp only [if_true]
      have e2 : delA (y :: r) n = y :: r := by
        unfold delA
        rw [List.filter_cons_of_pos (by simpa using Ne.symm hne)]
        congr 1
        exact delA_above h q
      unfold putA
      rw [e2, delA_above h q]
      unfold insA
      rw [if_pos q]; simp
    | false =>
      by_cases e1 : y.1 = n
      · have e : stepP n x ⟨o, false⟩ y = ⟨o, false⟩ := by unfold stepP; simp only [q]; rw [if_pos e1]; simp
        rw [e, putR_go n x r o hr.2]
        congr 1
        unfold putA
        have e3 : delA (y :: r) n = delA r n := by unfold delA; rw [List.filter_cons_of_neg (by simp [e1])]
        rw [e3]
      · have e : stepP n x ⟨o, false⟩ y = ⟨o ++ [y], false⟩ := by unfold stepP; simp only [q]; rw [if_neg e1]; simp
        rw [e, putR_go n x r _ hr.2]
        unfold putA
        have e3 : delA (y :: r) n = y :: delA r n := by unfold delA; rw [List.filter_cons_of_pos (by simp [e1])]
        rw [e3]
        have e4 : insA ltB (y :: delA r n) n x = y :: insA ltB (delA r n) n x := by
          show (if ltB n y.1 then _ else _) = _
          rw [q]; rfl
        rw [e4]; simp
theorem putR_eq {v : Vec} (h : RiseA ltB v) (n : ByteArray) (x : Int) : putR v n x = if x = 0 then delA v n else putA ltB v n x := by
  unfold putR putS
  by_cases e : x = 0
  · rw [if_pos e, decide_eq_true e, putS_done]; simp
  · rw [if_neg e, decide_eq_false e, putR_go n x v [] h]; simp
theorem putR_rise {v : Vec} (h : RiseA ltB v) (n : ByteArray) (x : Int) : RiseA ltB (putR v n x) := by
  rw [putR_eq h]; split
  · exact rise_del strictB h n
  · exact rise_put strictB h n x
theorem putR_get {v : Vec} (h : RiseA ltB v) (n : ByteArray) (x : Int) (m : ByteArray) : getV (putR v n x) m = if m = n then x else getV v m := by
  rw [putR_eq h]
  split
  · rename_i e
    unfold getV; rw [getA_del]
    split
    · rw [e]; rfl
    · rfl
  · exact getV_put v n x m
theorem putR_nz {v : Vec} (h : RiseA ltB v) (hz : ∀ p ∈ v, p.2 ≠ 0) (n : ByteArray) (x : Int) : ∀ p ∈ putR v n x, p.2 ≠ 0 := by
  rw [putR_eq h]
  split
  · exact fun p hp => hz p (mem_del.1 hp).1
  · rename_i e
    intro p hp
    rcases mem_put.1 hp with rfl | hp
    · exact e
    · exact hz p hp.1
theorem putR_len (v : Vec) (n : ByteArray) (x : Int) : (putR v n x).length ≤ v.length + 1 := by
  have h := putS_len n x v
  unfold putR
  split
  · exact h.1
  · rename_i q
    have := h.2 (by simpa using q)
    simp; omega
/-! Both, the reference's way. -/
def stepR (f : Int → Int → Int) (a : Vec) (o : Vec) (y : ByteArray × Int) : Vec := putR o y.1 (f (getV a y.1) y.2)
def foldR (f : Int → Int → Int) (a b : Vec) : Vec := b.foldl (stepR f a) a
theorem foldR_succ {f : Int → Int → Int} {a b : Vec} {k : Nat} (h : k < b.length) : foldR f a (b.take (k + 1)) = stepR f a (foldR f a (b.take k)) (b[k]'h) := by
  unfold foldR; rw [List.take_succ_eq_append_getElem h, List.foldl_append]; rfl
theorem foldR_all {f : Int → Int → Int} {a : Vec} (hf : ∀ x, f x 0 = x) (ha : RiseA ltB a) (za : ∀ p ∈ a, p.2 ≠ 0) : ∀ (b : Vec), RiseA ltB b → RiseA ltB (foldR f a b) ∧ (∀ p ∈ foldR f a b, p.2 ≠ 0) ∧ ∀ m, getV (foldR f a b) m = f (getV a m) (getV b m) := by
  intro b hb
  unfold foldR
  suffices ∀ o : Vec, RiseA ltB o → (∀ p ∈ o, p.2 ≠ 0) → RiseA ltB (b.foldl (stepR f a) o) ∧ (∀ p ∈ b.foldl (stepR f a) o, p.2 ≠ 0) ∧ ∀ m, getV (b.foldl (stepR f a) o) m = if m ∈ keysA b then f (getV a m) (getV b m) else getV o m by
    obtain ⟨h1, h2, h3⟩ := this a ha za
    refine ⟨h1, h2, fun m => ?_⟩
    rw [h3 m]
    split
    · rfl
    · rename_i q
      rw [getV_none (v := b) (n := m) (fun p hp e => q (List.mem_map.2 ⟨p, hp, e⟩)), hf]
  induction b with
  | nil => exact fun o h1 h2 => ⟨h1, h2, fun m => by simp [keysA]⟩
  | cons y r ih =>
    intro o h1 h2
    have hr := List.pairwise_cons.1 hb
    obtain ⟨g1, g2, g3⟩ := ih hr.2 (stepR f a o y) (putR_rise h1 _ _) (putR_nz h1 h2 _ _)
    refine ⟨g1, g2, fun m => ?_⟩
    rw [List.foldl_cons, g3 m]
    unfold stepR
    rw [putR_get h1]
    have hm : (m ∈ keysA (y :: r)) ↔ m = y.1 ∨ m ∈ keysA r := by simp [keysA]
    by_cases e : m = y.1
    · subst e
      have hn : y.1 ∉ keysA r := fun h => by
        obtain ⟨p, hp, e⟩ := List.mem_map.1 h
        have := hr.1 p hp
        rw [e] at this
        exact strictB.ne this rfl
      rw [if_neg hn, if_pos rfl, if_pos (hm.2 (.inl rfl)), getV_cons, if_pos rfl]
    · by_cases e2 : m ∈ keysA r
      · rw [if_pos e2, if_pos (hm.2 (.inr e2)), getV_cons, if_neg (show ¬ y.1 = m from fun q => e q.symm)]
      · rw [if_neg e2, if_neg e, if_neg (show ¬ m ∈ keysA (y :: r) from fun q => (hm.1 q).elim e e2)]
theorem foldR_eq {f : Int → Int → Int} {a b : Vec} (hf : ∀ x, f x 0 = x) (ha : rightV a = true) (hb : rightV b = true) : foldR f a b = bothV f a b := by
  obtain ⟨ra, za⟩ := rightV_spec ha
  obtain ⟨rb, zb⟩ := rightV_spec hb
  obtain ⟨h1, h2, h3⟩ := foldR_all hf ra (fun p hp => (za p hp).2) b rb
  exact vec_ext h1 (bothV_rise _ _ _) h2 (bothV_nz _ _ _) fun n => by rw [h3, bothV_get (hf 0)]
theorem foldR_len (f : Int → Int → Int) (a b : Vec) : (foldR f a b).length ≤ a.length + b.length := by
  unfold foldR
  suffices ∀ o : Vec, (b.foldl (stepR f a) o).length ≤ o.length + b.length from this a
  induction b with
  | nil => exact fun o => Nat.le_refl _
  | cons y r ih => intro o; have h1 := ih (stepR f a o y); have h2 := putR_len o y.1 (f (getV a y.1) y.2); rw [List.foldl_cons, List.length_cons]; unfold stepR at h1 ⊢; omega
/-- That all numbers are some: the reference asks the second's alone. -/
theorem allIn_eq {f : Int → Int → Int} {a b : Vec} (hf : ∀ x, f x 0 = x) (ha : rightV a = true) (hb : rightV b = true) (hin : ∀ p ∈ a, wIn p.2 = true) : allIn f a b (keysA a ++ keysA b) = b.all fun p => wIn (f (getV a p.1) p.2) := by
  obtain ⟨ra, za⟩ := rightV_spec ha
  obtain ⟨rb, zb⟩ := rightV_spec hb
  rw [Bool.eq_iff_iff]
  unfold allIn
  rw [List.all_append, Bool.and_eq_true, List.all_eq_true, List.all_eq_true, List.all_eq_true]
  constructor
  · rintro ⟨_, h⟩ p hp
    have := h p.1 (List.mem_map.2 ⟨p, hp, rfl⟩)
    rwa [getV_mem rb hp] at this
  · intro h
    have h2 : ∀ n ∈ keysA b, wIn (f (getV a n) (getV b n)) = true := fun n hn => by
      obtain ⟨p, hp, rfl⟩ := List.mem_map.1 hn
      rw [getV_mem rb hp]; exact h p hp
    refine ⟨fun n hn => ?_, h2⟩
    by_cases e : n ∈ keysA b
    · exact h2 n e
    · rw [getV_none (v := b) (n := n) (fun p hp q => e (List.mem_map.2 ⟨p, hp, q⟩)), hf]
      obtain ⟨p, hp, rfl⟩ := List.mem_map.1 hn
      rw [getV_mem ra hp]; exact hin p hp
/-! ### The vector of resources -/
def badR (p : ByteArray × Int) : Bool := !rightB p.1 || decide (p.2 < 0)
def stepO (m : Vec) (p : ByteArray × Int) : Vec := putA ltB m p.1 (getV m p.1 + p.2)
def foldO (l : List (ByteArray × Int)) : Vec := l.foldl stepO []
def stepQ (m : Vec) (p : ByteArray × Int) : Vec := putR m p.1 (getV m p.1 + p.2)
def foldQ (l : List (ByteArray × Int)) : Vec := l.foldl stepQ []
def ofR (l : List (ByteArray × Int)) : Int × Vec := if l.any badR then (1, []) else if 16 < l.length then (3, []) else (0, someV (foldO l))
theorem foldO_succ {l : List (ByteArray × Int)} {k : Nat} (h : k < l.length) : foldO (l.take (k + 1)) = stepO (foldO (l.take k)) (l[k]'h) := by
  unfold foldO; rw [List.take_succ_eq_append_getElem h, List.foldl_append]; rfl
theorem foldQ_succ {l : List (ByteArray × Int)} {k : Nat} (h : k < l.length) : foldQ (l.take (k + 1)) = stepQ (foldQ (l.take k)) (l[k]'h) := by
  unfold foldQ; rw [List.take_succ_eq_append_getElem h, List.foldl_append]; rfl
theorem foldO_rise (l : List (ByteArray × Int)) : RiseA ltB (foldO l) := by
  unfold foldO
  suffices ∀ m : Vec, RiseA ltB m → RiseA ltB (l.foldl stepO m) from this [] List.Pairwise.nil
  induction l with
  | nil => exact fun m h => h
  | cons p r ih => exact fun m h => ih _ (rise_put strictB h _ _)
theorem foldO_len (l : List (ByteArray × Int)) : (foldO l).length ≤ l.length := by
  unfold foldO
  suffices ∀ m : Vec, (l.foldl stepO m).length ≤ m.length + l.length from by have := this []; simpa using this
  induction l with
  | nil => exact fun m => Nat.le_refl _
  | cons x r ih => intro m; have h1 := ih (stepO m x); have h2 := put_le ltB m x.1 (getV m x.1 + x.2); rw [List.foldl_cons, List.length_cons]; unfold stepO at h1 ⊢; omega
theorem foldQ_all (l : List (ByteArray × Int)) : RiseA ltB (foldQ l) ∧ (∀ p ∈ foldQ l, p.2 ≠ 0) ∧ ∀ n, getV (foldQ l) n = getV (foldO l) n := by
  unfold foldQ foldO
  suffices ∀ m q : Vec, RiseA ltB q → (∀ p ∈ q, p.2 ≠ 0) → (∀ n, getV q n = getV m n) → RiseA ltB (l.foldl stepQ q) ∧ (∀ p ∈ l.foldl stepQ q, p.2 ≠ 0) ∧ ∀ n, getV (l.foldl stepQ q) n = getV (l.foldl stepO m) n from this [] [] List.Pairwise.nil (by rintro p ⟨⟩) (fun _ => rfl)
  induction l with
  | nil => exact fun m q h1 h2 h3 => ⟨h1, h2, h3⟩
  | cons p r ih =>
    intro m q h1 h2 h3
    refine ih _ _ (putR_rise h1 _ _) (putR_nz h1 h2 _ _) fun n => ?_
    show getV (putR q p.1 (getV q p.1 + p.2)) n = getV (putA ltB m p.1 (getV m p.1 + p.2)) n
    rw [putR_get h1, getV_put, h3, h3]
theorem foldQ_eq (l : List (ByteArray × Int)) : foldQ l = someV (foldO l) := by
  obtain ⟨h1, h2, h3⟩ := foldQ_all l
  exact vec_ext h1 (rise_some (foldO_rise l)) h2 (someV_nz _) fun n => by rw [h3, getV_some (foldO_rise l)]
theorem foldO_bound {l : List (ByteArray × Int)} (h : ∀ p ∈ l, 0 ≤ p.2 ∧ p.2 ≤ 9223372036854775807) (n : ByteArray) : 0 ≤ getV (foldO l) n ∧ getV (foldO l) n ≤ l.length * 9223372036854775807 := by
  unfold foldO
  suffices ∀ (m : Vec) (c : Nat), (∀ n, 0 ≤ getV m n ∧ getV m n ≤ c * 9223372036854775807) → ∀ n, 0 ≤ getV (l.foldl stepO m) n ∧ getV (l.foldl stepO m) n ≤ (c + l.length : Nat) * 9223372036854775807 by
    have := this [] 0 (fun n => by simp [getV, getA]) n
    simpa using this
  induction l with
  | nil => intro m c h n; simpa using h n
  | cons p r ih =>
    intro m c hm n
    have hp := h p List.mem_cons_self
    have := ih (fun q hq => h q (List.mem_cons_of_mem _ hq)) (stepO m p) (c + 1) (fun n => by
      unfold stepO
      rw [getV_put]
      have h1 := hm n; have h2 := hm p.1
      split <;> constructor <;> omega) n
    rw [List.foldl_cons, List.length_cons]
    rw [show c + (r.length + 1) = c + 1 + r.length by omega]
    exact this
end Go.Proofs.Yteomicjjaajblaa
