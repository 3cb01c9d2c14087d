import Derived.Test.YthhfcambdmdgfaaSeqL
namespace Go.Proofs.Ythhfcambdmdgfaa
open Go.RowKit
set_option linter.unusedSimpArgs false
/-! ### A region that draws its order, with calls, whose operation L undoes what some of the others read -/
section
variable {P : Program} {ops : Array Oper} {Q : Exit → Act → World → Prop} {S : World → Prop} {md : Region.Mode} {L : Nat}
/-- An operation that yields whatever the world: it may come behind L too. -/
theorem wpAnyL_free {i : Nat} {oi : Oper} {v : Value} (hi : ops[i]? = some oi) (hsel : ∀ (j : Nat) (o : Oper) cs b, ops[j]? = some o → o.op ≠ .select cs b)
    (hQ : ∀ c a w, Q (.panic c) (a.put oi.dst v) w → Q (.panic c) a w) (hiL : i ≠ L) :
    ∀ (fuel : Nat) (listed : Array Bool) (a : Act) (w : World),
      (∀ j oj, ops[j]? = some oj → j ≠ i → listed.getD j true = false → (∀ e ∈ oj.after, Region.binds md e = true → e.on ≠ i) → oi.apart ops oj = true) →
      i ∈ Region.ready md ops listed → YieldsIf P ops (fun _ => True) oi v a → (listed.getD L true = false → S w) →
      wpAnyL P md ops Q S L fuel (listed.setIfInBounds i true) (a.put oi.dst v) w → wpAnyL P md ops Q S L (fuel + 1) listed a w := by
  intro fuel
  induction fuel with
  | zero =>
    intro listed a w _ hr hy hS H
    refine ⟨fun h => (by rw [h] at hr; cases hr), fun j hj => ?_⟩
    by_cases hji : j = i
    · subst hji; exact hy.wpOp hi trivial ⟨fun hq => hS (by rw [getD_set_ne true hiL] at hq; exact hq), H⟩
    · have := ready_mono hj hji
      rw [H.1] at this
      cases this
  | succ fuel ih =>
    intro listed a w hfree hr hy hS H
    refine ⟨fun h => (by rw [h] at hr; cases hr), fun j hj => ?_⟩
    by_cases hji : j = i
    · subst hji; exact hy.wpOp hi trivial ⟨fun hq => hS (by rw [getD_set_ne true hiL] at hq; exact hq), H⟩
    · have h1 := H.2 j (ready_mono hj hji)
      obtain ⟨hjun, oj, hoj, hall⟩ := mem_ready.1 hj
      have hnot : ∀ e ∈ oj.after, Region.binds md e = true → e.on ≠ i := fun e he hb heq => by
        have h1 := hall e he hb
        have h0 := (mem_ready.1 hr).1
        rw [heq] at h1
        rcases Nat.lt_or_ge i listed.size with h' | h'
        · simp [h'] at h0 h1; rw [h0] at h1; cases h1
        · simp [Array.getElem?_eq_none h'] at h1
      have h2 := wpOp_putIf hoj (hfree j oj hoj hji hjun hnot) (fun cs b => hsel i oi cs b hi) (fun cs b => hsel j oj cs b hoj) hQ hy h1
      have hfree' : ∀ k ok, ops[k]? = some ok → k ≠ i → (listed.setIfInBounds j true).getD k true = false →
          (∀ e ∈ ok.after, Region.binds md e = true → e.on ≠ i) → oi.apart ops ok = true := fun k ok hk hki hun hno => by
        refine hfree k ok hk hki ?_ hno
        by_cases hjk : j = k
        · subst hjk; exact hjun
        · rw [getD_set_ne true hjk] at hun; exact hun
      refine wpOp_mono (fun a' w' h3 => ?_) h2
      have hSw : (listed.setIfInBounds j true).getD L true = false → S w' := fun hq => by
        refine h3.2.1 ?_
        rw [Array.setIfInBounds_comm _ _ (Ne.symm hji), getD_set_ne true hiL]; exact hq
      refine ⟨hSw, ih (listed.setIfInBounds j true) a' w' hfree' (ready_mono hr (Ne.symm hji)) h3.1 hSw ?_⟩
      rw [Array.setIfInBounds_comm _ _ hji]
      exact h3.2.2
/-- 0: the only one that may come up; 1: one that yields, and that L waits for; 2: one that yields whatever the world. -/
def linM (md : Region.Mode) (ops : Array Oper) (L : Nat) (listed : Array Bool) : List (Nat × Nat) → Bool
  | [] => Region.ready md ops listed == []
  | (i, 0) :: fl => (Region.ready md ops listed == [i]) && linM md ops L (listed.setIfInBounds i true) fl
  | (i, 1) :: fl => Region.noSelect ops && Region.free md ops listed i && (Region.ready md ops listed).contains i && reachL md ops ops.size L i && !(listed.getD L true) && linM md ops L (listed.setIfInBounds i true) fl
  | (i, _ + 3) :: fl => listed.getD L false && (Region.ready md ops listed == [i]) && linM md ops L (listed.setIfInBounds i true) fl
  | (i, 2) :: fl => Region.noSelect ops && Region.free md ops listed i && (Region.ready md ops listed).contains i && (i != L) && linM md ops L (listed.setIfInBounds i true) fl
def seqM (P : Program) (ops : Array Oper) (Q : Exit → Act → World → Prop) (S : World → Prop) (L : Nat) : List (Nat × Nat) → Act → World → Prop
  | [], a, w => Q .normal a w
  | (i, 0) :: fl, a, w => wpOp P ops Q i (fun a' w' => (i = L ∨ S w') ∧ seqM P ops Q S L fl a' w') a w
  | (i, 1) :: fl, a, w => ∃ oi v, ops[i]? = some oi ∧ YieldsIf P ops S oi v a ∧ seqM P ops Q S L fl (a.put oi.dst v) w
  | (i, _ + 3) :: fl, a, w => wpOp P ops Q i (fun a' w' => seqM P ops Q S L fl a' w') a w
  | (i, 2) :: fl, a, w => ∃ oi v, ops[i]? = some oi ∧ YieldsIf P ops (fun _ => True) oi v a ∧ seqM P ops Q S L fl (a.put oi.dst v) w
theorem seqM_any (hQ : ∀ c (a : Act) t w, Q (.panic c) { a with tmps := t } w → Q (.panic c) a w) : ∀ (fl : List (Nat × Nat)) (listed : Array Bool) (a : Act) (w : World),
    linM md ops L listed fl = true → closedL md ops listed → (listed.getD L true = false → S w) → seqM P ops Q S L fl a w → wpAnyL P md ops Q S L fl.length listed a w
  | [], listed, a, w, hl, _, _, h => ⟨by simpa [linM] using hl, h⟩
  | (i, 1) :: fl, listed, a, w, hl, hcl, hS, h => by
    simp only [linM, Bool.and_eq_true, Bool.not_eq_true'] at hl
    obtain ⟨oi, v, hi, hy, h⟩ := h
    obtain ⟨⟨⟨⟨⟨h1, h2⟩, h3⟩, h4⟩, h5⟩, h6⟩ := hl
    exact wpAnyL_first hi (Region.noSelect_spec h1) (put_panic hQ oi.dst v) h4 _ _ _ _ (Region.free_spec hi h2) (by simpa using h3) hy (hS h5) h5 hcl (seqM_any hQ fl _ _ _ h6 (closed_set hcl (by simpa using h3)) (fun _ => hS h5) h)
  | (i, n + 3) :: fl, listed, a, w, hl, hcl, hS, h => by
    simp only [linM, Bool.and_eq_true, beq_iff_eq] at hl
    obtain ⟨⟨h1, h2⟩, h3⟩ := hl
    refine ⟨fun h0 => (by rw [h2] at h0; cases h0), fun j hj => ?_⟩
    rw [h2] at hj
    obtain rfl : j = i := by simpa using hj
    have hjr : j ∈ Region.ready md ops listed := by rw [h2]; simp
    have h' : wpOp P ops Q j (fun a' w' => seqM P ops Q S L fl a' w') a w := h
    refine wpOp_mono (K := fun a' w' => seqM P ops Q S L fl a' w') ?_ h'
    intro a' w' h''
    have hs : (listed.setIfInBounds j true).getD L true = false → S w' := fun hq => by
      exfalso
      have hL : L < listed.size := by
        rcases Nat.lt_or_ge L listed.size with z | z
        · exact z
        · rw [Array.getD, dif_neg (by omega)] at h1; cases h1
      by_cases e : j = L
      · subst e; simp [Array.getD, hL] at hq
      · rw [getD_set_ne true e] at hq
        simp [Array.getD, hL] at hq h1
        rw [h1] at hq; cases hq
    exact ⟨hs, seqM_any hQ fl _ _ _ h3 (closed_set hcl hjr) hs h''⟩
  | (i, 2) :: fl, listed, a, w, hl, hcl, hS, h => by
    simp only [linM, Bool.and_eq_true, bne_iff_ne] at hl
    obtain ⟨oi, v, hi, hy, h⟩ := h
    obtain ⟨⟨⟨⟨h1, h2⟩, h3⟩, h4⟩, h6⟩ := hl
    exact wpAnyL_free hi (Region.noSelect_spec h1) (put_panic hQ oi.dst v) h4 _ _ _ _ (Region.free_spec hi h2) (by simpa using h3) hy hS (seqM_any hQ fl _ _ _ h6 (closed_set hcl (by simpa using h3)) (fun hq => hS (by rw [getD_set_ne true h4] at hq; exact hq)) h)
  | (i, 0) :: fl, listed, a, w, hl, hcl, hS, h => by
    simp only [linM, Bool.and_eq_true, beq_iff_eq] at hl
    refine ⟨fun h0 => (by rw [hl.1] at h0; cases h0), fun j hj => ?_⟩
    rw [hl.1] at hj
    obtain rfl : j = i := by simpa using hj
    have hjr : j ∈ Region.ready md ops listed := by rw [hl.1]; simp
    have h' : wpOp P ops Q j (fun a' w' => (j = L ∨ S w') ∧ seqM P ops Q S L fl a' w') a w := h
    refine wpOp_mono (K := fun a' w' => (j = L ∨ S w') ∧ seqM P ops Q S L fl a' w') ?_ h'
    intro a' w' ⟨hS', h''⟩
    have hs : (listed.setIfInBounds j true).getD L true = false → S w' := fun hq => by
      rcases hS' with rfl | q
      · exfalso
        rcases Nat.lt_or_ge j listed.size with h9 | h9
        · simp [Array.getD, h9] at hq
        · simp [Array.getD, h9, Nat.not_lt.2 h9] at hq
      · exact q
    exact ⟨hs, seqM_any hQ fl _ _ _ hl.2 (closed_set hcl hjr) hs h''⟩
theorem region_seqM {id : Nat} {a : Act} {w : World} (S : World → Prop) (L : Nat) (fl : List (Nat × Nat)) (hm : P.follows .mixedOrders = true) (hl : (linM .any ops L (Array.replicate ops.size false) fl && (fl.length == ops.size)) = true)
    (hQ : ∀ c (a : Act) t w, Q (.panic c) { a with tmps := t } w → Q (.panic c) a w) (hS : S w.drew) (h : seqM P ops Q S L fl a w.drew) : (Code.region id ops true).wp P Q a w := by
  simp only [Bool.and_eq_true, beq_iff_eq] at hl
  refine wp_region_any hm ?_
  rw [← hl.2]
  exact wpAny_of_L _ _ _ _ (seqM_any hQ fl _ _ _ (by rw [hl.2]; exact hl.1) (fun j o _ hj => by
    exfalso
    have e : (Array.replicate fl.length false).getD j false = false := by
      rw [Array.getD_eq_getD_getElem?, Array.getElem?_replicate]; split <;> rfl
    rw [e] at hj; cases hj) (fun _ => hS) h)
theorem sm_done {a : Act} {w : World} (h : Q .normal a w) : seqM P ops Q S L [] a w := h
theorem sm_take {fl : List (Nat × Nat)} {i : Nat} {a a' : Act} {w : World} {oi : Oper} {v : Value} (N : Option Tmp) (hi : ops[i]? = some oi) (hN : oi.dst = N) (hw : Region.wanted oi (yielded ops a.tmps) = true)
    (hv : ∀ w', S w' → (execOp a.eval oi).run P w' = .ok (.value v) w') (ha : a.put N v = a') (h : seqM P ops Q S L fl a' w) : seqM P ops Q S L ((i, 1) :: fl) a w :=
  ⟨oi, v, hi, .inl ⟨hw, hv⟩, by rw [hN, ha]; exact h⟩
theorem sm_free {fl : List (Nat × Nat)} {i : Nat} {a a' : Act} {w : World} {oi : Oper} {v : Value} (N : Option Tmp) (hi : ops[i]? = some oi) (hN : oi.dst = N) (hw : Region.wanted oi (yielded ops a.tmps) = true)
    (hv : ∀ w', (execOp a.eval oi).run P w' = .ok (.value v) w') (ha : a.put N v = a') (h : seqM P ops Q S L fl a' w) : seqM P ops Q S L ((i, 2) :: fl) a w :=
  ⟨oi, v, hi, .inl ⟨hw, fun w' _ => hv w'⟩, by rw [hN, ha]; exact h⟩
theorem sm_skip {fl : List (Nat × Nat)} {i : Nat} {a a' : Act} {w : World} {oi : Oper} (N : Option Tmp) (hi : ops[i]? = some oi) (hN : oi.dst = N) (hw : Region.wanted oi (yielded ops a.tmps) = false)
    (ha : a.put N undef = a') (h : seqM P ops Q S L fl a' w) : seqM P ops Q S L ((i, 2) :: fl) a w :=
  ⟨oi, undef, hi, .inr ⟨hw, rfl⟩, by rw [hN, ha]; exact h⟩
/-- A call of a function that a slot holds, or that is named. -/
theorem sm_call {fl : List (Nat × Nat)} {i : Nat} {a : Act} {w : World} {oi : Oper} {f : FuncId} {fn : Func} {c : Operand} {as : Array Operand} {ts : Array TypeId} (hf : P.funcs[f]? = some fn) (hname : (fn.name == "runtime.NumGoroutine") = false) (hb : fn.body.isSome = true)
    (N : Option Tmp) (args : Array Value) (hi : ops[i]? = some oi) (hN : oi.dst = N) (hw : Region.wanted oi (yielded ops a.tmps) = true) (hop : oi.op = .call { callee := .value c, args := as, argTypes := ts }) (hc : a.eval c = .func (.func f) #[] #[]) (hargs : as.map a.eval = args)
    (h : Calls P f args w fun e w' => ∃ v, e = .returned v ∧ (i = L ∨ S w') ∧ seqM P ops Q S L fl (a.put N v) w') : seqM P ops Q S L ((i, 0) :: fl) a w := by
  show wpOp P ops Q i _ a w
  unfold wpOp
  rw [hi]
  simp only [hw, if_true]
  refine .inl ?_
  have h1 : fn.name ≠ "runtime.NumGoroutine" := by simpa using hname
  obtain ⟨cd, hcd⟩ := Option.isSome_iff_exists.1 hb
  have he : (callFunc f args).run P w = .ok (.enter f args) w := by simp [callFunc, hf, h1, hcd]
  have hrun : (execOp a.eval oi).run P w = .ok (.enter f args) w := by
    unfold execOp
    simp [hop, resolve, Deferred.ofValue, invoke, hc, hargs, he]
  unfold Oper.wp
  rw [hrun, Oper.upon_enter]
  refine h.mono fun e w'' hh => ?_
  obtain ⟨v, rfl, hs, hk⟩ := hh
  subst hN
  exact ⟨hs, hk⟩
theorem sm_op {fl : List (Nat × Nat)} {i : Nat} {a : Act} {w : World} {oi : Oper} (N : Option Tmp) (hi : ops[i]? = some oi) (hN : oi.dst = N) (hw : Region.wanted oi (yielded ops a.tmps) = true)
    (h : ∃ v w1, (execOp a.eval oi).run P w = .ok (.value v) w1 ∧ ∃ a', a.put N v = a' ∧ (i = L ∨ S w1) ∧ seqM P ops Q S L fl a' w1) : seqM P ops Q S L ((i, 0) :: fl) a w := by
  obtain ⟨v, w1, hrun, a', ha, hS, h⟩ := h
  show wpOp P ops Q i _ a w
  unfold wpOp
  rw [hi]
  simp only [hw, if_true]
  refine .inl ?_
  unfold Oper.wp
  rw [hrun, Oper.upon_value, hN, ha]
  exact ⟨hS, h⟩
/-- A store behind L. -/
theorem sm_after {fl : List (Nat × Nat)} {i : Nat} {a : Act} {w : World} {oi : Oper} (N : Option Tmp) (hi : ops[i]? = some oi) (hN : oi.dst = N) (hw : Region.wanted oi (yielded ops a.tmps) = true)
    (h : ∃ w1, (execOp a.eval oi).run P w = .ok .skip w1 ∧ ∃ a', a.put N undef = a' ∧ seqM P ops Q S L fl a' w1) : seqM P ops Q S L ((i, 3) :: fl) a w := by
  obtain ⟨w1, hrun, a', ha, h⟩ := h
  show wpOp P ops Q i _ a w
  unfold wpOp
  rw [hi]
  simp only [hw, if_true]
  refine .inl ?_
  unfold Oper.wp
  rw [hrun, Oper.upon_skip, hN, ha]
  exact h
/-- A store, or a map's update: by its run. -/
theorem sm_store {fl : List (Nat × Nat)} {i : Nat} {a : Act} {w : World} {oi : Oper} (N : Option Tmp) (hi : ops[i]? = some oi) (hN : oi.dst = N) (hw : Region.wanted oi (yielded ops a.tmps) = true)
    (h : ∃ w1, (execOp a.eval oi).run P w = .ok .skip w1 ∧ ∃ a', a.put N undef = a' ∧ (i = L ∨ S w1) ∧ seqM P ops Q S L fl a' w1) : seqM P ops Q S L ((i, 0) :: fl) a w := by
  obtain ⟨w1, hrun, a', ha, hS, h⟩ := h
  show wpOp P ops Q i _ a w
  unfold wpOp
  rw [hi]
  simp only [hw, if_true]
  refine .inl ?_
  unfold Oper.wp
  rw [hrun, Oper.upon_skip, hN, ha]
  exact ⟨hS, h⟩
theorem sm_law {fl : List (Nat × Nat)} {i : Nat} {a : Act} {w : World} {oi : Oper} (hi : ops[i]? = some oi) (hw : Region.wanted oi (yielded ops a.tmps) = true)
    (h : oi.wp P a w (fun a' w' => (i = L ∨ S w') ∧ seqM P ops Q S L fl a' w') Q) : seqM P ops Q S L ((i, 0) :: fl) a w := by
  show wpOp P ops Q i _ a w
  unfold wpOp
  rw [hi]
  simp only [hw, if_true]
  exact .inl h
end
end Go.Proofs.Ythhfcambdmdgfaa
