import Derived.Test.YthhfcambdmdgfaaSeq
import Derived.OrdersHeld
namespace Go.Proofs.Ythhfcambdmdgfaa
open Go.RowKit
/-! ### A region that draws its order, whose one operation L comes last and undoes what the others read -/
section
variable {P : Program} {ops : Array Oper} {Q : Exit → Act → World → Prop} {S : World → Prop} {md : Region.Mode} {L : Nat}
/-- Whatever order is picked from here on, and 'S' holds behind every operation but L. -/
def wpAnyL (P : Program) (md : Region.Mode) (ops : Array Oper) (Q : Exit → Act → World → Prop) (S : World → Prop) (L : Nat) : Nat → Array Bool → Act → World → Prop
  | 0, listed, a, w => Region.ready md ops listed = [] ∧ Q .normal a w
  | fuel + 1, listed, a, w =>
    (Region.ready md ops listed = [] → Q .normal a w) ∧
    ∀ i ∈ Region.ready md ops listed, wpOp P ops Q i (fun a' w' => ((listed.setIfInBounds i true).getD L true = false → S w') ∧ wpAnyL P md ops Q S L fuel (listed.setIfInBounds i true) a' w') a w
theorem wpAny_of_L : ∀ (fuel : Nat) (listed : Array Bool) (a : Act) (w : World), wpAnyL P md ops Q S L fuel listed a w → wpAny P md ops Q fuel listed a w
  | 0, _, _, _, h => h
  | fuel + 1, _, _, _, h => ⟨h.1, fun i hi => wpOp_mono (fun a' w' h' => wpAny_of_L fuel _ a' w' h'.2) (h.2 i hi)⟩
/-- Has each one that has come up all ahead of it that it waits for? -/
def closedL (md : Region.Mode) (ops : Array Oper) (listed : Array Bool) : Prop := ∀ j o, ops[j]? = some o → listed.getD j false = true → ∀ e ∈ o.after, Region.binds md e = true → listed.getD e.on false = true
/-- Does L wait for i, itself or through others? -/
def reachL (md : Region.Mode) (ops : Array Oper) : Nat → Nat → Nat → Bool
  | 0, _, _ => false
  | f + 1, L, i => match ops[L]? with
    | some o => o.after.any fun e => Region.binds md e && ((e.on == i) || reachL md ops f e.on i)
    | none => false
theorem reach_listed {listed : Array Bool} (hc : closedL md ops listed) : ∀ (f L i : Nat), reachL md ops f L i = true → (∀ o, ops[L]? = some o → ∀ e ∈ o.after, Region.binds md e = true → listed.getD e.on false = true) → listed.getD i false = true
  | 0, _, _, h, _ => by simp [reachL] at h
  | f + 1, L, i, h, hp => by
    unfold reachL at h
    cases ho : ops[L]? with
    | none => rw [ho] at h; cases h
    | some o =>
      rw [ho] at h
      simp only [Array.any_eq_true, Bool.and_eq_true, Bool.or_eq_true, beq_iff_eq] at h
      obtain ⟨k, hk, hb, he⟩ := h
      have hl := hp o ho _ (Array.getElem_mem hk) hb
      rcases he with he | he
      · rw [← he]; exact hl
      · exact reach_listed hc f _ i he (fun o2 ho2 e2 he2 hb2 => hc _ o2 ho2 hl e2 he2 hb2)
theorem getD_unlisted {listed : Array Bool} {i : Nat} (h : listed.getD i true = false) : listed.getD i false = false := by
  rcases Nat.lt_or_ge i listed.size with q | q
  · simpa [q] using h
  · simp [Array.getElem?_eq_none q] at h
theorem not_ready_L {listed : Array Bool} (hc : closedL md ops listed) {f L i : Nat} (hr : reachL md ops f L i = true) (hi : listed.getD i true = false) (hj : L ∈ Region.ready md ops listed) : False := by
  obtain ⟨_, o, ho, hall⟩ := mem_ready.1 hj
  have := reach_listed hc f L i hr (fun o2 ho2 => by have e := Option.some.inj (ho.symm.trans ho2); subst e; exact hall)
  rw [getD_unlisted hi] at this
  cases this
theorem closed_set {listed : Array Bool} (hc : closedL md ops listed) {j : Nat} (hj : j ∈ Region.ready md ops listed) : closedL md ops (listed.setIfInBounds j true) := by
  intro k o ho hk e he hb
  obtain ⟨_, oj, hoj, hall⟩ := mem_ready.1 hj
  by_cases hjk : j = k
  · subst hjk
    have e2 := Option.some.inj (hoj.symm.trans ho)
    subst e2
    exact getD_set_true (hall e he hb)
  · rw [getD_set_ne false hjk] at hk
    exact getD_set_true (hc k o ho hk e he hb)
theorem wpAnyL_first {i : Nat} {oi : Oper} {v : Value} (hi : ops[i]? = some oi) (hsel : ∀ (j : Nat) (o : Oper) cs b, ops[j]? = some o → o.op ≠ .select cs b)
    (hQ : ∀ c a w, Q (.panic c) (a.put oi.dst v) w → Q (.panic c) a w) {f : Nat} (hwait : reachL md ops f L i = true) :
    ∀ (fuel : Nat) (listed : Array Bool) (a : Act) (w : World),
      (∀ j oj, ops[j]? = some oj → j ≠ i → listed.getD j true = false → (∀ e ∈ oj.after, Region.binds md e = true → e.on ≠ i) → oi.apart ops oj = true) →
      i ∈ Region.ready md ops listed → YieldsIf P ops S oi v a → S w → listed.getD L true = false → closedL md ops listed →
      wpAnyL P md ops Q S L fuel (listed.setIfInBounds i true) (a.put oi.dst v) w → wpAnyL P md ops Q S L (fuel + 1) listed a w := by
  intro fuel
  induction fuel with
  | zero =>
    intro listed a w _ hr hy hS _ _ H
    refine ⟨fun h => (by rw [h] at hr; cases hr), fun j hj => ?_⟩
    by_cases hji : j = i
    · subst hji; exact hy.wpOp hi hS ⟨fun _ => hS, H⟩
    · have := ready_mono hj hji
      rw [H.1] at this
      cases this
  | succ fuel ih =>
    intro listed a w hfree hr hy hS hL hcl H
    refine ⟨fun h => (by rw [h] at hr; cases hr), fun j hj => ?_⟩
    by_cases hji : j = i
    · subst hji; exact hy.wpOp hi hS ⟨fun _ => hS, H⟩
    · have h1 := H.2 j (ready_mono hj hji)
      obtain ⟨hjun, oj, hoj, hall⟩ := mem_ready.1 hj
      have hnot : ∀ e ∈ oj.after, Region.binds md e = true → e.on ≠ i := fun e he hb heq => by
        have h1 := hall e he hb
        have h0 := (mem_ready.1 hr).1
        rw [heq] at h1
        rcases Nat.lt_or_ge i listed.size with h' | h'
        · simp [h'] at h0 h1; rw [h0] at h1; cases h1
        · simp [Array.getElem?_eq_none h'] at h1
      have hjL : j ≠ L := fun e => by
        subst e
        exact not_ready_L hcl hwait (mem_ready.1 hr).1 hj
      have hL' : (listed.setIfInBounds j true).getD L true = false := by rw [getD_set_ne true hjL]; exact hL
      have h2 := wpOp_putIf hoj (hfree j oj hoj hji hjun hnot) (fun cs b => hsel i oi cs b hi) (fun cs b => hsel j oj cs b hoj) hQ hy h1
      have hfree' : ∀ k ok, ops[k]? = some ok → k ≠ i → (listed.setIfInBounds j true).getD k true = false →
          (∀ e ∈ ok.after, Region.binds md e = true → e.on ≠ i) → oi.apart ops ok = true := fun k ok hk hki hun hno => by
        refine hfree k ok hk hki ?_ hno
        by_cases hjk : j = k
        · subst hjk; exact hjun
        · rw [getD_set_ne true hjk] at hun; exact hun
      refine wpOp_mono (fun a' w' h3 => ?_) h2
      have hSw : S w' := by
        refine h3.2.1 ?_
        rw [Array.setIfInBounds_comm _ _ (Ne.symm hji), getD_set_ne true (fun e => by
          subst e
          exact not_ready_L hcl hwait (mem_ready.1 hr).1 hr)]
        exact hL'
      refine ⟨fun _ => hSw, ih (listed.setIfInBounds j true) a' w' hfree' (ready_mono hr (Ne.symm hji)) h3.1 hSw hL' (closed_set hcl hj) ?_⟩
      rw [Array.setIfInBounds_comm _ _ hji]
      exact h3.2.2
def linL (md : Region.Mode) (ops : Array Oper) (L : Nat) (listed : Array Bool) : List (Nat × Bool) → Bool
  | [] => Region.ready md ops listed == []
  | (i, true) :: fl => Region.noSelect ops && Region.free md ops listed i && (Region.ready md ops listed).contains i && reachL md ops ops.size L i && !(listed.getD L true) && linL md ops L (listed.setIfInBounds i true) fl
  | (i, false) :: fl => (Region.ready md ops listed == [i]) && linL md ops L (listed.setIfInBounds i true) fl
def seqL (P : Program) (ops : Array Oper) (Q : Exit → Act → World → Prop) (S : World → Prop) (L : Nat) : List (Nat × Bool) → Act → World → Prop
  | [], a, w => Q .normal a w
  | (i, true) :: fl, a, w => ∃ oi v, ops[i]? = some oi ∧ YieldsIf P ops S oi v a ∧ seqL P ops Q S L fl (a.put oi.dst v) w
  | (i, false) :: fl, a, w => wpOp P ops Q i (fun a' w' => (i = L ∨ S w') ∧ seqL P ops Q S L fl a' w') a w
theorem seqL_any (hQ : ∀ c (a : Act) t w, Q (.panic c) { a with tmps := t } w → Q (.panic c) a w) : ∀ (fl : List (Nat × Bool)) (listed : Array Bool) (a : Act) (w : World),
    linL md ops L listed fl = true → closedL md ops listed → (listed.getD L true = false → S w) → seqL P ops Q S L fl a w → wpAnyL P md ops Q S L fl.length listed a w
  | [], listed, a, w, hl, _, _, h => ⟨by simpa [linL] using hl, h⟩
  | (i, true) :: fl, listed, a, w, hl, hcl, hS, h => by
    simp only [linL, Bool.and_eq_true, Bool.not_eq_true'] at hl
    obtain ⟨oi, v, hi, hy, h⟩ := h
    obtain ⟨⟨⟨⟨⟨h1, h2⟩, h3⟩, h4⟩, h5⟩, h6⟩ := hl
    exact wpAnyL_first hi (Region.noSelect_spec h1) (put_panic hQ oi.dst v) h4 _ _ _ _ (Region.free_spec hi h2) (by simpa using h3) hy (hS h5) h5 hcl (seqL_any hQ fl _ _ _ h6 (closed_set hcl (by simpa using h3)) (fun _ => hS h5) h)
  | (i, false) :: fl, listed, a, w, hl, hcl, hS, h => by
    simp only [linL, Bool.and_eq_true, beq_iff_eq] at hl
    refine ⟨fun h0 => (by rw [hl.1] at h0; cases h0), fun j hj => ?_⟩
    rw [hl.1] at hj
    obtain rfl : j = i := by simpa using hj
    have hjr : j ∈ Region.ready md ops listed := by rw [hl.1]; simp
    have h' : wpOp P ops Q j (fun a' w' => (j = L ∨ S w') ∧ seqL P ops Q S L fl a' w') a w := h
    refine wpOp_mono (K := fun a' w' => (j = L ∨ S w') ∧ seqL P ops Q S L fl a' w') ?_ h'
    intro a' w' ⟨hS', h''⟩
    have hs : (listed.setIfInBounds j true).getD L true = false → S w' := fun hq => by
      rcases hS' with rfl | q
      · exfalso
        rcases Nat.lt_or_ge j listed.size with h9 | h9
        · simp [Array.getD, h9] at hq
        · simp [Array.getD, h9, Nat.not_lt.2 h9] at hq
      · exact q
    exact ⟨hs, seqL_any hQ fl _ _ _ hl.2 (closed_set hcl hjr) hs h''⟩
theorem region_seqL {id : Nat} {a : Act} {w : World} (S : World → Prop) (L : Nat) (fl : List (Nat × Bool)) (hm : P.follows .mixedOrders = true) (hl : (linL .any ops L (Array.replicate ops.size false) fl && (fl.length == ops.size)) = true)
    (hQ : ∀ c (a : Act) t w, Q (.panic c) { a with tmps := t } w → Q (.panic c) a w) (hS : S w.drew) (h : seqL P ops Q S L fl a w.drew) : (Code.region id ops true).wp P Q a w := by
  simp only [Bool.and_eq_true, beq_iff_eq] at hl
  refine wp_region_any hm ?_
  rw [← hl.2]
  exact wpAny_of_L _ _ _ _ (seqL_any hQ fl _ _ _ (by rw [hl.2]; exact hl.1) (fun j o _ hj => by
    exfalso
    have e : (Array.replicate fl.length false).getD j false = false := by
      rw [Array.getD_eq_getD_getElem?, Array.getElem?_replicate]; split <;> rfl
    rw [e] at hj; cases hj) (fun _ => hS) h)
theorem sl_done {a : Act} {w : World} (h : Q .normal a w) : seqL P ops Q S L [] a w := h
theorem sl_take {fl : List (Nat × Bool)} {i : Nat} {a a' : Act} {w : World} {oi : Oper} {v : Value} (N : Option Tmp) (hi : ops[i]? = some oi) (hN : oi.dst = N) (hw : Region.wanted oi (yielded ops a.tmps) = true)
    (hv : ∀ w', S w' → (execOp a.eval oi).run P w' = .ok (.value v) w') (ha : a.put N v = a') (h : seqL P ops Q S L fl a' w) : seqL P ops Q S L ((i, true) :: fl) a w :=
  ⟨oi, v, hi, .inl ⟨hw, hv⟩, by rw [hN, ha]; exact h⟩
/-- An operation of the call's own (an alloc, a box, a slice that is built). -/
theorem sl_op {fl : List (Nat × Bool)} {i : Nat} {a : Act} {w : World} {oi : Oper} (N : Option Tmp) (hi : ops[i]? = some oi) (hN : oi.dst = N) (hw : Region.wanted oi (yielded ops a.tmps) = true)
    (h : ∃ v w1, (execOp a.eval oi).run P w = .ok (.value v) w1 ∧ ∃ a', a.put N v = a' ∧ S w1 ∧ seqL P ops Q S L fl a' w1) : seqL P ops Q S L ((i, false) :: fl) a w := by
  obtain ⟨v, w1, hrun, a', ha, hS, h⟩ := h
  show wpOp P ops Q i _ a w
  unfold wpOp
  rw [hi]
  simp only [hw, if_true]
  refine .inl ?_
  unfold Oper.wp
  rw [hrun, Oper.upon_value, hN, ha]
  exact ⟨.inr hS, h⟩
/-- An operation by a law of its own (an append). -/
theorem sl_law {fl : List (Nat × Bool)} {i : Nat} {a : Act} {w : World} {oi : Oper} (hi : ops[i]? = some oi) (hw : Region.wanted oi (yielded ops a.tmps) = true)
    (h : oi.wp P a w (fun a' w' => (i = L ∨ S w') ∧ seqL P ops Q S L fl a' w') Q) : seqL P ops Q S L ((i, false) :: fl) a w := by
  show wpOp P ops Q i _ a w
  unfold wpOp
  rw [hi]
  simp only [hw, if_true]
  exact .inl h
/-- The last one: a store. -/
theorem sl_last {fl : List (Nat × Bool)} {a : Act} {w : World} {oi : Oper} (N : Option Tmp) (hi : ops[L]? = some oi) (hN : oi.dst = N) (hw : Region.wanted oi (yielded ops a.tmps) = true)
    (h : ∃ w1, (execOp a.eval oi).run P w = .ok .skip w1 ∧ ∃ a', a.put N undef = a' ∧ seqL P ops Q S L fl a' w1) : seqL P ops Q S L ((L, false) :: fl) a w := by
  obtain ⟨w1, hrun, a', ha, h⟩ := h
  show wpOp P ops Q L _ a w
  unfold wpOp
  rw [hi]
  simp only [hw, if_true]
  refine .inl ?_
  unfold Oper.wp
  rw [hrun, Oper.upon_skip, hN, ha]
  exact ⟨by simp, h⟩
end
end Go.Proofs.Ythhfcambdmdgfaa
