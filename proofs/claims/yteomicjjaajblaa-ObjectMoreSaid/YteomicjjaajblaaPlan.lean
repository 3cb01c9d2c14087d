import Derived.Test.YteomicjjaajblaaSeq
import Derived.OrdersHeld
namespace Go.Proofs.Yteomicjjaajblaa
open Go.RowKit
/-! ### A region that draws its order, two of whose operations may come in either order -/
section
variable {P : Program} {ops : Array Oper} {Q : Exit → Act → World → Prop} {S : World → Prop} {md : Region.Mode}
/-- How the operations are gone through: one that yields, taken first; the only one that may come up; two that may. -/
inductive Plan where
  | done
  | take (i : Nat) (p : Plan)
  | only (i : Nat) (p : Plan)
  | both (i j : Nat) (p q : Plan)
def Plan.len : Plan → Nat
  | .done => 0
  | .take _ p => p.len + 1
  | .only _ p => p.len + 1
  | .both _ _ p _ => p.len + 1
def linP (md : Region.Mode) (ops : Array Oper) (listed : Array Bool) : Plan → Bool
  | .done => Region.ready md ops listed == []
  | .take i p => Region.noSelect ops && Region.free md ops listed i && (Region.ready md ops listed).contains i && linP md ops (listed.setIfInBounds i true) p
  | .only i p => (Region.ready md ops listed == [i]) && linP md ops (listed.setIfInBounds i true) p
  | .both i j p q => (Region.ready md ops listed == [i, j]) && (p.len == q.len) && linP md ops (listed.setIfInBounds i true) p && linP md ops (listed.setIfInBounds j true) q
def seqP (P : Program) (ops : Array Oper) (Q : Exit → Act → World → Prop) (S : World → Prop) : Plan → Act → World → Prop
  | .done, a, w => Q .normal a w
  | .take i p, a, w => ∃ oi v, ops[i]? = some oi ∧ YieldsIf P ops S oi v a ∧ seqP P ops Q S p (a.put oi.dst v) w
  | .only i p, a, w => wpOp P ops Q i (fun a' w' => S w' ∧ seqP P ops Q S p a' w') a w
  | .both i j p q, a, w => wpOp P ops Q i (fun a' w' => S w' ∧ seqP P ops Q S p a' w') a w ∧ wpOp P ops Q j (fun a' w' => S w' ∧ seqP P ops Q S q a' w') a w
theorem seqP_any (hQ : ∀ c (a : Act) t w, Q (.panic c) { a with tmps := t } w → Q (.panic c) a w) : ∀ (p : Plan) (listed : Array Bool) (a : Act) (w : World),
    linP md ops listed p = true → S w → seqP P ops Q S p a w → wpAnyH P md ops Q S p.len listed a w
  | .done, listed, a, w, hl, _, h => wpAnyH_done (by simpa [linP] using hl) h 0
  | .take i p, listed, a, w, hl, hS, h => by
    simp only [linP, Bool.and_eq_true] at hl
    obtain ⟨oi, v, hi, hy, h⟩ := h
    exact wpAnyH_take hi hl.1.1.1 hl.1.1.2 hl.1.2 (put_panic hQ oi.dst v) hy hS (seqP_any hQ p _ _ _ hl.2 hS h)
  | .only i p, listed, a, w, hl, hS, h => by
    simp only [linP, Bool.and_eq_true, beq_iff_eq] at hl
    refine wpAnyH_all hl.1 (by simp) (fun j hj => ?_)
    obtain rfl : j = i := by simpa using hj
    have h' : wpOp P ops Q j (fun a' w' => S w' ∧ seqP P ops Q S p a' w') a w := h
    refine wpOp_mono (K := fun a' w' => S w' ∧ seqP P ops Q S p a' w') ?_ h'
    intro a' w' ⟨hS', h''⟩
    exact ⟨hS', seqP_any hQ p _ _ _ hl.2 hS' h''⟩
  | .both i j p q, listed, a, w, hl, hS, h => by
    simp only [linP, Bool.and_eq_true, beq_iff_eq] at hl
    obtain ⟨⟨⟨hr, hlen⟩, h1⟩, h2⟩ := hl
    refine wpAnyH_all hr (by simp) (fun k hk => ?_)
    have hk' : k = i ∨ k = j := by simpa using hk
    rcases hk' with rfl | rfl
    · refine wpOp_mono (K := fun a' w' => S w' ∧ seqP P ops Q S p a' w') ?_ h.1
      intro a' w' ⟨hS', h''⟩
      exact ⟨hS', seqP_any hQ p _ _ _ h1 hS' h''⟩
    · refine wpOp_mono (K := fun a' w' => S w' ∧ seqP P ops Q S q a' w') ?_ h.2
      intro a' w' ⟨hS', h''⟩
      refine ⟨hS', ?_⟩
      rw [hlen]
      exact seqP_any hQ q _ _ _ h2 hS' h''
theorem region_plan {id : Nat} {a : Act} {w : World} (S : World → Prop) (p : Plan) (hm : P.follows .mixedOrders = true) (hl : (linP .any ops (Array.replicate ops.size false) p && (p.len == ops.size)) = true)
    (hQ : ∀ c (a : Act) t w, Q (.panic c) { a with tmps := t } w → Q (.panic c) a w) (hS : S w.drew) (h : seqP P ops Q S p a w.drew) : (Code.region id ops true).wp P Q a w := by
  simp only [Bool.and_eq_true, beq_iff_eq] at hl
  refine wp_region_held (S := S) hm ?_
  rw [← hl.2]
  exact seqP_any hQ p _ _ _ (by rw [hl.2]; exact hl.1) hS h
theorem plan_both {i j : Nat} {p q : Plan} {a : Act} {w : World} (h1 : seqP P ops Q S (.only i p) a w) (h2 : seqP P ops Q S (.only j q) a w) : seqP P ops Q S (.both i j p q) a w := ⟨h1, h2⟩
theorem plan_done {a : Act} {w : World} (h : Q .normal a w) : seqP P ops Q S .done a w := h
theorem plan_take {fl : Plan} {i : Nat} {a a' : Act} {w : World} {oi : Oper} {v : Value} (N : Option Tmp) (hi : ops[i]? = some oi) (hN : oi.dst = N) (hw : Region.wanted oi (yielded ops a.tmps) = true)
    (hv : ∀ w', S w' → (execOp a.eval oi).run P w' = .ok (.value v) w') (ha : a.put N v = a') (h : seqP P ops Q S fl a' w) : seqP P ops Q S (.take i fl) a w :=
  ⟨oi, v, hi, .inl ⟨hw, hv⟩, by rw [hN, ha]; exact h⟩
theorem plan_skip {fl : Plan} {i : Nat} {a a' : Act} {w : World} {oi : Oper} (N : Option Tmp) (hi : ops[i]? = some oi) (hN : oi.dst = N) (hw : Region.wanted oi (yielded ops a.tmps) = false)
    (ha : a.put N undef = a') (h : seqP P ops Q S fl a' w) : seqP P ops Q S (.take i fl) a w :=
  ⟨oi, undef, hi, .inr ⟨hw, rfl⟩, by rw [hN, ha]; exact h⟩
theorem plan_call {fl : Plan} {i : Nat} {a : Act} {w : World} {oi : Oper} {f : FuncId} {fn : Func} {as : Array Operand} {ts : Array TypeId} (hf : P.funcs[f]? = some fn) (hname : (fn.name == "runtime.NumGoroutine") = false) (hb : fn.body.isSome = true)
    (N : Option Tmp) (args : Array Value) (hi : ops[i]? = some oi) (hN : oi.dst = N) (hw : Region.wanted oi (yielded ops a.tmps) = true) (hop : oi.op = .call { callee := .value (.func f), args := as, argTypes := ts }) (hargs : as.map a.eval = args)
    (h : Calls P f args w fun e w' => ∃ v, e = .returned v ∧ S w' ∧ seqP P ops Q S fl (a.put N v) w') : seqP P ops Q S (.only i fl) a w := by
  show wpOp P ops Q i _ a w
  unfold wpOp
  rw [hi]
  simp only [hw, if_true]
  refine .inl ?_
  have h1 : fn.name ≠ "runtime.NumGoroutine" := by simpa using hname
  obtain ⟨c, hc⟩ := Option.isSome_iff_exists.1 hb
  have he : (callFunc f args).run P w = .ok (.enter f args) w := by simp [callFunc, hf, h1, hc]
  have hrun : (execOp a.eval oi).run P w = .ok (.enter f args) w := by
    unfold execOp
    simp [hop, resolve, Deferred.ofValue, invoke, Act.eval, hargs, he]
  unfold Oper.wp
  rw [hrun, Oper.upon_enter]
  refine h.mono fun e w'' hh => ?_
  obtain ⟨v, rfl, hk⟩ := hh
  subst hN
  exact hk
/-- A call of a function that a slot holds. -/
theorem plan_callO {fl : Plan} {i : Nat} {a : Act} {w : World} {oi : Oper} {f : FuncId} {fn : Func} {c : Operand} {as : Array Operand} {ts : Array TypeId} (hf : P.funcs[f]? = some fn) (hname : (fn.name == "runtime.NumGoroutine") = false) (hb : fn.body.isSome = true)
    (N : Option Tmp) (args : Array Value) (hi : ops[i]? = some oi) (hN : oi.dst = N) (hw : Region.wanted oi (yielded ops a.tmps) = true) (hop : oi.op = .call { callee := .value c, args := as, argTypes := ts }) (hc : a.eval c = .func (.func f) #[] #[]) (hargs : as.map a.eval = args)
    (h : Calls P f args w fun e w' => ∃ v, e = .returned v ∧ S w' ∧ seqP P ops Q S fl (a.put N v) w') : seqP P ops Q S (.only i fl) a w := by
  show wpOp P ops Q i _ a w
  unfold wpOp
  rw [hi]
  simp only [hw, if_true]
  refine .inl ?_
  have h1 : fn.name ≠ "runtime.NumGoroutine" := by simpa using hname
  obtain ⟨cd, hcd⟩ := Option.isSome_iff_exists.1 hb
  have he : (callFunc f args).run P w = .ok (.enter f args) w := by simp [callFunc, hf, h1, hcd]
  have hrun : (execOp a.eval oi).run P w = .ok (.enter f args) w := by
    unfold execOp
    simp [hop, resolve, Deferred.ofValue, invoke, hc, hargs, he]
  unfold Oper.wp
  rw [hrun, Oper.upon_enter]
  refine h.mono fun e w'' hh => ?_
  obtain ⟨v, rfl, hk⟩ := hh
  subst hN
  exact hk
/-- An operation of the call's own (an alloc, a box, a slice that is built). -/
theorem plan_op {fl : Plan} {i : Nat} {a : Act} {w : World} {oi : Oper} (N : Option Tmp) (hi : ops[i]? = some oi) (hN : oi.dst = N) (hw : Region.wanted oi (yielded ops a.tmps) = true)
    (h : ∃ v w1, (execOp a.eval oi).run P w = .ok (.value v) w1 ∧ ∃ a', a.put N v = a' ∧ S w1 ∧ seqP P ops Q S fl a' w1) : seqP P ops Q S (.only i fl) a w := by
  obtain ⟨v, w1, hrun, a', ha, hS, h⟩ := h
  show wpOp P ops Q i _ a w
  unfold wpOp
  rw [hi]
  simp only [hw, if_true]
  refine .inl ?_
  unfold Oper.wp
  rw [hrun, Oper.upon_value, hN, ha]
  exact ⟨hS, h⟩
theorem plan_store {fl : Plan} {i : Nat} {a : Act} {w : World} {oi : Oper} (N : Option Tmp) (hi : ops[i]? = some oi) (hN : oi.dst = N) (hw : Region.wanted oi (yielded ops a.tmps) = true)
    (h : ∃ w1, (execOp a.eval oi).run P w = .ok .skip w1 ∧ ∃ a', a.put N undef = a' ∧ S w1 ∧ seqP P ops Q S fl a' w1) : seqP P ops Q S (.only i fl) a w := by
  obtain ⟨w1, hrun, a', ha, hS, h⟩ := h
  show wpOp P ops Q i _ a w
  unfold wpOp
  rw [hi]
  simp only [hw, if_true]
  refine .inl ?_
  unfold Oper.wp
  rw [hrun, Oper.upon_skip, hN, ha]
  exact ⟨hS, h⟩
/-- Where an operation that may come up alone is not wanted. -/
theorem plan_skip1 {fl : Plan} {i : Nat} {a a' : Act} {w : World} {oi : Oper} (N : Option Tmp) (hi : ops[i]? = some oi) (hN : oi.dst = N) (hw : Region.wanted oi (yielded ops a.tmps) = false)
    (ha : a.put N undef = a') (hS : S w) (h : seqP P ops Q S fl a' w) : seqP P ops Q S (.only i fl) a w := by
  show wpOp P ops Q i _ a w
  unfold wpOp
  rw [hi]
  simp only [hw, Bool.false_eq_true, if_false, hN, ha]
  exact ⟨hS, h⟩
/-- Behind a box that was laid: the world gets a name. -/
theorem plan_named {p : Plan} {a : Act} {w : World} {o : Obj} (h : ∀ wA : World, wA.heap[w.heap.size]? = some o → Below w.heap.size w wA → seqP P ops Q S p a wA) : seqP P ops Q S p a (w.alloc o) :=
  h _ (blk_new w o) ((Below.refl _ _).alloc (Nat.le_refl _) o)
theorem plan_set1 {p : Plan} {a : Act} {w : World} {b B : Nat} {V : World} {x u : Value} {t : TypeId} (g : w.heap[b]? = some (.cells #[x] t)) (hB : Below B V w) (hb : B ≤ b)
    (h : ∀ wA : World, wA.heap[b]? = some (.cells #[u] t) → Below B V wA → seqP P ops Q S p a wA) : seqP P ops Q S p a (w.setCell ⟨b, 0, none⟩ u) :=
  h _ (heap_setCell_same w b 0 _ t u g) (hB.setCell hb _)
theorem plan_set2 {p : Plan} {a : Act} {w : World} {b B : Nat} {V : World} {x y u v : Value} {t : TypeId} (g : w.heap[b]? = some (.cells #[x, y] t)) (hB : Below B V w) (hb : B ≤ b)
    (h : ∀ wA : World, wA.heap[b]? = some (.cells #[u, v] t) → Below B V wA → seqP P ops Q S p a wA) : seqP P ops Q S p a ((w.setCell ⟨b, 0, none⟩ u).setCell ⟨b, 1, none⟩ v) :=
  h _ (heap_setCell_same _ b 1 _ t v (heap_setCell_same w b 0 _ t u g)) ((hB.setCell hb _).setCell hb _)
theorem plan_set3 {p : Plan} {a : Act} {w : World} {b B : Nat} {V : World} {x y z u v s : Value} {t : TypeId} (g : w.heap[b]? = some (.cells #[x, y, z] t)) (hB : Below B V w) (hb : B ≤ b)
    (h : ∀ wA : World, wA.heap[b]? = some (.cells #[u, v, s] t) → Below B V wA → seqP P ops Q S p a wA) : seqP P ops Q S p a (((w.setCell ⟨b, 0, none⟩ u).setCell ⟨b, 1, none⟩ v).setCell ⟨b, 2, none⟩ s) :=
  h _ (heap_setCell_same _ b 2 _ t s (heap_setCell_same _ b 1 _ t v (heap_setCell_same w b 0 _ t u g))) (((hB.setCell hb _).setCell hb _).setCell hb _)
end
end Go.Proofs.Yteomicjjaajblaa
