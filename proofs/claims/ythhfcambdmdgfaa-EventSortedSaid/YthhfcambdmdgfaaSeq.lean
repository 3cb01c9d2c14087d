import Derived.Test.YthhfcambdmdgfaaBase
import Derived.OrdersHeld
namespace Go.Proofs.Ythhfcambdmdgfaa
open Go.RowKit
/-! ### A region that draws its order, walked in the order of its text -/
section
variable {P : Program} {ops : Array Oper} {Q : Exit → Act → World → Prop} {S : World → Prop} {md : Region.Mode}
/-- May the operations be gone through in this order: true: one that yields, taken first; false: the only one that may come up. -/
def lin (md : Region.Mode) (ops : Array Oper) (listed : Array Bool) : List (Nat × Bool) → Bool
  | [] => Region.ready md ops listed == []
  | (i, true) :: fl => Region.noSelect ops && Region.free md ops listed i && (Region.ready md ops listed).contains i && lin md ops (listed.setIfInBounds i true) fl
  | (i, false) :: fl => (Region.ready md ops listed == [i]) && lin md ops (listed.setIfInBounds i true) fl
def seqH (P : Program) (ops : Array Oper) (Q : Exit → Act → World → Prop) (S : World → Prop) : List (Nat × Bool) → Act → World → Prop
  | [], a, w => Q .normal a w
  | (i, true) :: fl, a, w => ∃ oi v, ops[i]? = some oi ∧ YieldsIf P ops S oi v a ∧ seqH P ops Q S fl (a.put oi.dst v) w
  | (i, false) :: fl, a, w => wpOp P ops Q i (fun a' w' => S w' ∧ seqH P ops Q S fl a' w') a w
theorem put_panic (hQ : ∀ c (a : Act) t w, Q (.panic c) { a with tmps := t } w → Q (.panic c) a w) (d : Option Tmp) (v : Value) : ∀ c a w, Q (.panic c) (Act.put a d v) w → Q (.panic c) a w := fun c a w h => by
  cases d with
  | none => exact h
  | some d => exact hQ c a _ w h
theorem seqH_any (hQ : ∀ c (a : Act) t w, Q (.panic c) { a with tmps := t } w → Q (.panic c) a w) : ∀ (fl : List (Nat × Bool)) (listed : Array Bool) (a : Act) (w : World),
    lin md ops listed fl = true → S w → seqH P ops Q S fl a w → wpAnyH P md ops Q S fl.length listed a w
  | [], listed, a, w, hl, _, h => wpAnyH_done (by simpa [lin] using hl) h 0
  | (i, true) :: fl, listed, a, w, hl, hS, h => by
    simp only [lin, Bool.and_eq_true] at hl
    obtain ⟨oi, v, hi, hy, h⟩ := h
    exact wpAnyH_take hi hl.1.1.1 hl.1.1.2 hl.1.2 (put_panic hQ oi.dst v) hy hS (seqH_any hQ fl _ _ _ hl.2 hS h)
  | (i, false) :: fl, listed, a, w, hl, hS, h => by
    simp only [lin, Bool.and_eq_true, beq_iff_eq] at hl
    refine wpAnyH_all hl.1 (by simp) (fun j hj => ?_)
    obtain rfl : j = i := by simpa using hj
    have h' : wpOp P ops Q j (fun a' w' => S w' ∧ seqH P ops Q S fl a' w') a w := h
    refine wpOp_mono (K := fun a' w' => S w' ∧ seqH P ops Q S fl a' w') ?_ h'
    intro a' w' ⟨hS', h''⟩
    exact ⟨hS', seqH_any hQ fl _ _ _ hl.2 hS' h''⟩
theorem region_seq {id : Nat} {a : Act} {w : World} (S : World → Prop) (fl : List (Nat × Bool)) (hm : P.follows .mixedOrders = true) (hl : (lin .any ops (Array.replicate ops.size false) fl && (fl.length == ops.size)) = true)
    (hQ : ∀ c (a : Act) t w, Q (.panic c) { a with tmps := t } w → Q (.panic c) a w) (hS : S w.drew) (h : seqH P ops Q S fl a w.drew) : (Code.region id ops true).wp P Q a w := by
  simp only [Bool.and_eq_true, beq_iff_eq] at hl
  refine wp_region_held (S := S) hm ?_
  rw [← hl.2]
  exact seqH_any hQ fl _ _ _ (by rw [hl.2]; exact hl.1) hS h
theorem seq_done {a : Act} {w : World} (h : Q .normal a w) : seqH P ops Q S [] a w := h
theorem seq_take {fl : List (Nat × Bool)} {i : Nat} {a a' : Act} {w : World} {oi : Oper} {v : Value} (N : Option Tmp) (hi : ops[i]? = some oi) (hN : oi.dst = N) (hw : Region.wanted oi (yielded ops a.tmps) = true)
    (hv : ∀ w', S w' → (execOp a.eval oi).run P w' = .ok (.value v) w') (ha : a.put N v = a') (h : seqH P ops Q S fl a' w) : seqH P ops Q S ((i, true) :: fl) a w :=
  ⟨oi, v, hi, .inl ⟨hw, hv⟩, by rw [hN, ha]; exact h⟩
theorem seq_skip {fl : List (Nat × Bool)} {i : Nat} {a a' : Act} {w : World} {oi : Oper} (N : Option Tmp) (hi : ops[i]? = some oi) (hN : oi.dst = N) (hw : Region.wanted oi (yielded ops a.tmps) = false)
    (ha : a.put N undef = a') (h : seqH P ops Q S fl a' w) : seqH P ops Q S ((i, true) :: fl) a w :=
  ⟨oi, undef, hi, .inr ⟨hw, rfl⟩, by rw [hN, ha]; exact h⟩
theorem seq_call {fl : List (Nat × Bool)} {i : Nat} {a : Act} {w : World} {oi : Oper} {f : FuncId} {fn : Func} {as : Array Operand} {ts : Array TypeId} (hf : P.funcs[f]? = some fn) (hname : (fn.name == "runtime.NumGoroutine") = false) (hb : fn.body.isSome = true)
    (N : Option Tmp) (args : Array Value) (hi : ops[i]? = some oi) (hN : oi.dst = N) (hw : Region.wanted oi (yielded ops a.tmps) = true) (hop : oi.op = .call { callee := .value (.func f), args := as, argTypes := ts }) (hargs : as.map a.eval = args)
    (h : Calls P f args w fun e w' => ∃ v, e = .returned v ∧ S w' ∧ seqH P ops Q S fl (a.put N v) w') : seqH P ops Q S ((i, false) :: fl) a w := by
  show wpOp P ops Q i _ a w
  unfold wpOp
  rw [hi]
  simp only [hw, if_true]
  refine .inl ?_
  have h1 : fn.name ≠ "runtime.NumGoroutine" := by simpa using hname
  obtain ⟨c, hc⟩ := Option.isSome_iff_exists.1 hb
  have he : (callFunc f args).run P w = .ok (.enter f args) w := by simp [callFunc, hf, h1, hc]
  have hrun : (execOp a.eval oi).run P w = .ok (.enter f args) w := by
    unfold execOp
    simp [hop, resolve, Deferred.ofValue, invoke, Act.eval, hargs, he]
  unfold Oper.wp
  rw [hrun, Oper.upon_enter]
  refine h.mono fun e w'' hh => ?_
  obtain ⟨v, rfl, hk⟩ := hh
  subst hN
  exact hk
/-- An operation of the call's own (an alloc, a box, a slice that is built). -/
theorem seq_op {fl : List (Nat × Bool)} {i : Nat} {a : Act} {w : World} {oi : Oper} (N : Option Tmp) (hi : ops[i]? = some oi) (hN : oi.dst = N) (hw : Region.wanted oi (yielded ops a.tmps) = true)
    (h : ∃ v w1, (execOp a.eval oi).run P w = .ok (.value v) w1 ∧ ∃ a', a.put N v = a' ∧ S w1 ∧ seqH P ops Q S fl a' w1) : seqH P ops Q S ((i, false) :: fl) a w := by
  obtain ⟨v, w1, hrun, a', ha, hS, h⟩ := h
  show wpOp P ops Q i _ a w
  unfold wpOp
  rw [hi]
  simp only [hw, if_true]
  refine .inl ?_
  unfold Oper.wp
  rw [hrun, Oper.upon_value, hN, ha]
  exact ⟨hS, h⟩
theorem seq_store {fl : List (Nat × Bool)} {i : Nat} {a : Act} {w : World} {oi : Oper} (N : Option Tmp) (hi : ops[i]? = some oi) (hN : oi.dst = N) (hw : Region.wanted oi (yielded ops a.tmps) = true)
    (h : ∃ w1, (execOp a.eval oi).run P w = .ok .skip w1 ∧ ∃ a', a.put N undef = a' ∧ S w1 ∧ seqH P ops Q S fl a' w1) : seqH P ops Q S ((i, false) :: fl) a w := by
  obtain ⟨w1, hrun, a', ha, hS, h⟩ := h
  show wpOp P ops Q i _ a w
  unfold wpOp
  rw [hi]
  simp only [hw, if_true]
  refine .inl ?_
  unfold Oper.wp
  rw [hrun, Oper.upon_skip, hN, ha]
  exact ⟨hS, h⟩
/-- Where an operation that may come up alone is not wanted. -/
theorem seq_skip1 {fl : List (Nat × Bool)} {i : Nat} {a a' : Act} {w : World} {oi : Oper} (N : Option Tmp) (hi : ops[i]? = some oi) (hN : oi.dst = N) (hw : Region.wanted oi (yielded ops a.tmps) = false)
    (ha : a.put N undef = a') (hS : S w) (h : seqH P ops Q S fl a' w) : seqH P ops Q S ((i, false) :: fl) a w := by
  show wpOp P ops Q i _ a w
  unfold wpOp
  rw [hi]
  simp only [hw, Bool.false_eq_true, if_false, hN, ha]
  exact ⟨hS, h⟩
end
end Go.Proofs.Ythhfcambdmdgfaa
