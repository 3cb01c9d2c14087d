import Derived.WalkKit
import Derived.KernelRfl
import Derived.WalkLawsBesides
import Derived.Outline
import Derived.Deep.QuietTactic
import Derived.BigQuiet
import Derived.Deep.RegionHeld3
import Derived.Deep.DeepFit
import Derived.Lib.OthersKept
import Derived.Lib.Hide
import Derived.Deep.CutBlock
import Derived.Deep.DeepCutAuto
import Derived.OrdersHeld
import Derived.OwnWalk
import Derived.Test.YthhfcambdmdgfaaProg
import Derived.Maps.Own
import Derived.Maps.OwnSet
import Derived.Maps.OwnOps
import Derived.Maps.Ext
import Derived.Sort.KeysCollected
import Derived.WideShapes
import Derived.Sort.Walk0
import Derived.Lib.Strings
import GoSem.Op.String
import Derived.Lib.IndexLaws
import Derived.Deep.AppendLies
import Derived.Maps.AppendAt
namespace Go.Proofs.Ythhfcambdmdgfaa
open Go.RowKit
theorem ret_bool {a b : Bool} (h : a = b) : Ending.returned (.bool a) = .returned (.bool b) := by rw [h]
theorem ret_int {k : IntKind} {a b : Int} (h : a = b) : Ending.returned (.int k a) = .returned (.int k b) := by rw [h]
theorem dn_self (w : World) : ∃ n, w = w.drewN n := ⟨0, rfl⟩
theorem blk_cell {w : World} {g : Nat} {cs : Array Value} {t : TypeId} {fz : Nat × Nat} (h : w.heap[g]? = some (.cells cs t fz)) (i : Nat) : w.cell? ⟨g, i, none⟩ = cs[i]? := by simp [World.cell?, h]
theorem blk_lt {w : World} {g : Nat} {o : Obj} (h : w.heap[g]? = some o) : g < w.heap.size := (Array.getElem?_eq_some_iff.1 h).1
theorem blk_new (w : World) (o : Obj) : (w.alloc o).heap[w.heap.size]? = some o := by show (w.heap.push o)[_]? = _; simp
theorem blk_old {w : World} {g : Nat} {o : Obj} (h : w.heap[g]? = some o) (o' : Obj) : (w.alloc o').heap[g]? = some o := (Below.heap_alloc w o' g (blk_lt h)).trans h
theorem blk_below {w w1 : World} {g : Nat} {o : Obj} (h : w.heap[g]? = some o) (hb : Below w.heap.size w w1) : w1.heap[g]? = some o := (hb.block g (blk_lt h)).trans h
theorem blk_drew {w : World} {g : Nat} {o : Obj} (h : w.heap[g]? = some o) : w.drew.heap[g]? = some o := h
theorem blk_new1 (w : World) (o o' : Obj) : ((w.alloc o).alloc o').heap[w.heap.size + 1]? = some o' := by have := blk_new (w.alloc o) o'; rwa [World.size_alloc] at this
theorem cb {W w1 : World} {a : Addr} {v : Value} (hb : Below W.heap.size W w1) (h : W.cell? a = some v) : w1.cell? a = some v := (hb.cell (World.block_lt_of_cell? W a h)).trans h
theorem dn_ex {w a : World} (h : ∃ n, a = w.drewN n) (k : Nat) : ∃ n, a.drewN k = w.drewN n := by
  obtain ⟨n, rfl⟩ := h
  exact ⟨n + k, by rw [World.drewN_drewN]⟩
/-- A byte of a string, as a number. -/
def byteAt (s : ByteArray) (i : Nat) : Int := if h : i < s.size then ((s[i]'h).toNat : Int) else 0
theorem byteAt_eq (s : ByteArray) (i : Nat) (h : i < s.size) : byteAt s i = ((s[i]'h).toNat : Int) := dif_pos h
theorem below_iter (w : World) (s : ByteArray) (pos : Nat) : Below w.heap.size w (w.iter s pos) := (Below.refl _ _).alloc (Nat.le_refl _) _
theorem bl_next {W a b : World} (h : Below W.heap.size W a) (hb : Below a.heap.size a b) : Below W.heap.size W b := h.trans (hb.mono h.size)
theorem bl_from {w W a : World} (h : Below w.heap.size w W) (hb : Below W.heap.size W a) : Below w.heap.size w a := h.trans (hb.mono h.size)
theorem blk_newAt (w : World) (o : Obj) {k : Nat} (h : k = w.heap.size) : (w.alloc o).heap[k]? = some o := by subst h; exact blk_new _ _
theorem blk_dN {w : World} {g : Nat} {o : Obj} (h : w.heap[g]? = some o) (n : Nat) : (w.drewN n).heap[g]? = some o := h
theorem blk_free {w : World} {g : Nat} {cs : Array Value} {t : TypeId} (h : w.heap[g]? = some (.cells cs t)) (j : Nat) : w.frozen? ⟨g, j, none⟩ = false := by simp [World.frozen?, h]
theorem lt_of_cell {w : World} {a : Addr} {v : Value} (h : w.cell? a = some v) : a.block < w.heap.size := World.block_lt_of_cell? w a h
theorem fb {W w1 : World} (hb : Below W.heap.size W w1) {a : Addr} (ha : a.block < W.heap.size) (h : W.frozen? a = false) : w1.frozen? a = false := (hb.frozen ha).trans h
theorem bl_dN {B : Nat} {a w : World} (h : Below B a w) (n : Nat) : Below B a (w.drewN n) := h.trans ⟨rfl, rfl, rfl, Nat.le_refl _, fun _ _ => rfl⟩
theorem name_calls {P : Program} {f : FuncId} {args : Array Value} {W : World} {Q : Ending → World → Prop} (h : ∀ W', W' = W → Calls P f args W' Q) : Calls P f args W Q := h W rfl
theorem name_wp {P : Program} {c : Code} {Q : Exit → Act → World → Prop} {a : Act} {W : World} (h : ∀ W', W' = W → c.wp P Q a W') : c.wp P Q a W := h W rfl
end Go.Proofs.Ythhfcambdmdgfaa
namespace Go.Proofs.Ythhfcambdmdgfaa
open Go.RowKit
section
variable {P : Program} {ops : Array Oper} {Q : Exit → Act → World → Prop} {S : World → Prop} {md : Region.Mode}
/-- May the operations be gone through in this order: true: one that yields, taken first; false: the only one that may come up. -/
def lin (md : Region.Mode) (ops : Array Oper) (listed : Array Bool) : List (Nat × Bool) → Bool
  | [] => Region.ready md ops listed == []
  | (i, true) :: fl => Region.noSelect ops && Region.free md ops listed i && (Region.ready md ops listed).contains i && lin md ops (listed.setIfInBounds i true) fl
  | (i, false) :: fl => (Region.ready md ops listed == [i]) && lin md ops (listed.setIfInBounds i true) fl
def seqH (P : Program) (ops : Array Oper) (Q : Exit → Act → World → Prop) (S : World → Prop) : List (Nat × Bool) → Act → World → Prop
  | [], a, w => Q .normal a w
  | (i, true) :: fl, a, w => ∃ oi v, ops[i]? = some oi ∧ YieldsIf P ops S oi v a ∧ seqH P ops Q S fl (a.put oi.dst v) w
  | (i, false) :: fl, a, w => wpOp P ops Q i (fun a' w' => S w' ∧ seqH P ops Q S fl a' w') a w
theorem put_panic (hQ : ∀ c (a : Act) t w, Q (.panic c) { a with tmps := t } w → Q (.panic c) a w) (d : Option Tmp) (v : Value) : ∀ c a w, Q (.panic c) (Act.put a d v) w → Q (.panic c) a w := fun c a w h => by
  cases d with
  | none => exact h
  | some d => exact hQ c a _ w h
theorem seqH_any (hQ : ∀ c (a : Act) t w, Q (.panic c) { a with tmps := t } w → Q (.panic c) a w) : ∀ (fl : List (Nat × Bool)) (listed : Array Bool) (a : Act) (w : World),
    lin md ops listed fl = true → S w → seqH P ops Q S fl a w → wpAnyH P md ops Q S fl.length listed a w
  | [], listed, a, w, hl, _, h => wpAnyH_done (by simpa [lin] using hl) h 0
  | (i, true) :: fl, listed, a, w, hl, hS, h => by
    simp only [lin, Bool.and_eq_true] at hl
    obtain ⟨oi, v, hi, hy, h⟩ := h
    exact wpAnyH_take hi hl.1.1.1 hl.1.1.2 hl.1.2 (put_panic hQ oi.dst v) hy hS (seqH_any hQ fl _ _ _ hl.2 hS h)
  | (i, false) :: fl, listed, a, w, hl, hS, h => by
    simp only [lin, Bool.and_eq_true, beq_iff_eq] at hl
    refine wpAnyH_all hl.1 (by simp) (fun j hj => ?_)
    obtain rfl : j = i := by simpa using hj
    have h' : wpOp P ops Q j (fun a' w' => S w' ∧ seqH P ops Q S fl a' w') a w := h
    refine wpOp_mono (K := fun a' w' => S w' ∧ seqH P ops Q S fl a' w') ?_ h'
    intro a' w' ⟨hS', h''⟩
    exact ⟨hS', seqH_any hQ fl _ _ _ hl.2 hS' h''⟩
theorem region_seq {id : Nat} {a : Act} {w : World} (S : World → Prop) (fl : List (Nat × Bool)) (hm : P.follows .mixedOrders = true) (hl : (lin .any ops (Array.replicate ops.size false) fl && (fl.length == ops.size)) = true)
    (hQ : ∀ c (a : Act) t w, Q (.panic c) { a with tmps := t } w → Q (.panic c) a w) (hS : S w.drew) (h : seqH P ops Q S fl a w.drew) : (Code.region id ops true).wp P Q a w := by
  simp only [Bool.and_eq_true, beq_iff_eq] at hl
  refine wp_region_held (S := S) hm ?_
  rw [← hl.2]
  exact seqH_any hQ fl _ _ _ (by rw [hl.2]; exact hl.1) hS h
theorem seq_done {a : Act} {w : World} (h : Q .normal a w) : seqH P ops Q S [] a w := h
theorem seq_take {fl : List (Nat × Bool)} {i : Nat} {a a' : Act} {w : World} {oi : Oper} {v : Value} (N : Option Tmp) (hi : ops[i]? = some oi) (hN : oi.dst = N) (hw : Region.wanted oi (yielded ops a.tmps) = true)
    (hv : ∀ w', S w' → (execOp a.eval oi).run P w' = .ok (.value v) w') (ha : a.put N v = a') (h : seqH P ops Q S fl a' w) : seqH P ops Q S ((i, true) :: fl) a w :=
  ⟨oi, v, hi, .inl ⟨hw, hv⟩, by rw [hN, ha]; exact h⟩
theorem seq_skip {fl : List (Nat × Bool)} {i : Nat} {a a' : Act} {w : World} {oi : Oper} (N : Option Tmp) (hi : ops[i]? = some oi) (hN : oi.dst = N) (hw : Region.wanted oi (yielded ops a.tmps) = false)
    (ha : a.put N undef = a') (h : seqH P ops Q S fl a' w) : seqH P ops Q S ((i, true) :: fl) a w :=
  ⟨oi, undef, hi, .inr ⟨hw, rfl⟩, by rw [hN, ha]; exact h⟩
theorem seq_call {fl : List (Nat × Bool)} {i : Nat} {a : Act} {w : World} {oi : Oper} {f : FuncId} {fn : Func} {ags : Array Operand} {ts : Array TypeId} (hf : P.funcs[f]? = some fn) (hname : (fn.name == "runtime.NumGoroutine") = false) (hb : fn.body.isSome = true)
    (N : Option Tmp) (args : Array Value) (hi : ops[i]? = some oi) (hN : oi.dst = N) (hw : Region.wanted oi (yielded ops a.tmps) = true) (hop : oi.op = .call { callee := .value (.func f), args := ags, argTypes := ts }) (hargs : ags.map a.eval = args)
    (h : Calls P f args w fun e w' => ∃ v, e = .returned v ∧ S w' ∧ seqH P ops Q S fl (a.put N v) w') : seqH P ops Q S ((i, false) :: fl) a w := by
  show wpOp P ops Q i _ a w
  unfold wpOp
  rw [hi]
  simp only [hw, if_true]
  refine .inl ?_
  have h1 : fn.name ≠ "runtime.NumGoroutine" := by simpa using hname
  obtain ⟨c, hc⟩ := Option.isSome_iff_exists.1 hb
  have he : (callFunc f args).run P w = .ok (.enter f args) w := by simp [callFunc, hf, h1, hc]
  have hrun : (execOp a.eval oi).run P w = .ok (.enter f args) w := by
    unfold execOp
    simp [hop, resolve, Deferred.ofValue, invoke, Act.eval, hargs, he]
  unfold Oper.wp
  rw [hrun, Oper.upon_enter]
  refine h.mono fun e w'' hh => ?_
  obtain ⟨v, rfl, hk⟩ := hh
  subst hN
  exact hk
/-- An operation of the call's own (an alloc, a box, a slice that is built). -/
theorem seq_op {fl : List (Nat × Bool)} {i : Nat} {a : Act} {w : World} {oi : Oper} (N : Option Tmp) (hi : ops[i]? = some oi) (hN : oi.dst = N) (hw : Region.wanted oi (yielded ops a.tmps) = true)
    (h : ∃ v w1, (execOp a.eval oi).run P w = .ok (.value v) w1 ∧ ∃ a', a.put N v = a' ∧ S w1 ∧ seqH P ops Q S fl a' w1) : seqH P ops Q S ((i, false) :: fl) a w := by
  obtain ⟨v, w1, hrun, a', ha, hS, h⟩ := h
  show wpOp P ops Q i _ a w
  unfold wpOp
  rw [hi]
  simp only [hw, if_true]
  refine .inl ?_
  unfold Oper.wp
  rw [hrun, Oper.upon_value, hN, ha]
  exact ⟨hS, h⟩
theorem seq_store {fl : List (Nat × Bool)} {i : Nat} {a : Act} {w : World} {oi : Oper} (N : Option Tmp) (hi : ops[i]? = some oi) (hN : oi.dst = N) (hw : Region.wanted oi (yielded ops a.tmps) = true)
    (h : ∃ w1, (execOp a.eval oi).run P w = .ok .skip w1 ∧ ∃ a', a.put N undef = a' ∧ S w1 ∧ seqH P ops Q S fl a' w1) : seqH P ops Q S ((i, false) :: fl) a w := by
  obtain ⟨w1, hrun, a', ha, hS, h⟩ := h
  show wpOp P ops Q i _ a w
  unfold wpOp
  rw [hi]
  simp only [hw, if_true]
  refine .inl ?_
  unfold Oper.wp
  rw [hrun, Oper.upon_skip, hN, ha]
  exact ⟨hS, h⟩
/-- Where an operation that may come up alone is not wanted. -/
theorem seq_skip1 {fl : List (Nat × Bool)} {i : Nat} {a a' : Act} {w : World} {oi : Oper} (N : Option Tmp) (hi : ops[i]? = some oi) (hN : oi.dst = N) (hw : Region.wanted oi (yielded ops a.tmps) = false)
    (ha : a.put N undef = a') (hS : S w) (h : seqH P ops Q S fl a' w) : seqH P ops Q S ((i, false) :: fl) a w := by
  show wpOp P ops Q i _ a w
  unfold wpOp
  rw [hi]
  simp only [hw, Bool.false_eq_true, if_false, hN, ha]
  exact ⟨hS, h⟩
end
end Go.Proofs.Ythhfcambdmdgfaa
namespace Go.Proofs.Ythhfcambdmdgfaa
open Go.RowKit
set_option linter.unusedVariables false
/-- All blocks but those of X are kept. -/
structure Kept (X : Nat → Prop) (w w' : World) : Prop where
  os : w'.os = w.os
  tape : w'.tape = w.tape
  output : w'.output = w.output
  size : w.heap.size ≤ w'.heap.size
  block : ∀ k, k < w.heap.size → ¬ X k → w'.heap[k]? = w.heap[k]?
theorem Kept.refl (X : Nat → Prop) (w : World) : Kept X w w := ⟨rfl, rfl, rfl, Nat.le_refl _, fun _ _ _ => rfl⟩
theorem kept_of_below {X : Nat → Prop} {w w' : World} (h : Below w.heap.size w w') : Kept X w w' := ⟨h.os, h.tape, h.output, h.size, fun k hk _ => h.block k hk⟩
theorem Kept.trans {X Y : Nat → Prop} {a b c : World} (h : Kept X a b) (k : Kept Y b c) (hY : ∀ n, Y n → X n ∨ a.heap.size ≤ n) : Kept X a c :=
  ⟨k.os.trans h.os, k.tape.trans h.tape, k.output.trans h.output, Nat.le_trans h.size k.size, fun n hn hx => by
    rw [k.block n (Nat.lt_of_lt_of_le hn h.size) (fun hy => (hY n hy).elim hx (fun q => by omega))]; exact h.block n hn hx⟩
theorem Kept.below {X : Nat → Prop} {B : Nat} {w w' : World} (h : Kept X w w') (hB : B ≤ w.heap.size) (hX : ∀ k, X k → B ≤ k) : Below B w w' :=
  ⟨h.os, h.tape, h.output, h.size, fun k hk => h.block k (Nat.lt_of_lt_of_le hk hB) (fun hx => by have := hX k hx; omega)⟩
theorem Kept.wider {X Y : Nat → Prop} {w w' : World} (h : Kept X w w') (hX : ∀ k, X k → Y k) : Kept Y w w' := ⟨h.os, h.tape, h.output, h.size, fun k hk hy => h.block k hk (fun hx => hy (hX k hx))⟩
theorem Kept.cell {X : Nat → Prop} {w w' : World} (h : Kept X w w') {a : Addr} {v : Value} (hc : w.cell? a = some v) (hx : ¬ X a.block) : w'.cell? a = some v := by
  rw [World.cell?_of_block (h.block a.block (lt_of_cell hc) hx)]; exact hc
theorem Kept.heap {X : Nat → Prop} {w w' : World} (h : Kept X w w') {b : Nat} {o : Obj} (hc : w.heap[b]? = some o) (hx : ¬ X b) : w'.heap[b]? = some o := by
  rw [h.block b (blk_lt hc) hx]; exact hc
theorem Kept.setCell {X : Nat → Prop} {a w : World} (h : Kept X a w) (p : Addr) (u : Value) (hp : X p.block ∨ a.heap.size ≤ p.block) : Kept X a (w.setCell p u) :=
  ⟨h.os, h.tape, h.output, by simpa using h.size, fun k hk hx => by
    rw [Below.heap_setCell w p u k (fun e => by subst e; rcases hp with q | q; exact hx q; omega)]; exact h.block k hk hx⟩
theorem Kept.alloc {X : Nat → Prop} {a w : World} (h : Kept X a w) (o : Obj) : Kept X a (w.alloc o) :=
  ⟨h.os, h.tape, h.output, by have := h.size; simp; omega, fun k hk hx => by rw [Below.heap_alloc w o k (Nat.lt_of_lt_of_le hk h.size)]; exact h.block k hk hx⟩
theorem Kept.drew {X : Nat → Prop} {a w : World} (h : Kept X a w) : Kept X a w.drew := ⟨h.os, h.tape, h.output, h.size, h.block⟩
theorem Kept.grown {X : Nat → Prop} {a w w' : World} {row : Option Nat} (h : Kept X a w) (hg : w.grownBy w' row) (hr : ∀ k, row = some k → X k ∨ a.heap.size ≤ k) : Kept X a w' :=
  ⟨hg.os.trans h.os, hg.tape.trans h.tape, hg.output.trans h.output, Nat.le_trans h.size hg.size, fun k hk hx => by
    rw [hg.block k (Nat.lt_of_lt_of_le hk h.size) (fun e => (hr k e.symm).elim hx (fun q => by omega))]; exact h.block k hk hx⟩
end Go.Proofs.Ythhfcambdmdgfaa
namespace Go.Proofs.Ythhfcambdmdgfaa
open Go.RowKit Go.Maps
set_option linter.unusedVariables false
set_option linter.unusedSimpArgs false
def RV (v : Value) : Option (DataW Value × List MemPlace) := some (.held v, [])
/-- What stands at a key; z: nothing. -/
def valAt (D : DataW Value) (k : Lit) (z : Value) : Value := match D.atKey k (.held z) with | .held v => v | _ => z
section
variable {P : Program} {w : World} {K : TypeId} {b n : Nat} {D : DataW Value}
theorem mv_tight (h : w.ownsMap P K RV b n D) : w.ownsMap P K RV b (Maps.size D) D := by
  obtain ⟨es, clock, hb, F, hs, rfl⟩ := h
  exact ⟨es, clock, hb, F, by simp [Maps.size, length_sorted], rfl⟩
theorem mv_look_ok {t e : TypeId} (h : w.ownsMap P K RV b n D) (Kk : Keyed P K) (ht : P.underlying t = some (.map K e)) {z : Value} (hz : (zeroValue e).run P w = .ok z w) {key : Value} {kl : Lit} (hkey : keyOf P K key = some kl) :
    (Instr.lookup t (.map (some b)) key true).run P w = .ok (.tuple #[valAt D kl z, .bool (Maps.has D kl)]) w := by
  obtain ⟨v, ps, hrun, hv⟩ := h.look_ok (zd := .held z) (zp := []) Kk ht hz rfl hkey
  have e : valAt D kl z = v := by
    unfold valAt
    have := congrArg (fun o => o.map Prod.fst) hv
    simp only [RV, Option.map_some, Option.some.injEq] at this
    rw [← this]
  rw [e]; exact hrun
theorem mv_kept {X : Nat → Prop} {w' : World} (h : w.ownsMap P K RV b n D) (hk : Kept X w w') (hx : ¬ X b) : w'.ownsMap P K RV b n D := by
  obtain ⟨es, clock, hb, r⟩ := h
  exact ⟨es, clock, hk.heap hb hx, r⟩
theorem mv_below {w' : World} (h : w.ownsMap P K RV b n D) (hb : Below w.heap.size w w') : w'.ownsMap P K RV b n D := mv_kept h (kept_of_below (X := fun _ => False) hb) (fun q => q)
theorem mv_other {c : Array Value} {T : TypeId} (h : w.ownsMap P K RV b n D) {k : Nat} (hc : w.heap[k]? = some (.cells c T)) : k ≠ b := by
  rintro rfl
  obtain ⟨es, clock, hb, _⟩ := h
  rw [hb] at hc; cases hc
theorem kept_turned {w' : World} (h : w.mapTurned w' b) : Kept (fun k => k = b) w w' := by
  have hg := h.grown
  exact ⟨hg.os, hg.tape, hg.output, hg.size, fun k hk hx => hg.block k hk (fun e => hx (Option.some.inj e))⟩
end
end Go.Proofs.Ythhfcambdmdgfaa
namespace Go.Proofs.Ythhfcambdmdgfaa
open Go.RowKit Go.Maps
set_option linter.unusedVariables false
set_option linter.unusedSimpArgs false
set_option linter.unusedSectionVars false
abbrev AM (κ β : Type) := List (κ × β)
structure Strict {κ : Type} (lt : κ → κ → Bool) : Prop where
  irrefl : ∀ a, lt a a = false
  trans : ∀ {a b c}, lt a b = true → lt b c = true → lt a c = true
  total : ∀ {a b}, a ≠ b → lt a b = true ∨ lt b a = true
section
variable {κ β : Type} [DecidableEq κ]
def hasA (M : AM κ β) (k : κ) : Bool := M.any fun p => decide (p.1 = k)
def getA (M : AM κ β) (k : κ) : Option β := (M.find? fun p => decide (p.1 = k)).map (·.2)
def delA (M : AM κ β) (k : κ) : AM κ β := M.filter fun p => !decide (p.1 = k)
def insA (lt : κ → κ → Bool) : AM κ β → κ → β → AM κ β
  | [], k, v => [(k, v)]
  | y :: r, k, v => if lt k y.1 then (k, v) :: y :: r else y :: insA lt r k v
def putA (lt : κ → κ → Bool) (M : AM κ β) (k : κ) (v : β) : AM κ β := insA lt (delA M k) k v
def RiseA (lt : κ → κ → Bool) (M : AM κ β) : Prop := M.Pairwise fun p q => lt p.1 q.1 = true
def keysA (M : AM κ β) : List κ := M.map (·.1)
theorem getA_cons (p : κ × β) (M : AM κ β) (k : κ) : getA (p :: M) k = if p.1 = k then some p.2 else getA M k := by
  unfold getA
  by_cases h : p.1 = k
  · rw [List.find?_cons_of_pos (by simp [h]), if_pos h]; rfl
  · rw [List.find?_cons_of_neg (by simpa using h), if_neg h]
theorem hasA_get (M : AM κ β) (k : κ) : hasA M k = (getA M k).isSome := by
  induction M with
  | nil => rfl
  | cons p r ih =>
    rw [getA_cons]
    unfold hasA at ih ⊢
    rw [List.any_cons, ih]
    by_cases h : p.1 = k <;> simp [h]
theorem getA_del (M : AM κ β) (k x : κ) : getA (delA M k) x = if x = k then none else getA M x := by
  induction M with
  | nil => simp [delA, getA]
  | cons p r ih =>
    unfold delA at ih ⊢
    by_cases h : p.1 = k
    · rw [List.filter_cons_of_neg (by simp [h]), ih, getA_cons]
      by_cases hx : x = k
      · simp [hx]
      · rw [if_neg hx, if_neg hx, if_neg (by rw [h]; exact fun e => hx e.symm)]
    · rw [List.filter_cons_of_pos (by simp [h]), getA_cons, getA_cons, ih]
      by_cases hx : x = k
      · subst hx; simp [h]
      · simp [hx]
theorem getA_ins (lt : κ → κ → Bool) (M : AM κ β) (k : κ) (v : β) (h : getA M k = none) (x : κ) : getA (insA lt M k v) x = if x = k then some v else getA M x := by
  induction M with
  | nil =>
    unfold insA; rw [getA_cons]
    by_cases e : x = k
    · simp [e]
    · rw [if_neg (fun q => e q.symm), if_neg e]
  | cons p r ih =>
    rw [getA_cons] at h
    have hpk : p.1 ≠ k := by rintro e; rw [if_pos e] at h; cases h
    rw [if_neg hpk] at h
    unfold insA
    split
    · rw [getA_cons]
      by_cases e : x = k
      · simp [e]
      · simp only; rw [if_neg (fun q => e q.symm), if_neg e]
    · rw [getA_cons, getA_cons, ih h]
      by_cases e : x = k
      · subst e; rw [if_neg hpk, if_pos rfl, if_pos rfl]
      · rw [if_neg e, if_neg e]
theorem getA_put (lt : κ → κ → Bool) (M : AM κ β) (k : κ) (v : β) (x : κ) : getA (putA lt M k v) x = if x = k then some v else getA M x := by
  unfold putA
  rw [getA_ins lt _ k v (by rw [getA_del, if_pos rfl]), getA_del]
  split <;> rfl
theorem mem_ins {lt : κ → κ → Bool} {M : AM κ β} {k : κ} {v : β} {q : κ × β} : q ∈ insA lt M k v ↔ q = (k, v) ∨ q ∈ M := by
  induction M with
  | nil => simp [insA]
  | cons y r ih =>
    unfold insA
    split
    · simp
    · simp [ih]; constructor
      · rintro (h | h | h) <;> simp [h]
      · rintro (h | h | h) <;> simp [h]
theorem ins_len (lt : κ → κ → Bool) (M : AM κ β) (k : κ) (v : β) : (insA lt M k v).length = M.length + 1 := by
  induction M with
  | nil => rfl
  | cons y r ih => unfold insA; split <;> simp [ih]
theorem del_le (M : AM κ β) (k : κ) : (delA M k).length ≤ M.length := List.length_filter_le _ _
theorem put_le (lt : κ → κ → Bool) (M : AM κ β) (k : κ) (v : β) : (putA lt M k v).length ≤ M.length + 1 := by
  unfold putA; rw [ins_len]; have := del_le M k; omega
theorem mem_del {M : AM κ β} {k : κ} {q : κ × β} : q ∈ delA M k ↔ q ∈ M ∧ q.1 ≠ k := by simp [delA]
theorem mem_put {lt : κ → κ → Bool} {M : AM κ β} {k : κ} {v : β} {q : κ × β} : q ∈ putA lt M k v ↔ q = (k, v) ∨ (q ∈ M ∧ q.1 ≠ k) := by unfold putA; rw [mem_ins, mem_del]
section
variable {lt : κ → κ → Bool} (O : Strict lt)
include O
theorem Strict.ne {a b : κ} (h : lt a b = true) : a ≠ b := by rintro rfl; rw [O.irrefl] at h; cases h
theorem rise_ins {M : AM κ β} (h : RiseA lt M) {k : κ} {v : β} (hk : getA M k = none) : RiseA lt (insA lt M k v) := by
  induction M with
  | nil => exact List.pairwise_singleton _ _
  | cons y r ih =>
    rw [RiseA, List.pairwise_cons] at h
    rw [getA_cons] at hk
    have hne : y.1 ≠ k := by rintro e; rw [if_pos e] at hk; cases hk
    rw [if_neg hne] at hk
    unfold insA
    split
    · rename_i hl
      refine List.pairwise_cons.2 ⟨fun q hq => ?_, List.pairwise_cons.2 h⟩
      rcases List.mem_cons.1 hq with rfl | hq
      · exact hl
      · exact O.trans hl (h.1 _ hq)
    · rename_i hl
      refine List.pairwise_cons.2 ⟨fun q hq => ?_, ih h.2 hk⟩
      rcases mem_ins.1 hq with rfl | hq
      · rcases O.total hne with q | q
        · exact q
        · exact absurd q hl
      · exact h.1 _ hq
theorem rise_del {M : AM κ β} (h : RiseA lt M) (k : κ) : RiseA lt (delA M k) := List.Pairwise.filter _ h
theorem rise_put {M : AM κ β} (h : RiseA lt M) (k : κ) (v : β) : RiseA lt (putA lt M k v) := rise_ins O (rise_del O h k) (by rw [getA_del, if_pos rfl])
theorem get_mem {M : AM κ β} (h : RiseA lt M) {k : κ} {v : β} : getA M k = some v ↔ (k, v) ∈ M := by
  induction M with
  | nil => simp [getA]
  | cons y r ih =>
    rw [RiseA, List.pairwise_cons] at h
    rw [getA_cons]
    by_cases e : y.1 = k
    · rw [if_pos e]
      constructor
      · intro q; cases q; subst e; exact List.mem_cons_self
      · intro q
        rcases List.mem_cons.1 q with rfl | q
        · rfl
        · have := h.1 _ q; rw [e] at this; exact absurd rfl (O.ne this)
    · rw [if_neg e, ih h.2]
      constructor
      · exact List.mem_cons_of_mem _
      · intro q
        rcases List.mem_cons.1 q with rfl | q
        · exact absurd rfl e
        · exact q
theorem keys_nodup {M : AM κ β} (h : RiseA lt M) : (keysA M).Nodup := by
  unfold keysA List.Nodup
  rw [List.pairwise_map]
  exact h.imp fun q => O.ne q
end
structure KeyLit (ek : κ → Lit) (lt : κ → κ → Bool) : Prop where
  same : ∀ a b, (ek a).sameKey (ek b) = decide (a = b)
  before : ∀ a b, (ek a).before (ek b) = lt a b
def dmA (ek : κ → Lit) (ev : β → Value) (M : AM κ β) : DataW Value := .map (M.map fun p => (ek p.1, .held (ev p.2)))
section
variable {ek : κ → Lit} {lt : κ → κ → Bool} (hk : KeyLit ek lt) (ev : β → Value)
include hk
theorem has_dmA (M : AM κ β) (k : κ) : Maps.has (dmA ek ev M) (ek k) = hasA M k := by
  show (M.map (fun p : κ × β => ((ek p.1, DataW.held (ev p.2)) : Lit × DataW Value))).any (fun p => p.1.sameKey (ek k)) = _
  rw [List.any_map]
  unfold hasA
  congr 1; funext p; exact hk.same _ _
theorem val_dmA (M : AM κ β) (k : κ) (z : Value) : valAt (dmA ek ev M) (ek k) z = ((getA M k).map ev).getD z := by
  unfold valAt dmA DataW.atKey getA
  simp only
  rw [List.find?_map]
  have e : ((fun p : Lit × DataW Value => p.1.sameKey (ek k)) ∘ fun p : κ × β => (ek p.1, DataW.held (ev p.2))) = fun p => decide (p.1 = k) := by funext p; exact hk.same _ _
  rw [e]
  cases M.find? (fun p => decide (p.1 = k)) <;> rfl
theorem size_dmA (M : AM κ β) : Maps.size (dmA ek ev M) = M.length := by simp [dmA, Maps.size]
theorem filter_dmA (M : AM κ β) (k : κ) : (M.map fun p : κ × β => (ek p.1, DataW.held (ev p.2))).filter (fun p => !p.1.sameKey (ek k)) = (delA M k).map fun p : κ × β => (ek p.1, DataW.held (ev p.2)) := by
  rw [List.filter_map]
  unfold delA
  congr 2; funext p; show (!(ek p.1).sameKey (ek k)) = _; rw [hk.same]
theorem del_dmA (M : AM κ β) (k : κ) : (dmA ek ev M).del (ek k) = dmA ek ev (delA M k) := by
  show DataW.map _ = _
  rw [filter_dmA hk]; rfl
theorem insert_dmA : ∀ (M : AM κ β) (k : κ) (v : β), DataW.insert (ek k, DataW.held (ev v)) (M.map fun p : κ × β => (ek p.1, DataW.held (ev p.2))) = (insA lt M k v).map fun p : κ × β => (ek p.1, DataW.held (ev p.2))
  | [], _, _ => rfl
  | y :: r, k, v => by
    have h : (ek k).before (ek y.1) = lt k y.1 := hk.before _ _
    simp only [List.map_cons, DataW.insert, insA]
    rw [h]
    split
    · rfl
    · rw [List.map_cons, insert_dmA r k v]
theorem put_dmA (M : AM κ β) (k : κ) (v : β) : (dmA ek ev M).put (ek k) (.held (ev v)) = dmA ek ev (putA lt M k v) := by
  show DataW.map (DataW.insert _ _) = _
  rw [filter_dmA hk, insert_dmA hk]; rfl
end
end
end Go.Proofs.Ythhfcambdmdgfaa
namespace Go.Proofs.Ythhfcambdmdgfaa
set_option linter.unusedVariables false
set_option linter.unusedSimpArgs false
theorem bytes_eq : ∀ (x y : List UInt8), bytesBefore x y = Op.bytesLess x y
  | [], [] => rfl
  | [], _ :: _ => rfl
  | _ :: _, [] => rfl
  | a :: x, b :: y => by simp only [bytesBefore, Op.bytesLess, bytes_eq x y]
def ltB (a b : ByteArray) : Bool := Op.bytesLess a.toList b.toList
theorem ltB_eq (a b : ByteArray) : ltB a b = bytesBefore a.data.toList b.data.toList := by unfold ltB; rw [Lib.toList_data, Lib.toList_data, bytes_eq]
theorem data_inj {a b : ByteArray} (h : a.data.toList = b.data.toList) : a = b := by
  cases a; cases b; simp at h; subst h; rfl
theorem ltB_irrefl (a : ByteArray) : ltB a a = false := by rw [ltB_eq]; exact WideAt.bytes_irrefl _
theorem ltB_total {a b : ByteArray} (h : a ≠ b) : ltB a b = true ∨ ltB b a = true := by
  rw [ltB_eq, ltB_eq]; exact WideAt.bytes_total _ _ (fun e => h (data_inj e))
theorem ltB_trans {a b c : ByteArray} (h : ltB a b = true) (k : ltB b c = true) : ltB a c = true := by
  rw [ltB_eq] at *; exact WideShapes.bytes_trans _ _ _ h k
theorem ltB_asymm {a b : ByteArray} (h : ltB a b = true) : ltB b a = false := by
  cases k : ltB b a with
  | false => rfl
  | true => have := ltB_trans h k; rw [ltB_irrefl] at this; cases this
abbrev Nodes := List (ByteArray × ByteArray)
def Rising (N : Nodes) : Prop := N.Pairwise fun p q => ltB p.1 q.1 = true
end Go.Proofs.Ythhfcambdmdgfaa
namespace Go.Proofs.Ythhfcambdmdgfaa
theorem bl_diff : ∀ (k : Nat) (l m : List UInt8), l.take k = m.take k → ∀ (h1 : k < l.length) (h2 : k < m.length), l[k] ≠ m[k] → Op.bytesLess l m = decide (l[k] < m[k])
  | _, [], _, _, h1, _, _ => by simp at h1
  | _, _ :: _, [], _, _, h2, _ => by simp at h2
  | 0, a :: l, b :: m, _, _, _, hn => by
    have : (a == b) = false := by simpa using hn
    simp [Op.bytesLess, this]
  | k + 1, a :: l, b :: m, he, h1, h2, hn => by
    simp only [List.take_succ_cons, List.cons.injEq] at he
    obtain ⟨rfl, he⟩ := he
    have := bl_diff k l m he (by simpa using h1) (by simpa using h2) (by simpa using hn)
    simp [Op.bytesLess, this]
theorem bl_end : ∀ (k : Nat) (l m : List UInt8), l.take k = m.take k → k ≤ l.length → k ≤ m.length → (k = l.length ∨ k = m.length) → Op.bytesLess l m = decide (l.length < m.length)
  | _, [], [], _, _, _, _ => by simp [Op.bytesLess]
  | _, [], _ :: _, _, _, _, _ => by simp [Op.bytesLess]
  | _, _ :: _, [], _, _, _, _ => by simp [Op.bytesLess]
  | 0, a :: l, b :: m, _, _, _, h => by simp at h
  | k + 1, a :: l, b :: m, he, h1, h2, h => by
    simp only [List.take_succ_cons, List.cons.injEq] at he
    obtain ⟨rfl, he⟩ := he
    have := bl_end k l m he (by simpa using h1) (by simpa using h2) (by simpa using h)
    simp [Op.bytesLess, this]
theorem bless_diff (a b : ByteArray) (k : Nat) (he : a.data.toList.take k = b.data.toList.take k) (h1 : k < a.size) (h2 : k < b.size) (hn : ((a[k]'h1).toNat : Int) ≠ ((b[k]'h2).toNat : Int)) :
    Op.bytesLess a.toList b.toList = decide (((a[k]'h1).toNat : Int) < ((b[k]'h2).toNat : Int)) := by
  rw [Lib.toList_data, Lib.toList_data, bl_diff k _ _ he (by simpa using h1) (by simpa using h2)]
  · have e : ∀ x y : UInt8, (x < y) = ((x.toNat : Int) < (y.toNat : Int)) := fun x y => by rw [UInt8.lt_iff_toNat_lt]; simp
    simp [e, ByteArray.getElem_eq_getElem_data]
  · intro h
    apply hn
    simp only [ByteArray.getElem_eq_getElem_data]
    simpa using congrArg (fun x : UInt8 => (x.toNat : Int)) h
theorem bless_end (a b : ByteArray) (k : Nat) (he : a.data.toList.take k = b.data.toList.take k) (h1 : k ≤ a.size) (h2 : k ≤ b.size) (h : k = a.size ∨ k = b.size) :
    Op.bytesLess a.toList b.toList = decide (a.size < b.size) := by
  rw [Lib.toList_data, Lib.toList_data, bl_end k _ _ he (by simpa using h1) (by simpa using h2) (by simpa using h)]
  simp
theorem take_snoc (s : ByteArray) (k : Nat) (h : k < s.size) : s.data.toList.take (k + 1) = s.data.toList.take k ++ [s[k]] := by
  rw [List.take_succ_eq_append_getElem (by simpa using h)]; rfl
theorem u8_of_int {a b : UInt8} (h : (a.toNat : Int) = (b.toNat : Int)) : a = b := UInt8.toNat_inj.1 (by omega)
/-- Where a byte is first, from a place on; the text's end, if it is nowhere. -/
def findAt (s : ByteArray) (c : UInt8) (i : Nat) : Nat := if h : i < s.size then (if s[i] = c then i else findAt s c (i + 1)) else s.size
termination_by s.size - i
theorem findAt_lt (s : ByteArray) (c : UInt8) (i : Nat) (h : i < s.size) : findAt s c i = if s[i] = c then i else findAt s c (i + 1) := by
  rw [findAt, dif_pos h]
theorem findAt_end (s : ByteArray) (c : UInt8) (i : Nat) (h : s.size ≤ i) : findAt s c i = s.size := by
  rw [findAt, dif_neg (by omega)]
theorem findAt_le (s : ByteArray) (c : UInt8) (i : Nat) : findAt s c i ≤ s.size := by
  by_cases h : i < s.size
  · rw [findAt_lt s c i h]
    split
    · omega
    · exact findAt_le s c (i + 1)
  · rw [findAt_end s c i (by omega)]
    exact Nat.le_refl _
termination_by s.size - i
theorem findAt_is (s : ByteArray) (c : UInt8) (i : Nat) (hlt : findAt s c i < s.size) : s[findAt s c i] = c := by
  by_cases h1 : i < s.size
  · have e := findAt_lt s c i h1
    by_cases h2 : s[i] = c
    · rw [if_pos h2] at e; simp only [e]; exact h2
    · rw [if_neg h2] at e; have h3 : findAt s c (i + 1) < s.size := by omega
      have := findAt_is s c (i + 1) h3
      simp only [e]; exact this
  · rw [findAt_end s c i (by omega)] at hlt; omega
termination_by s.size - i
theorem findAt_none (s : ByteArray) (c : UInt8) (i : Nat) : ∀ j (_ : i ≤ j) (h : j < findAt s c i), s[j]'(by have := findAt_le s c i; omega) ≠ c := by
  intro j hj h
  have hle := findAt_le s c i
  by_cases h1 : i < s.size
  · have e := findAt_lt s c i h1
    by_cases h2 : s[i] = c
    · rw [if_pos h2] at e; omega
    · rw [if_neg h2] at e
      by_cases h3 : i = j
      · subst h3; exact h2
      · exact findAt_none s c (i + 1) j (by omega) (by omega)
  · omega
termination_by s.size - i
theorem findAt_unique (s : ByteArray) (c : UInt8) (k : Nat) (hk : k < s.size) (h1 : s[k] = c) (h2 : ∀ j (h : j < k), s[j]'(by omega) ≠ c) : findAt s c 0 = k := by
  rcases Nat.lt_trichotomy (findAt s c 0) k with h | h | h
  · exact absurd (findAt_is s c 0 (by omega)) (h2 _ h)
  · exact h
  · exact absurd h1 (findAt_none s c 0 k (by omega) h)
/-- What is ahead of the first c, and what is behind it. -/
def cutA (s : ByteArray) (c : UInt8) : ByteArray := s.extract 0 (findAt s c 0)
def cutB (s : ByteArray) (c : UInt8) : ByteArray := s.extract (findAt s c 0 + 1) s.size
end Go.Proofs.Ythhfcambdmdgfaa
namespace Go.Proofs.Ythhfcambdmdgfaa
open Go.RowKit
def signB (c : Int) : Bool := (decide (97 ≤ c) && decide (c ≤ 122)) || (decide (48 ≤ c) && decide (c ≤ 57)) || (c == 45)
theorem sign_calls (c : Int) (w : World) :
    Calls Try.prog 107 #[.int .i32 c] w fun e w' => e = .returned (.bool (signB c)) ∧ w = w' := by
  go_enter Try.func107, Try.ntmps107
  by_cases h1 : 97 ≤ c <;> by_cases h2 : c ≤ 122 <;> by_cases h3 : 48 ≤ c <;> by_cases h4 : c ≤ 57
  all_goals
    go_wp2
    go_ret
    exact ⟨ret_bool (by simp [signB, *] <;> omega), rfl⟩
def lettersTo (s : ByteArray) (n : Nat) : Bool := (s.data.toList.take n).all fun b => signB b.toNat
theorem lettersTo_snoc (s : ByteArray) (n : Nat) (h : n < s.size) : lettersTo s (n + 1) = (lettersTo s n && signB ((s[n]'h).toNat : Int)) := by
  unfold lettersTo
  rw [List.take_succ_eq_append_getElem (by simpa using h), List.all_append]
  simp [ByteArray.getElem_eq_getElem_data]
theorem lettersTo_mono (s : ByteArray) (n m : Nat) (h : n ≤ m) (hm : lettersTo s m = true) : lettersTo s n = true := by
  unfold lettersTo at *
  rw [List.all_eq_true] at *
  exact fun x hx => hm x ((List.take_sublist_take_left h).subset hx)
/-- Is a text a label? -/
def rightB (s : ByteArray) : Bool := lettersTo s s.size && decide (1 ≤ s.size) && decide (s.size ≤ 24) && !(byteAt s 0 == 45) && !(byteAt s (s.size - 1) == 45)
theorem sign_high (c : Nat) (h : 128 ≤ c) : signB (c : Int) = false := by simp [signB]; omega
theorem right_no (s : ByteArray) (n : Nat) (h : n < s.size) (hs : signB ((s[n]'h).toNat : Int) = false) : rightB s = false := by
  have : lettersTo s s.size = false := by
    cases hl : lettersTo s s.size with
    | false => rfl
    | true => have := lettersTo_mono s (n + 1) s.size (by omega) hl; rw [lettersTo_snoc s n h, hs] at this; simp at this
  simp [rightB, this]
theorem sign_decode (s : ByteArray) (pos : Nat) (h : pos < s.size) (hd : signB ((Utf8.decode s pos).1 : Int) = true) : signB ((s[pos]'h).toNat : Int) = true ∧ (Utf8.decode s pos).2 = 1 := by
  by_cases ha : (s[pos]'h).toNat < 128
  · rw [decode_ascii s pos h ha] at *; exact ⟨hd, rfl⟩
  · rw [sign_high _ (decode_high s pos h (by omega)).1] at hd; simp at hd
theorem sign_decode_no (s : ByteArray) (pos : Nat) (h : pos < s.size) (hd : signB ((Utf8.decode s pos).1 : Int) = false) : signB ((s[pos]'h).toNat : Int) = false := by
  by_cases ha : (s[pos]'h).toNat < 128
  · rw [decode_ascii s pos h ha] at *; exact hd
  · exact sign_high _ (by omega)
theorem right_short (s : ByteArray) (h : s.size < 1 ∨ 24 < s.size) : rightB s = false := by rcases h with h | h <;> simp [rightB] <;> omega
theorem right_bytes (s : ByteArray) (h1 : 1 ≤ s.size) (h2 : s.size ≤ 24) (hl : lettersTo s s.size = true) : rightB s = (!(byteAt s 0 == 45) && !(byteAt s (s.size - 1) == 45)) := by simp [rightB, hl, h1, h2]
set_option maxRecDepth 100000 in
theorem right_calls (s : ByteArray) (w : World) (hs : s.size ≤ 140737488355328) :
    Calls Try.prog 89 #[.string s] w fun e w' => e = .returned (.bool (rightB s)) ∧ Below w.heap.size w w' := by
  go_enter Try.func89, Try.ntmps89
  go_wp2
  go_loopw [4] (fun _ w' => ∃ pos : Nat, w' = w.iter s pos ∧ pos ≤ s.size ∧ lettersTo s pos = true) (fun _ w' => s.size - w'.iterPos w.heap.size)
  case atStart => exact ⟨0, rfl, by omega, rfl⟩
  case round =>
    obtain ⟨pos, rfl, hp, hl⟩ := hrel
    by_cases hlt : pos < s.size
    · have hnx : ∀ ty, (Instr.next (.pointer (some ⟨w.heap.size, 0, none⟩)) true ty).run Try.prog (w.iter s pos) = _ := fun ty => run_next_any w s pos ty hlt
      generalize hd : signB ((Utf8.decode s pos).1 : Int) = d
      have HD := Lib.hid hd; clear hd
      have HL := Lib.hid hl; clear hl
      cases d with
      | true =>
        go_wp2_with (go_at_call 107; refine (sign_calls _ _).mono ?_; rintro e w' ⟨rfl, rfl⟩; rw [HD.out])
        have hsd := sign_decode s pos hlt HD.out
        go_roundw
        case rel => exact ⟨pos + 1, by rw [hsd.2], by omega, by rw [lettersTo_snoc s pos hlt, HL.out, hsd.1]; rfl⟩
        case measure => simp; omega
      | false =>
        go_wp2_with (go_at_call 107; refine (sign_calls _ _).mono ?_; rintro e w' ⟨rfl, rfl⟩; rw [HD.out])
        go_ret
        exact ⟨ret_bool (right_no s pos hlt (sign_decode_no s pos hlt HD.out)).symm, below_iter _ _ _⟩
    · have hnx : ∀ ty, (Instr.next (.pointer (some ⟨w.heap.size, 0, none⟩)) true ty).run Try.prog (w.iter s pos) = _ := fun ty => run_next_end w s pos ty hlt
      obtain rfl : pos = s.size := by omega
      have HL := Lib.hid hl; clear hl
      by_cases h1 : 1 ≤ s.size <;> by_cases h2 : s.size ≤ 24
      all_goals go_wp2
      all_goals go_ret
      · exact ⟨ret_bool (by rw [right_bytes s h1 h2 HL.out, byteAt_eq s 0 ‹_›]; simp [*]), below_iter _ _ _⟩
      · exact ⟨ret_bool (by rw [right_bytes s h1 h2 HL.out, byteAt_eq s 0 ‹_›, byteAt_eq s (s.size - 1) (by omega)]; simp [bne]), below_iter _ _ _⟩
      all_goals exact ⟨ret_bool (right_short s (by omega)).symm, below_iter _ _ _⟩
set_option maxHeartbeats 400000 in
theorem before_calls (a b : ByteArray) (w : World) (ha : a.size ≤ 1073741824000) (hb : b.size ≤ 1073741824000) :
    Calls Try.prog 81 #[.string a, .string b] w fun e w' => e = .returned (.bool (Op.bytesLess a.toList b.toList)) ∧ ∃ n, w' = w.drewN n := by
  go_enter Try.func81, Try.ntmps81
  go_wp2
  go_loopw [5] (fun i wr => ∃ k : Nat, i = .int .i64 k ∧ k ≤ a.size ∧ k ≤ b.size ∧ (a.data.toList.take k = b.data.toList.take k) ∧ ∃ n, wr = w.drewN n) (fun i _ => a.size - (intOf i).toNat)
  case atStart => exact ⟨0, rfl, by omega, by omega, rfl, 0, rfl⟩
  case round =>
    obtain ⟨k, rfl, h1, h2, heq, nd, rfl⟩ := hrel
    have HE := Lib.hid heq; clear heq
    by_cases g1 : k < a.size
    · by_cases g2 : k < b.size
      · go_wp2
        go_quiet (fail)
        go_wp2
        · go_quiet (fail)
          go_wp2
          go_ret
          have hne : ((a[k]'g1).toNat : Int) ≠ ((b[k]'g2).toNat : Int) := by have h : ((a[k]'g1).toNat : Int) != ((b[k]'g2).toNat : Int) := by assumption
                                                                             simpa using h
          exact ⟨ret_bool ((bless_diff a b k HE.out g1 g2 hne).trans (by simp)).symm, dn_ex (dn_ex ⟨_, rfl⟩ _) _⟩
        · go_roundw
          have heq : ((a[k]'g1).toNat : Int) = ((b[k]'g2).toNat : Int) := by have h : (((a[k]'g1).toNat : Int) != ((b[k]'g2).toNat : Int)) = false := by assumption
                                                                             simpa using h
          case rel => exact ⟨k + 1, by go_num, by omega, by omega, by rw [take_snoc a k g1, take_snoc b k g2, HE.out, u8_of_int heq], _, rfl⟩
          case measure => simp [intOf]; omega
      · go_wp2
        go_ret
        exact ⟨ret_bool (by rw [bless_end a b k HE.out h1 h2 (by omega)]), _, rfl⟩
    · go_wp2
      go_ret
      exact ⟨ret_bool (by rw [bless_end a b k HE.out h1 h2 (by omega)]), _, rfl⟩
set_option maxHeartbeats 800000 in
theorem refRight_calls (s : ByteArray) (w : World) (hs : s.size ≤ 1073741824000) :
    Calls Try.prog 86 #[.string s] w fun e w' => e = .returned (.bool (rightB s)) ∧ ∃ n, w' = w.drewN n := by
  go_enter Try.func86, Try.ntmps86
  by_cases h1 : 1 ≤ s.size
  · by_cases h2 : s.size ≤ 24
    · go_wp2
      go_loop [4, 5] (fun i _ => ∃ k : Nat, i = .int .i64 k ∧ k ≤ s.size ∧ lettersTo s k = true) (fun i _ => s.size - (intOf i).toNat)
      case atStart => exact ⟨0, rfl, by omega, rfl⟩
      case round =>
        obtain ⟨k, rfl, hk, hl⟩ := hrel
        have HL := Lib.hid hl; clear hl
        by_cases hlt : k < s.size
        · go_wp2
          all_goals first | (go_round; (case rel => exact ⟨k + 1, by go_num, by omega, by rw [lettersTo_snoc s k hlt, HL.out]; simp only [Bool.true_and]; clear HL; simp_all [signB] <;> omega⟩); (case measure => simp [intOf]; omega)) | (go_ret; exact ⟨ret_bool (right_no s k hlt (by clear HL; simp_all [signB] <;> omega)).symm, dn_self _⟩)
        · obtain rfl : k = s.size := by omega
          go_wp2
          · go_ret
            exact ⟨ret_bool (by rw [right_bytes s h1 h2 HL.out, byteAt_eq s 0 ‹_›]; simp [*]), dn_self _⟩
          · go_ret
            exact ⟨ret_bool (by rw [right_bytes s h1 h2 HL.out, byteAt_eq s 0 ‹_›, byteAt_eq s (s.size - 1) (by omega)]; simp [bne]), dn_self _⟩
    · go_wp2
      go_ret
      exact ⟨ret_bool (right_short s (by omega)).symm, dn_self _⟩
  · go_wp2
    go_ret
    exact ⟨ret_bool (right_short s (by omega)).symm, dn_self _⟩
end Go.Proofs.Ythhfcambdmdgfaa
namespace Go.Proofs.Ythhfcambdmdgfaa
open Go.RowKit
set_option linter.unusedVariables false
section
variable {w w' : World} {base : Nat} {e : TypeId} {sz n : Nat} {v : Value} {xs : List Value}
theorem rw_form (h : w.ownsRow base e sz v n xs) : ∃ ao cap, v = .slice ao n cap := by
  rcases h.2 with ⟨rfl, h0⟩ | ⟨g, cap, cur, hv, _⟩
  · rw [h0]; exact ⟨_, _, rfl⟩
  · exact ⟨_, _, hv⟩
theorem rw_type (h : w.ownsRow base e sz v n xs) {k : Nat} (hk : v.ownBlock = some k) : base ≤ k ∧ ∃ cs, w.heap[k]? = some (.cells cs e) := by
  rcases h.2 with ⟨rfl, _⟩ | ⟨g, cap, cur, rfl, hg, hh, _⟩
  · cases hk
  · cases hk; exact ⟨hg, cur, hh⟩
theorem rw_kept {X : Nat → Prop} (h : w.ownsRow base e sz v n xs) (hk : Kept X w w') (hx : ∀ k, v.ownBlock = some k → ¬ X k) : w'.ownsRow base e sz v n xs := by
  refine ⟨h.1, ?_⟩
  rcases h.2 with h0 | ⟨g, cap, cur, hv, hg, hh, r⟩
  · exact .inl h0
  · exact .inr ⟨g, cap, cur, hv, hg, hk.heap hh (hx g (by rw [hv]; rfl)), r⟩
theorem rw_below (h : w.ownsRow base e sz v n xs) (hb : Below w.heap.size w w') : w'.ownsRow base e sz v n xs :=
  rw_kept h (kept_of_below (X := fun _ => False) hb) (fun _ _ q => q)
theorem rw_mono {base' : Nat} (h : w.ownsRow base e sz v n xs) (hb : base' ≤ base) : w.ownsRow base' e sz v n xs := by
  refine ⟨h.1, ?_⟩
  rcases h.2 with h0 | ⟨g, cap, cur, hv, hg, r⟩
  · exact .inl h0
  · exact .inr ⟨g, cap, cur, hv, by omega, r⟩
/-- A block of another type is no row's. -/
theorem rw_other {T : TypeId} {c : Array Value} {k : Nat} (h : w.ownsRow base e sz v n xs) (hb : w.heap[k]? = some (.cells c T)) (hT : T ≠ e) : v.ownBlock ≠ some k := by
  intro hk
  obtain ⟨_, cs, hc⟩ := rw_type h hk
  rw [hb] at hc; cases hc; exact hT rfl
theorem rw_ne {base2 : Nat} {e2 : TypeId} {sz2 n2 : Nat} {v2 : Value} {xs2 : List Value} (h : w.ownsRow base e sz v n xs) (h2 : w.ownsRow base2 e2 sz2 v2 n2 xs2) (hT : e2 ≠ e) : ∀ k, v2.ownBlock = some k → v.ownBlock ≠ some k := by
  intro k hk
  obtain ⟨_, cs, hc⟩ := rw_type h2 hk
  exact rw_other h hc hT
theorem rw_cells {g cap : Nat} (h : w.ownsRow base e sz (.slice (some ⟨g, 0, none⟩) n cap) n xs) : base ≤ g ∧ g < w.heap.size ∧ (∀ j, j < n * sz → w.cell? ⟨g, j, none⟩ = some (xs.getD j undef)) ∧ (∀ j, w.frozen? ⟨g, j, none⟩ = false) := by
  have hl := World.ownsRow.lt h g rfl
  have hc := World.ownsRow.cells h (g := g) rfl
  refine ⟨hl.1, hl.2, fun j hj => ?_, ?_⟩
  · have hj2 : j < xs.length := by rw [h.1]; exact hj
    have := hc j (xs.getD j undef) (by rw [List.getD_eq_getElem?_getD, List.getElem?_eq_getElem hj2]; rfl)
    have e0 : (⟨g, 0, none⟩ : Addr).add j = ⟨g, j, none⟩ := by unfold Addr.add; split <;> simp_all
    rw [e0] at this; exact this
  · rcases h.2 with ⟨h0, _⟩ | ⟨g', cap', cur, hv, _, hh, _⟩
    · cases h0
    · cases hv; exact fun j => blk_free hh j
theorem rw_pos (h : w.ownsRow base e sz v n xs) (hn : 0 < n) : ∃ g cap, v = .slice (some ⟨g, 0, none⟩) n cap := by
  rcases h.2 with ⟨rfl, h0⟩ | ⟨g, cap, cur, hv, _⟩
  · omega
  · exact ⟨g, cap, hv⟩
theorem rw_set {g cap : Nat} (h : w.ownsRow base e sz (.slice (some ⟨g, 0, none⟩) n cap) n xs) (j : Nat) (u : Value) :
    (w.setCell ⟨g, j, none⟩ u).ownsRow base e sz (.slice (some ⟨g, 0, none⟩) n cap) n (xs.set j u) := by
  refine ⟨by rw [List.length_set]; exact h.1, ?_⟩
  rcases h.2 with ⟨h0, _⟩ | ⟨g', cap', cur, hv, hg, hh, hcap, hm, hcs, ht⟩
  · cases h0
  · cases hv
    refine .inr ⟨g, cap, cur.setIfInBounds j u, rfl, hg, heap_setCell_same w g j _ e u hh, hcap, hm, by simpa using hcs, ?_⟩
    rw [Array.toList_setIfInBounds, List.take_set, ht]
end
/-- An append of one, laid into a block of its own ahead of it. -/
theorem app_rw {P : Program} {ops : Array Oper} {rest : List Oper} {o : Oper} {a : Act} {Q : Exit → Act → World → Prop} {w : World} (hgd : o.guard = none) (s x : Operand) (t : TypeId)
    (ho : o.op = .call { callee := .builtin .append, args := #[s, x], argTypes := #[t, t] })
    (base : Nat) (e : TypeId) (i : TypeInfo) (z : Value) (sz bytes : Nat) (ht : P.underlying t = some (.slice e)) (hi : P.info? e = some i) (hz : i.zero = some z)
    (hsize : i.size = sz) (hby : i.bytes = bytes) (hzs : z.cells.size = sz) (hsz : 0 < sz) (tb : TypeId)
    (v : Value) (n : Nat) (xs us : List Value) (hs : a.eval s = v) (hown : w.ownsRow base e sz v n xs) (c : Nat) (hx : a.eval x = .slice (some ⟨w.heap.size, 0, none⟩) 1 c) (hul : us.length = sz) (hu : ∀ u ∈ us, u.oneCell' = true)
    (hbase : base ≤ w.heap.size) (hlen : n + 1 ≤ 100000000) (hby2 : bytes ≤ 1000000)
    (h : ∀ g cap w1, w1.ownsRow base e sz (.slice (some ⟨g, 0, none⟩) (n + 1) cap) (n + 1) (xs ++ us) → Kept (fun k => v.ownBlock = some k) w w1 → (v.ownBlock = some g ∨ w.heap.size < g) → wpList P ops Q rest (a.put o.dst (.slice (some ⟨g, 0, none⟩) (n + 1) cap)) w1) :
    wpList P ops Q (o :: rest) a (w.alloc (.cells us.toArray tb)) := by
  refine wpList_append_lies _ hgd s x t ho base e i z sz bytes ht hi hz hsize hby hzs hsz v n xs hs (World.ownsRow.alloc hown _) ⟨w.heap.size, 0, none⟩ 1 c us hx (by omega) ?_ hu (by decide) (by unfold maxLen; omega)
    (Nat.le_trans (Nat.mul_le_mul hlen hby2) (by decide)) (by simp; omega) (w.heap.size + 1) (by simp) ?_
  · intro j y hj
    have e0 : (⟨w.heap.size, 0, none⟩ : Addr).add j = ⟨w.heap.size, j, none⟩ := by unfold Addr.add; split <;> simp_all
    rw [e0, blk_cell (blk_new w _) j]; simpa using hj
  · intro g cap w1 hown' hgrow hat _
    refine h g cap w1 hown' (((Kept.refl _ w).alloc _).grown hgrow (fun k hk => .inl hk)) ?_
    rcases hat with q | q
    · exact .inl q
    · exact .inr (by omega)
/-- The same at a step of a region that draws. -/
theorem app_rw_at {P : Program} {o : Oper} {a : Act} {K : Act → World → Prop} {Q : Exit → Act → World → Prop} {w : World} (s x : Operand) (t : TypeId)
    (ho : o.op = .call { callee := .builtin .append, args := #[s, x], argTypes := #[t, t] })
    (base : Nat) (e : TypeId) (i : TypeInfo) (z : Value) (sz bytes : Nat) (ht : P.underlying t = some (.slice e)) (hi : P.info? e = some i) (hz : i.zero = some z)
    (hsize : i.size = sz) (hby : i.bytes = bytes) (hzs : z.cells.size = sz) (hsz : 0 < sz) {tb : TypeId}
    (v : Value) (n : Nat) (xs us : List Value) (hs : a.eval s = v) (hown : w.ownsRow base e sz v n xs) (g0 c : Nat) (hx : a.eval x = .slice (some ⟨g0, 0, none⟩) 1 c) (hcells : w.heap[g0]? = some (.cells us.toArray tb)) (hul : us.length = sz) (hu : ∀ u ∈ us, u.oneCell' = true)
    (hbase : base ≤ w.heap.size) (hlen : n + 1 ≤ 100000000) (hby2 : bytes ≤ 1000000)
    (h : ∀ g cap w1, w1.ownsRow base e sz (.slice (some ⟨g, 0, none⟩) (n + 1) cap) (n + 1) (xs ++ us) → Kept (fun k => v.ownBlock = some k) w w1 → (v.ownBlock = some g ∨ w.heap.size ≤ g) → K (a.put o.dst (.slice (some ⟨g, 0, none⟩) (n + 1) cap)) w1) : o.wp P a w K Q := by
  refine wp_append_lies w s x t ho base e i z sz bytes ht hi hz hsize hby hzs hsz v n xs hs hown ⟨g0, 0, none⟩ 1 c us hx (by omega) ?_ hu (by decide) (by unfold maxLen; omega)
    (Nat.le_trans (Nat.mul_le_mul hlen hby2) (by decide)) hbase w.heap.size rfl ?_
  · intro j y hj
    have e0 : (⟨g0, 0, none⟩ : Addr).add j = ⟨g0, j, none⟩ := by unfold Addr.add; split <;> simp_all
    rw [e0, blk_cell hcells j]; simpa using hj
  · intro g cap w1 hown' hgrow hat _
    refine h g cap w1 hown' ((Kept.refl _ w).grown hgrow (fun k hk => .inl hk)) ?_
    rcases hat with q | q
    · exact .inl q
    · exact .inr (by omega)
end Go.Proofs.Ythhfcambdmdgfaa
namespace Go.Proofs.Ythhfcambdmdgfaa
open Go.RowKit
set_option linter.unusedVariables false
set_option linter.unusedSimpArgs false
def SliS (w : World) (v : Value) (sz n : Nat) (cs : List Value) : Prop :=
  cs.length = n * sz ∧ ∃ A c, v = .slice A n c ∧ n ≤ c ∧ (n = 0 ∨ ∃ b off, A = some ⟨b, off, none⟩ ∧ ∀ j u, cs[j]? = some u → w.cell? ⟨b, off + j, none⟩ = some u)
section
variable {w w' : World} {v : Value} {sz n : Nat} {cs : List Value}
theorem SliS.form (h : SliS w v sz n cs) : ∃ A c, v = .slice A n c := by obtain ⟨_, A, c, rfl, _⟩ := h; exact ⟨_, _, rfl⟩
theorem SliS.below (h : SliS w v sz n cs) (hb : Below w.heap.size w w') : SliS w' v sz n cs := by
  obtain ⟨hl, A, c, rfl, hc, h0 | ⟨b, off, rfl, hx⟩⟩ := h
  · exact ⟨hl, A, c, rfl, hc, .inl h0⟩
  · exact ⟨hl, _, c, rfl, hc, .inr ⟨b, off, rfl, fun j u hu => cb hb (hx j u hu)⟩⟩
theorem SliS.at' (h : SliS w v sz n cs) {k : Nat} (hk : k < n) : ∃ b off c, v = .slice (some ⟨b, off, none⟩) n c ∧ n ≤ c ∧ ∀ j, j < sz → ∀ u, cs[k * sz + j]? = some u → w.cell? ⟨b, off + k * sz + j, none⟩ = some u := by
  obtain ⟨hl, A, c, rfl, hc, h0 | ⟨b, off, rfl, hx⟩⟩ := h
  · omega
  · exact ⟨b, off, c, rfl, hc, fun j _ u hu => by rw [Nat.add_assoc]; exact hx _ u hu⟩
theorem sliS_nil (w : World) (sz : Nat) : SliS w (.slice none 0 0) sz 0 [] := ⟨by simp, none, 0, rfl, Nat.le_refl _, .inl rfl⟩
theorem sliS_of {b : Nat} {e : TypeId} (h : w.ownsRow b e sz v n cs) : SliS w v sz n cs := by
  refine ⟨h.1, ?_⟩
  rcases h.2 with ⟨rfl, h0⟩ | ⟨g, cap, cur, rfl, _, _, hc, _⟩
  · subst h0; exact ⟨none, 0, rfl, Nat.le_refl _, .inl rfl⟩
  · refine ⟨_, cap, rfl, hc, .inr ⟨g, 0, rfl, fun j u hu => ?_⟩⟩
    have := World.ownsRow.cells h (g := g) rfl j u hu
    have e0 : (⟨g, 0, none⟩ : Addr).add j = ⟨g, j, none⟩ := by unfold Addr.add; split <;> simp_all
    rw [e0] at this
    rw [Nat.zero_add]; exact this
theorem sliS_lit {g : Nat} {t : TypeId} (h : w.heap[g]? = some (.cells cs.toArray t)) (hl : cs.length = n * sz) : SliS w (.slice (some ⟨g, 0, none⟩) n n) sz n cs :=
  ⟨hl, _, n, rfl, Nat.le_refl _, .inr ⟨g, 0, rfl, fun j u hu => by rw [blk_cell h, Nat.zero_add]; simpa using hu⟩⟩
end
theorem name_body {P : Program} {f : Func} {Q : Ending → World → Prop} {x : Exit} {a : Act} {W : World} (h : ∀ U, U = W → bodyPost P f Q x a U) : bodyPost P f Q x a W := h W rfl
end Go.Proofs.Ythhfcambdmdgfaa
namespace Go.Proofs.Ythhfcambdmdgfaa
open Go.RowKit
section
variable {P : Program} {ops : Array Oper} {Q : Exit → Act → World → Prop} {S : World → Prop} {md : Region.Mode} {L : Nat}
/-- Whatever order is picked from here on, and 'S' holds behind every operation but L. -/
def wpAnyL (P : Program) (md : Region.Mode) (ops : Array Oper) (Q : Exit → Act → World → Prop) (S : World → Prop) (L : Nat) : Nat → Array Bool → Act → World → Prop
  | 0, listed, a, w => Region.ready md ops listed = [] ∧ Q .normal a w
  | fuel + 1, listed, a, w =>
    (Region.ready md ops listed = [] → Q .normal a w) ∧
    ∀ i ∈ Region.ready md ops listed, wpOp P ops Q i (fun a' w' => ((listed.setIfInBounds i true).getD L true = false → S w') ∧ wpAnyL P md ops Q S L fuel (listed.setIfInBounds i true) a' w') a w
theorem wpAny_of_L : ∀ (fuel : Nat) (listed : Array Bool) (a : Act) (w : World), wpAnyL P md ops Q S L fuel listed a w → wpAny P md ops Q fuel listed a w
  | 0, _, _, _, h => h
  | fuel + 1, _, _, _, h => ⟨h.1, fun i hi => wpOp_mono (fun a' w' h' => wpAny_of_L fuel _ a' w' h'.2) (h.2 i hi)⟩
/-- Has each one that has come up all ahead of it that it waits for? -/
def closedL (md : Region.Mode) (ops : Array Oper) (listed : Array Bool) : Prop := ∀ j o, ops[j]? = some o → listed.getD j false = true → ∀ e ∈ o.after, Region.binds md e = true → listed.getD e.on false = true
/-- Does L wait for i, itself or through others? -/
def reachL (md : Region.Mode) (ops : Array Oper) : Nat → Nat → Nat → Bool
  | 0, _, _ => false
  | f + 1, L, i => match ops[L]? with
    | some o => o.after.any fun e => Region.binds md e && ((e.on == i) || reachL md ops f e.on i)
    | none => false
theorem reach_listed {listed : Array Bool} (hc : closedL md ops listed) : ∀ (f L i : Nat), reachL md ops f L i = true → (∀ o, ops[L]? = some o → ∀ e ∈ o.after, Region.binds md e = true → listed.getD e.on false = true) → listed.getD i false = true
  | 0, _, _, h, _ => by simp [reachL] at h
  | f + 1, L, i, h, hp => by
    unfold reachL at h
    cases ho : ops[L]? with
    | none => rw [ho] at h; cases h
    | some o =>
      rw [ho] at h
      simp only [Array.any_eq_true, Bool.and_eq_true, Bool.or_eq_true, beq_iff_eq] at h
      obtain ⟨k, hk, hb, he⟩ := h
      have hl := hp o ho _ (Array.getElem_mem hk) hb
      rcases he with he | he
      · rw [← he]; exact hl
      · exact reach_listed hc f _ i he (fun o2 ho2 e2 he2 hb2 => hc _ o2 ho2 hl e2 he2 hb2)
theorem getD_unlisted {listed : Array Bool} {i : Nat} (h : listed.getD i true = false) : listed.getD i false = false := by
  rcases Nat.lt_or_ge i listed.size with q | q
  · simpa [q] using h
  · simp [Array.getElem?_eq_none q] at h
theorem not_ready_L {listed : Array Bool} (hc : closedL md ops listed) {f L i : Nat} (hr : reachL md ops f L i = true) (hi : listed.getD i true = false) (hj : L ∈ Region.ready md ops listed) : False := by
  obtain ⟨_, o, ho, hall⟩ := mem_ready.1 hj
  have := reach_listed hc f L i hr (fun o2 ho2 => by have e := Option.some.inj (ho.symm.trans ho2); subst e; exact hall)
  rw [getD_unlisted hi] at this
  cases this
theorem closed_set {listed : Array Bool} (hc : closedL md ops listed) {j : Nat} (hj : j ∈ Region.ready md ops listed) : closedL md ops (listed.setIfInBounds j true) := by
  intro k o ho hk e he hb
  obtain ⟨_, oj, hoj, hall⟩ := mem_ready.1 hj
  by_cases hjk : j = k
  · subst hjk
    have e2 := Option.some.inj (hoj.symm.trans ho)
    subst e2
    exact getD_set_true (hall e he hb)
  · rw [getD_set_ne false hjk] at hk
    exact getD_set_true (hc k o ho hk e he hb)
theorem wpAnyL_first {i : Nat} {oi : Oper} {v : Value} (hi : ops[i]? = some oi) (hsel : ∀ (j : Nat) (o : Oper) cs b, ops[j]? = some o → o.op ≠ .select cs b)
    (hQ : ∀ c a w, Q (.panic c) (a.put oi.dst v) w → Q (.panic c) a w) {f : Nat} (hwait : reachL md ops f L i = true) :
    ∀ (fuel : Nat) (listed : Array Bool) (a : Act) (w : World),
      (∀ j oj, ops[j]? = some oj → j ≠ i → listed.getD j true = false → (∀ e ∈ oj.after, Region.binds md e = true → e.on ≠ i) → oi.apart ops oj = true) →
      i ∈ Region.ready md ops listed → YieldsIf P ops S oi v a → S w → listed.getD L true = false → closedL md ops listed →
      wpAnyL P md ops Q S L fuel (listed.setIfInBounds i true) (a.put oi.dst v) w → wpAnyL P md ops Q S L (fuel + 1) listed a w := by
  intro fuel
  induction fuel with
  | zero =>
    intro listed a w _ hr hy hS _ _ H
    refine ⟨fun h => (by rw [h] at hr; cases hr), fun j hj => ?_⟩
    by_cases hji : j = i
    · subst hji; exact hy.wpOp hi hS ⟨fun _ => hS, H⟩
    · have := ready_mono hj hji
      rw [H.1] at this
      cases this
  | succ fuel ih =>
    intro listed a w hfree hr hy hS hL hcl H
    refine ⟨fun h => (by rw [h] at hr; cases hr), fun j hj => ?_⟩
    by_cases hji : j = i
    · subst hji; exact hy.wpOp hi hS ⟨fun _ => hS, H⟩
    · have h1 := H.2 j (ready_mono hj hji)
      obtain ⟨hjun, oj, hoj, hall⟩ := mem_ready.1 hj
      have hnot : ∀ e ∈ oj.after, Region.binds md e = true → e.on ≠ i := fun e he hb heq => by
        have h1 := hall e he hb
        have h0 := (mem_ready.1 hr).1
        rw [heq] at h1
        rcases Nat.lt_or_ge i listed.size with h' | h'
        · simp [h'] at h0 h1; rw [h0] at h1; cases h1
        · simp [Array.getElem?_eq_none h'] at h1
      have hjL : j ≠ L := fun e => by
        subst e
        exact not_ready_L hcl hwait (mem_ready.1 hr).1 hj
      have hL' : (listed.setIfInBounds j true).getD L true = false := by rw [getD_set_ne true hjL]; exact hL
      have h2 := wpOp_putIf hoj (hfree j oj hoj hji hjun hnot) (fun cs b => hsel i oi cs b hi) (fun cs b => hsel j oj cs b hoj) hQ hy h1
      have hfree' : ∀ k ok, ops[k]? = some ok → k ≠ i → (listed.setIfInBounds j true).getD k true = false →
          (∀ e ∈ ok.after, Region.binds md e = true → e.on ≠ i) → oi.apart ops ok = true := fun k ok hk hki hun hno => by
        refine hfree k ok hk hki ?_ hno
        by_cases hjk : j = k
        · subst hjk; exact hjun
        · rw [getD_set_ne true hjk] at hun; exact hun
      refine wpOp_mono (fun a' w' h3 => ?_) h2
      have hSw : S w' := by
        refine h3.2.1 ?_
        rw [Array.setIfInBounds_comm _ _ (Ne.symm hji), getD_set_ne true (fun e => by
          subst e
          exact not_ready_L hcl hwait (mem_ready.1 hr).1 hr)]
        exact hL'
      refine ⟨fun _ => hSw, ih (listed.setIfInBounds j true) a' w' hfree' (ready_mono hr (Ne.symm hji)) h3.1 hSw hL' (closed_set hcl hj) ?_⟩
      rw [Array.setIfInBounds_comm _ _ hji]
      exact h3.2.2
end
end Go.Proofs.Ythhfcambdmdgfaa
namespace Go.Proofs.Ythhfcambdmdgfaa
open Go.RowKit
set_option linter.unusedSimpArgs false
section
variable {P : Program} {ops : Array Oper} {Q : Exit → Act → World → Prop} {S : World → Prop} {md : Region.Mode} {L : Nat}
/-- An operation that yields whatever the world: it may come behind L too. -/
theorem wpAnyL_free {i : Nat} {oi : Oper} {v : Value} (hi : ops[i]? = some oi) (hsel : ∀ (j : Nat) (o : Oper) cs b, ops[j]? = some o → o.op ≠ .select cs b)
    (hQ : ∀ c a w, Q (.panic c) (a.put oi.dst v) w → Q (.panic c) a w) (hiL : i ≠ L) :
    ∀ (fuel : Nat) (listed : Array Bool) (a : Act) (w : World),
      (∀ j oj, ops[j]? = some oj → j ≠ i → listed.getD j true = false → (∀ e ∈ oj.after, Region.binds md e = true → e.on ≠ i) → oi.apart ops oj = true) →
      i ∈ Region.ready md ops listed → YieldsIf P ops (fun _ => True) oi v a → (listed.getD L true = false → S w) →
      wpAnyL P md ops Q S L fuel (listed.setIfInBounds i true) (a.put oi.dst v) w → wpAnyL P md ops Q S L (fuel + 1) listed a w := by
  intro fuel
  induction fuel with
  | zero =>
    intro listed a w _ hr hy hS H
    refine ⟨fun h => (by rw [h] at hr; cases hr), fun j hj => ?_⟩
    by_cases hji : j = i
    · subst hji; exact hy.wpOp hi trivial ⟨fun hq => hS (by rw [getD_set_ne true hiL] at hq; exact hq), H⟩
    · have := ready_mono hj hji
      rw [H.1] at this
      cases this
  | succ fuel ih =>
    intro listed a w hfree hr hy hS H
    refine ⟨fun h => (by rw [h] at hr; cases hr), fun j hj => ?_⟩
    by_cases hji : j = i
    · subst hji; exact hy.wpOp hi trivial ⟨fun hq => hS (by rw [getD_set_ne true hiL] at hq; exact hq), H⟩
    · have h1 := H.2 j (ready_mono hj hji)
      obtain ⟨hjun, oj, hoj, hall⟩ := mem_ready.1 hj
      have hnot : ∀ e ∈ oj.after, Region.binds md e = true → e.on ≠ i := fun e he hb heq => by
        have h1 := hall e he hb
        have h0 := (mem_ready.1 hr).1
        rw [heq] at h1
        rcases Nat.lt_or_ge i listed.size with h' | h'
        · simp [h'] at h0 h1; rw [h0] at h1; cases h1
        · simp [Array.getElem?_eq_none h'] at h1
      have h2 := wpOp_putIf hoj (hfree j oj hoj hji hjun hnot) (fun cs b => hsel i oi cs b hi) (fun cs b => hsel j oj cs b hoj) hQ hy h1
      have hfree' : ∀ k ok, ops[k]? = some ok → k ≠ i → (listed.setIfInBounds j true).getD k true = false →
          (∀ e ∈ ok.after, Region.binds md e = true → e.on ≠ i) → oi.apart ops ok = true := fun k ok hk hki hun hno => by
        refine hfree k ok hk hki ?_ hno
        by_cases hjk : j = k
        · subst hjk; exact hjun
        · rw [getD_set_ne true hjk] at hun; exact hun
      refine wpOp_mono (fun a' w' h3 => ?_) h2
      have hSw : (listed.setIfInBounds j true).getD L true = false → S w' := fun hq => by
        refine h3.2.1 ?_
        rw [Array.setIfInBounds_comm _ _ (Ne.symm hji), getD_set_ne true hiL]; exact hq
      refine ⟨hSw, ih (listed.setIfInBounds j true) a' w' hfree' (ready_mono hr (Ne.symm hji)) h3.1 hSw ?_⟩
      rw [Array.setIfInBounds_comm _ _ hji]
      exact h3.2.2
/-- 0: the only one that may come up; 1: one that yields, and that L waits for; 2: one that yields whatever the world. -/
def linM (md : Region.Mode) (ops : Array Oper) (L : Nat) (listed : Array Bool) : List (Nat × Nat) → Bool
  | [] => Region.ready md ops listed == []
  | (i, 0) :: fl => (Region.ready md ops listed == [i]) && linM md ops L (listed.setIfInBounds i true) fl
  | (i, 1) :: fl => Region.noSelect ops && Region.free md ops listed i && (Region.ready md ops listed).contains i && reachL md ops ops.size L i && !(listed.getD L true) && linM md ops L (listed.setIfInBounds i true) fl
  | (i, _ + 3) :: fl => listed.getD L false && (Region.ready md ops listed == [i]) && linM md ops L (listed.setIfInBounds i true) fl
  | (i, 2) :: fl => Region.noSelect ops && Region.free md ops listed i && (Region.ready md ops listed).contains i && (i != L) && linM md ops L (listed.setIfInBounds i true) fl
def seqM (P : Program) (ops : Array Oper) (Q : Exit → Act → World → Prop) (S : World → Prop) (L : Nat) : List (Nat × Nat) → Act → World → Prop
  | [], a, w => Q .normal a w
  | (i, 0) :: fl, a, w => wpOp P ops Q i (fun a' w' => (i = L ∨ S w') ∧ seqM P ops Q S L fl a' w') a w
  | (i, 1) :: fl, a, w => ∃ oi v, ops[i]? = some oi ∧ YieldsIf P ops S oi v a ∧ seqM P ops Q S L fl (a.put oi.dst v) w
  | (i, _ + 3) :: fl, a, w => wpOp P ops Q i (fun a' w' => seqM P ops Q S L fl a' w') a w
  | (i, 2) :: fl, a, w => ∃ oi v, ops[i]? = some oi ∧ YieldsIf P ops (fun _ => True) oi v a ∧ seqM P ops Q S L fl (a.put oi.dst v) w
theorem seqM_any (hQ : ∀ c (a : Act) t w, Q (.panic c) { a with tmps := t } w → Q (.panic c) a w) : ∀ (fl : List (Nat × Nat)) (listed : Array Bool) (a : Act) (w : World),
    linM md ops L listed fl = true → closedL md ops listed → (listed.getD L true = false → S w) → seqM P ops Q S L fl a w → wpAnyL P md ops Q S L fl.length listed a w
  | [], listed, a, w, hl, _, _, h => ⟨by simpa [linM] using hl, h⟩
  | (i, 1) :: fl, listed, a, w, hl, hcl, hS, h => by
    simp only [linM, Bool.and_eq_true, Bool.not_eq_true'] at hl
    obtain ⟨oi, v, hi, hy, h⟩ := h
    obtain ⟨⟨⟨⟨⟨h1, h2⟩, h3⟩, h4⟩, h5⟩, h6⟩ := hl
    exact wpAnyL_first hi (Region.noSelect_spec h1) (put_panic hQ oi.dst v) h4 _ _ _ _ (Region.free_spec hi h2) (by simpa using h3) hy (hS h5) h5 hcl (seqM_any hQ fl _ _ _ h6 (closed_set hcl (by simpa using h3)) (fun _ => hS h5) h)
  | (i, n + 3) :: fl, listed, a, w, hl, hcl, hS, h => by
    simp only [linM, Bool.and_eq_true, beq_iff_eq] at hl
    obtain ⟨⟨h1, h2⟩, h3⟩ := hl
    refine ⟨fun h0 => (by rw [h2] at h0; cases h0), fun j hj => ?_⟩
    rw [h2] at hj
    obtain rfl : j = i := by simpa using hj
    have hjr : j ∈ Region.ready md ops listed := by rw [h2]; simp
    have h' : wpOp P ops Q j (fun a' w' => seqM P ops Q S L fl a' w') a w := h
    refine wpOp_mono (K := fun a' w' => seqM P ops Q S L fl a' w') ?_ h'
    intro a' w' h''
    have hs : (listed.setIfInBounds j true).getD L true = false → S w' := fun hq => by
      exfalso
      have hL : L < listed.size := by
        rcases Nat.lt_or_ge L listed.size with z | z
        · exact z
        · rw [Array.getD, dif_neg (by omega)] at h1; cases h1
      by_cases e : j = L
      · subst e; simp [Array.getD, hL] at hq
      · rw [getD_set_ne true e] at hq
        simp [Array.getD, hL] at hq h1
        rw [h1] at hq; cases hq
    exact ⟨hs, seqM_any hQ fl _ _ _ h3 (closed_set hcl hjr) hs h''⟩
  | (i, 2) :: fl, listed, a, w, hl, hcl, hS, h => by
    simp only [linM, Bool.and_eq_true, bne_iff_ne] at hl
    obtain ⟨oi, v, hi, hy, h⟩ := h
    obtain ⟨⟨⟨⟨h1, h2⟩, h3⟩, h4⟩, h6⟩ := hl
    exact wpAnyL_free hi (Region.noSelect_spec h1) (put_panic hQ oi.dst v) h4 _ _ _ _ (Region.free_spec hi h2) (by simpa using h3) hy hS (seqM_any hQ fl _ _ _ h6 (closed_set hcl (by simpa using h3)) (fun hq => hS (by rw [getD_set_ne true h4] at hq; exact hq)) h)
  | (i, 0) :: fl, listed, a, w, hl, hcl, hS, h => by
    simp only [linM, Bool.and_eq_true, beq_iff_eq] at hl
    refine ⟨fun h0 => (by rw [hl.1] at h0; cases h0), fun j hj => ?_⟩
    rw [hl.1] at hj
    obtain rfl : j = i := by simpa using hj
    have hjr : j ∈ Region.ready md ops listed := by rw [hl.1]; simp
    have h' : wpOp P ops Q j (fun a' w' => (j = L ∨ S w') ∧ seqM P ops Q S L fl a' w') a w := h
    refine wpOp_mono (K := fun a' w' => (j = L ∨ S w') ∧ seqM P ops Q S L fl a' w') ?_ h'
    intro a' w' ⟨hS', h''⟩
    have hs : (listed.setIfInBounds j true).getD L true = false → S w' := fun hq => by
      rcases hS' with rfl | q
      · exfalso
        rcases Nat.lt_or_ge j listed.size with h9 | h9
        · simp [Array.getD, h9] at hq
        · simp [Array.getD, h9, Nat.not_lt.2 h9] at hq
      · exact q
    exact ⟨hs, seqM_any hQ fl _ _ _ hl.2 (closed_set hcl hjr) hs h''⟩
theorem region_seqM {id : Nat} {a : Act} {w : World} (S : World → Prop) (L : Nat) (fl : List (Nat × Nat)) (hm : P.follows .mixedOrders = true) (hl : (linM .any ops L (Array.replicate ops.size false) fl && (fl.length == ops.size)) = true)
    (hQ : ∀ c (a : Act) t w, Q (.panic c) { a with tmps := t } w → Q (.panic c) a w) (hS : S w.drew) (h : seqM P ops Q S L fl a w.drew) : (Code.region id ops true).wp P Q a w := by
  simp only [Bool.and_eq_true, beq_iff_eq] at hl
  refine wp_region_any hm ?_
  rw [← hl.2]
  exact wpAny_of_L _ _ _ _ (seqM_any hQ fl _ _ _ (by rw [hl.2]; exact hl.1) (fun j o _ hj => by
    exfalso
    have e : (Array.replicate fl.length false).getD j false = false := by
      rw [Array.getD_eq_getD_getElem?, Array.getElem?_replicate]; split <;> rfl
    rw [e] at hj; cases hj) (fun _ => hS) h)
theorem sm_done {a : Act} {w : World} (h : Q .normal a w) : seqM P ops Q S L [] a w := h
theorem sm_take {fl : List (Nat × Nat)} {i : Nat} {a a' : Act} {w : World} {oi : Oper} {v : Value} (N : Option Tmp) (hi : ops[i]? = some oi) (hN : oi.dst = N) (hw : Region.wanted oi (yielded ops a.tmps) = true)
    (hv : ∀ w', S w' → (execOp a.eval oi).run P w' = .ok (.value v) w') (ha : a.put N v = a') (h : seqM P ops Q S L fl a' w) : seqM P ops Q S L ((i, 1) :: fl) a w :=
  ⟨oi, v, hi, .inl ⟨hw, hv⟩, by rw [hN, ha]; exact h⟩
theorem sm_free {fl : List (Nat × Nat)} {i : Nat} {a a' : Act} {w : World} {oi : Oper} {v : Value} (N : Option Tmp) (hi : ops[i]? = some oi) (hN : oi.dst = N) (hw : Region.wanted oi (yielded ops a.tmps) = true)
    (hv : ∀ w', (execOp a.eval oi).run P w' = .ok (.value v) w') (ha : a.put N v = a') (h : seqM P ops Q S L fl a' w) : seqM P ops Q S L ((i, 2) :: fl) a w :=
  ⟨oi, v, hi, .inl ⟨hw, fun w' _ => hv w'⟩, by rw [hN, ha]; exact h⟩
/-- A call of a function that a slot holds, or that is named. -/
theorem sm_call {fl : List (Nat × Nat)} {i : Nat} {a : Act} {w : World} {oi : Oper} {f : FuncId} {fn : Func} {c : Operand} {ags : Array Operand} {ts : Array TypeId} (hf : P.funcs[f]? = some fn) (hname : (fn.name == "runtime.NumGoroutine") = false) (hb : fn.body.isSome = true)
    (N : Option Tmp) (args : Array Value) (hi : ops[i]? = some oi) (hN : oi.dst = N) (hw : Region.wanted oi (yielded ops a.tmps) = true) (hop : oi.op = .call { callee := .value c, args := ags, argTypes := ts }) (hc : a.eval c = .func (.func f) #[] #[]) (hargs : ags.map a.eval = args)
    (h : Calls P f args w fun e w' => ∃ v, e = .returned v ∧ (i = L ∨ S w') ∧ seqM P ops Q S L fl (a.put N v) w') : seqM P ops Q S L ((i, 0) :: fl) a w := by
  show wpOp P ops Q i _ a w
  unfold wpOp
  rw [hi]
  simp only [hw, if_true]
  refine .inl ?_
  have h1 : fn.name ≠ "runtime.NumGoroutine" := by simpa using hname
  obtain ⟨cd, hcd⟩ := Option.isSome_iff_exists.1 hb
  have he : (callFunc f args).run P w = .ok (.enter f args) w := by simp [callFunc, hf, h1, hcd]
  have hrun : (execOp a.eval oi).run P w = .ok (.enter f args) w := by
    unfold execOp
    simp [hop, resolve, Deferred.ofValue, invoke, hc, hargs, he]
  unfold Oper.wp
  rw [hrun, Oper.upon_enter]
  refine h.mono fun e w'' hh => ?_
  obtain ⟨v, rfl, hs, hk⟩ := hh
  subst hN
  exact ⟨hs, hk⟩
theorem sm_op {fl : List (Nat × Nat)} {i : Nat} {a : Act} {w : World} {oi : Oper} (N : Option Tmp) (hi : ops[i]? = some oi) (hN : oi.dst = N) (hw : Region.wanted oi (yielded ops a.tmps) = true)
    (h : ∃ v w1, (execOp a.eval oi).run P w = .ok (.value v) w1 ∧ ∃ a', a.put N v = a' ∧ (i = L ∨ S w1) ∧ seqM P ops Q S L fl a' w1) : seqM P ops Q S L ((i, 0) :: fl) a w := by
  obtain ⟨v, w1, hrun, a', ha, hS, h⟩ := h
  show wpOp P ops Q i _ a w
  unfold wpOp
  rw [hi]
  simp only [hw, if_true]
  refine .inl ?_
  unfold Oper.wp
  rw [hrun, Oper.upon_value, hN, ha]
  exact ⟨hS, h⟩
/-- A store behind L. -/
theorem sm_after {fl : List (Nat × Nat)} {i : Nat} {a : Act} {w : World} {oi : Oper} (N : Option Tmp) (hi : ops[i]? = some oi) (hN : oi.dst = N) (hw : Region.wanted oi (yielded ops a.tmps) = true)
    (h : ∃ w1, (execOp a.eval oi).run P w = .ok .skip w1 ∧ ∃ a', a.put N undef = a' ∧ seqM P ops Q S L fl a' w1) : seqM P ops Q S L ((i, 3) :: fl) a w := by
  obtain ⟨w1, hrun, a', ha, h⟩ := h
  show wpOp P ops Q i _ a w
  unfold wpOp
  rw [hi]
  simp only [hw, if_true]
  refine .inl ?_
  unfold Oper.wp
  rw [hrun, Oper.upon_skip, hN, ha]
  exact h
/-- A store, or a map's update: by its run. -/
theorem sm_store {fl : List (Nat × Nat)} {i : Nat} {a : Act} {w : World} {oi : Oper} (N : Option Tmp) (hi : ops[i]? = some oi) (hN : oi.dst = N) (hw : Region.wanted oi (yielded ops a.tmps) = true)
    (h : ∃ w1, (execOp a.eval oi).run P w = .ok .skip w1 ∧ ∃ a', a.put N undef = a' ∧ (i = L ∨ S w1) ∧ seqM P ops Q S L fl a' w1) : seqM P ops Q S L ((i, 0) :: fl) a w := by
  obtain ⟨w1, hrun, a', ha, hS, h⟩ := h
  show wpOp P ops Q i _ a w
  unfold wpOp
  rw [hi]
  simp only [hw, if_true]
  refine .inl ?_
  unfold Oper.wp
  rw [hrun, Oper.upon_skip, hN, ha]
  exact ⟨hS, h⟩
theorem sm_law {fl : List (Nat × Nat)} {i : Nat} {a : Act} {w : World} {oi : Oper} (hi : ops[i]? = some oi) (hw : Region.wanted oi (yielded ops a.tmps) = true)
    (h : oi.wp P a w (fun a' w' => (i = L ∨ S w') ∧ seqM P ops Q S L fl a' w') Q) : seqM P ops Q S L ((i, 0) :: fl) a w := by
  show wpOp P ops Q i _ a w
  unfold wpOp
  rw [hi]
  simp only [hw, if_true]
  exact .inl h
end
end Go.Proofs.Ythhfcambdmdgfaa
namespace Go.Proofs.Ythhfcambdmdgfaa
open Go.RowKit
set_option linter.unusedVariables false
set_option linter.unusedSimpArgs false
theorem fzb {W w1 : World} (hb : Below W.heap.size W w1) {a : Addr} (ha : a.block < W.heap.size) (h : W.frozen? a = false) : w1.frozen? a = false := fb hb ha h
theorem ba_eq {a b : ByteArray} : a.toList = b.toList ↔ a = b := ⟨fun h => by rw [Lib.toList_data, Lib.toList_data] at h; exact ByteArray.ext (Array.toList_inj.1 h), fun h => by rw [h]⟩
theorem beq_str (a b : ByteArray) : (a.toList == b.toList) = decide (a = b) := by rw [Bool.eq_iff_iff, beq_iff_eq, decide_eq_true_eq]; exact ba_eq
theorem beqF {a b : ByteArray} (h : ¬ a = b) : (a.toList == b.toList) = false := by rw [beq_str]; simpa using h
theorem neF {a b : ByteArray} (h : ¬ a = b) : ¬ a.toList = b.toList := fun e => h (ba_eq.1 e)
end Go.Proofs.Ythhfcambdmdgfaa
namespace Go.Proofs.Ythhfcambdmdgfaa
open Go.RowKit Go.Maps
set_option linter.unusedVariables false
set_option linter.unusedSimpArgs false
abbrev Vec := AM ByteArray Int
def risB : List ByteArray → Bool
  | a :: b :: r => ltB a b && risB (b :: r)
  | _ => true
theorem risB_iff : ∀ (l : List ByteArray), risB l = true ↔ l.Pairwise (fun a b => ltB a b = true)
  | [] => ⟨fun _ => List.Pairwise.nil, fun _ => rfl⟩
  | [a] => ⟨fun _ => List.pairwise_singleton _ _, fun _ => rfl⟩
  | a :: b :: r => by
    have ih := risB_iff (b :: r)
    unfold risB
    rw [Bool.and_eq_true, ih, List.pairwise_cons (a := a)]
    constructor
    · rintro ⟨h1, h2⟩
      refine ⟨fun x hx => ?_, h2⟩
      rcases List.mem_cons.1 hx with rfl | hx
      · exact h1
      · exact ltB_trans h1 ((List.pairwise_cons.1 h2).1 x hx)
    · rintro ⟨h1, h2⟩
      exact ⟨h1 b List.mem_cons_self, h2⟩
/-- Rising so far, and one more. -/
theorem risB_snoc : ∀ (l : List ByteArray) (a b : ByteArray), risB (l ++ [a] ++ [b]) = (risB (l ++ [a]) && ltB a b)
  | [], a, b => by simp [risB]
  | [x], a, b => by simp [risB, Bool.and_assoc]
  | x :: y :: r, a, b => by
    have ih := risB_snoc (y :: r) a b
    simp only [List.cons_append, risB] at ih ⊢
    rw [ih, Bool.and_assoc]
theorem ris_take (v : Vec) {k : Nat} (h : k + 1 < v.length) : risB (keysA (v.take (k + 2))) = (risB (keysA (v.take (k + 1))) && ltB (v[k]'(by omega)).1 (v[k + 1]'h).1) := by
  have e1 : v.take (k + 1) = v.take k ++ [v[k]'(by omega)] := List.take_succ_eq_append_getElem (by omega)
  have e2 : v.take (k + 2) = v.take k ++ [v[k]'(by omega)] ++ [v[k + 1]'h] := by rw [← e1]; exact List.take_succ_eq_append_getElem h
  rw [e1, e2]
  have := risB_snoc (keysA (v.take k)) (v[k]'(by omega)).1 (v[k + 1]'h).1
  simp only [keysA, List.map_append, List.map_cons, List.map_nil] at this ⊢
  exact this
abbrev Res := List (ByteArray × Int)
def encR (p : ByteArray × Int) : List Value := [.string p.1, .int .i64 p.2]
def resC (l : Res) : List Value := l.flatMap encR
theorem resC_len (l : Res) : (resC l).length = l.length * 2 := by
  induction l with
  | nil => rfl
  | cons p r ih => simp only [resC, List.flatMap_cons, List.length_append, List.length_cons] at ih ⊢; rw [ih]; simp [encR]; omega
theorem resC_get : ∀ (l : Res) (k : Nat) (hk : k < l.length) (j : Nat), j < 2 → (resC l)[k * 2 + j]? = (encR (l[k]'hk))[j]?
  | p :: r, 0, _, j, hj => by
    show (encR p ++ resC r)[0 * 2 + j]? = (encR p)[j]?
    rw [Nat.zero_mul, Nat.zero_add, List.getElem?_append_left (by simp [encR]; exact hj)]
  | p :: r, k + 1, hk, j, hj => by
    show (encR p ++ resC r)[(k + 1) * 2 + j]? = _
    have hl : (encR p).length = 2 := rfl
    rw [List.getElem?_append_right (by rw [hl]; omega), hl, show (k + 1) * 2 + j - 2 = k * 2 + j by omega]
    exact resC_get r k (by simpa using hk) j hj
theorem resC_one (l : Res) : ∀ u ∈ resC l, u.oneCell' = true := by
  intro u hu; unfold resC at hu; obtain ⟨p, _, h⟩ := List.mem_flatMap.1 hu
  simp only [encR, List.mem_cons, List.not_mem_nil, or_false] at h
  rcases h with rfl | rfl <;> rfl
def in64 (n : Int) : Prop := -9223372036854775808 ≤ n ∧ n ≤ 9223372036854775807
def ResS (w : World) (x : Value) (l : Res) : Prop := SliS w x 2 l.length (resC l) ∧ ∀ p ∈ l, in64 p.2
section
variable {w w' : World} {x : Value} {l : Res}
theorem ResS.form (h : ResS w x l) : ∃ A c, x = .slice A l.length c := h.1.form
theorem ResS.below (h : ResS w x l) (hb : Below w.heap.size w w') : ResS w' x l := ⟨h.1.below hb, h.2⟩
theorem ResS.at' (h : ResS w x l) {k : Nat} (hk : k < l.length) : ∃ b off c, x = .slice (some ⟨b, off, none⟩) l.length c ∧ w.cell? ⟨b, off + k * 2, none⟩ = some (.string (l[k]'hk).1) ∧ w.cell? ⟨b, off + k * 2 + 1, none⟩ = some (.int .i64 (l[k]'hk).2) ∧ in64 (l[k]'hk).2 := by
  obtain ⟨b, off, c, hx, _, hc⟩ := h.1.at' hk
  refine ⟨b, off, c, hx, hc 0 (by decide) _ (by rw [resC_get l k hk 0 (by decide)]; rfl), hc 1 (by decide) _ (by rw [resC_get l k hk 1 (by decide)]; rfl), h.2 _ (List.getElem_mem hk)⟩
end
theorem res_ne {p r : ByteArray × Int} (h : ¬ p = r) : (decide (p.1 = r.1) && decide (p.2 = r.2)) = false := by
  rw [Bool.and_eq_false_iff]
  by_cases h1 : p.1 = r.1
  · have h2 : p.2 ≠ r.2 := fun e => h (Prod.ext h1 e)
    simp [h2]
  · simp [h1]
theorem resIf (s s' : ByteArray) (n n' : Int) (w : World) {q : Bool} (hq : (decide (s = s') && decide (n = n')) = q) : (if s.toList = s'.toList then if n = n' then Result.ok (Next.value (Value.bool false)) w else Result.ok (Next.value (Value.bool true)) w else Result.ok (Next.value (Value.bool true)) w)
    = .ok (.value (.bool !q)) w := by
  rw [← hq]
  simp only [ba_eq]
  by_cases h1 : s = s' <;> by_cases h2 : n = n' <;> simp [h1, h2]
set_option maxRecDepth 100000 in
set_option maxHeartbeats 8000000 in
theorem rres_calls (w : World) {u v : Value} {l m : Res} (hu : ResS w u l) (hv : ResS w v m) (hl : l.length ≤ 1000000) (hm : m.length ≤ 1000000) :
    Calls Try.prog 88 #[u, v] w fun e w' => e = .returned (.bool (decide (l = m))) ∧ Below w.heap.size w w' := by
  have hB := Below.refl w.heap.size w
  have HU := Lib.hid hu
  have HV := Lib.hid hv
  obtain ⟨au, cu, rfl⟩ := hu.form
  obtain ⟨av, cv, rfl⟩ := hv.form
  clear hu hv
  by_cases hlen : l.length = m.length
  · have HL := Lib.hid hlen
    rw [hlen] at hl HU ⊢
    have HLM := Lib.hid (show ∀ j (h1 : j < m.length), j < l.length from fun j h => by omega)
    clear hlen
    go_enter Try.func88, Try.ntmps88
    go_wp2_with fail
    go_loopw [5] (fun i wr => ∃ k : Nat, i = .int .i64 k ∧ k ≤ m.length ∧ Hid (l.take k = m.take k) ∧ Below w.heap.size w wr) (fun i _ => m.length - (intOf i).toNat)
    case atStart => exact ⟨0, rfl, Nat.zero_le _, Lib.hid rfl, hB⟩
    case round =>
      clear hB
      obtain ⟨k, rfl, hk, HT, hB⟩ := hrel
      by_cases hkl : k < m.length
      · have hkI : (k : Int) < m.length := by omega
        have hk2 := HLM.out k hkl
        obtain ⟨b1, o1, d1, he1, q0, q1, hq⟩ := HU.out.at' hk2
        obtain ⟨b2, o2, d2, he2, r0, r1, hr⟩ := HV.out.at' hkl
        rw [HL.out] at he1
        cases he1
        cases he2
        clear hq hr
        have q0 := cb hB q0; have r0 := cb hB r0
        have q1 := cb hB q1; have r1 := cb hB r1
        have HX := Lib.hid (List.take_succ_eq_append_getElem hk2)
        have HY := Lib.hid (List.take_succ_eq_append_getElem hkl)
        have HNE := Lib.hid (show l[k]'hk2 ≠ m[k]'hkl → l ≠ m from fun h e => h (by subst e; rfl))
        obtain ⟨p, hp⟩ : ∃ p, l[k]'hk2 = p := ⟨_, rfl⟩
        obtain ⟨r, hr⟩ : ∃ r, m[k]'hkl = r := ⟨_, rfl⟩
        rw [hp] at q0 q1 HX HNE
        rw [hr] at r0 r1 HY HNE
        clear hp hr
        obtain ⟨V, rfl⟩ : ∃ V : World, V = wr := ⟨_, rfl⟩
        have HB0 := Lib.hid hB
        clear hB
        have hB := Below.refl V.heap.size V
        go_upto_region 6 with fail
        by_cases hpr : p = r
        · have HZ : Hid ((decide (p.1 = r.1) && decide (p.2 = r.2)) = true) := Lib.hid (by rw [hpr]; simp)
          have HPR := Lib.hid hpr
          clear hpr
          have hB := hB.drew
          refine region_seq (fun w' => Below V.heap.size V w') [(0, true), (1, true), (2, true), (3, true), (4, true), (5, true), (6, true), (7, true), (8, true)] (by kernel_rfl) (by kernel_rfl) (fun _ _ _ _ h => h) hB ?_
          try generalize World.drew _ = wS at hB ⊢
          refine seq_take (v := ?_) (a' := ?_) (some 17) rfl rfl (by rfl) ?_ ?_ ?_
          rotate_left; rotate_left
          · intro w' hS; go_simp; with_reducible rfl
          · simp only [Act.put, List.setIfInBounds_toArray, List.set_cons_zero, List.set_cons_succ]; rfl
          refine seq_take (v := ?_) (a' := ?_) (some 18) rfl rfl (by rfl) ?_ ?_ ?_
          rotate_left; rotate_left
          · intro w' hS; go_simp; with_reducible rfl
          · simp only [Act.put, List.setIfInBounds_toArray, List.set_cons_zero, List.set_cons_succ]; rfl
          refine seq_take (v := ?_) (a' := ?_) (some 19) rfl rfl (by rfl) ?_ ?_ ?_
          rotate_left; rotate_left
          · intro w' hS; go_simp; with_reducible rfl
          · simp only [Act.put, List.setIfInBounds_toArray, List.set_cons_zero, List.set_cons_succ]; rfl
          refine seq_take (v := ?_) (a' := ?_) (some 20) rfl rfl (by rfl) ?_ ?_ ?_
          rotate_left; rotate_left
          · intro w' hS; have p0 := cb hS q0; have s0 := cb hS r0; have p1 := cb hS q1; have s1 := cb hS r1; go_simp; with_reducible rfl
          · simp only [Act.put, List.setIfInBounds_toArray, List.set_cons_zero, List.set_cons_succ]; rfl
          refine seq_take (v := ?_) (a' := ?_) (some 21) rfl rfl (by rfl) ?_ ?_ ?_
          rotate_left; rotate_left
          · intro w' hS; go_simp; with_reducible rfl
          · simp only [Act.put, List.setIfInBounds_toArray, List.set_cons_zero, List.set_cons_succ]; rfl
          refine seq_take (v := ?_) (a' := ?_) (some 22) rfl rfl (by rfl) ?_ ?_ ?_
          rotate_left; rotate_left
          · intro w' hS; go_simp; with_reducible rfl
          · simp only [Act.put, List.setIfInBounds_toArray, List.set_cons_zero, List.set_cons_succ]; rfl
          refine seq_take (v := ?_) (a' := ?_) (some 23) rfl rfl (by rfl) ?_ ?_ ?_
          rotate_left; rotate_left
          · intro w' hS; go_simp; with_reducible rfl
          · simp only [Act.put, List.setIfInBounds_toArray, List.set_cons_zero, List.set_cons_succ]; rfl
          refine seq_take (v := ?_) (a' := ?_) (some 24) rfl rfl (by rfl) ?_ ?_ ?_
          rotate_left; rotate_left
          · intro w' hS; have p0 := cb hS q0; have s0 := cb hS r0; have p1 := cb hS q1; have s1 := cb hS r1; go_simp; with_reducible rfl
          · simp only [Act.put, List.setIfInBounds_toArray, List.set_cons_zero, List.set_cons_succ]; rfl
          refine seq_take (v := ?_) (a' := ?_) (some 25) rfl rfl (by rfl) ?_ ?_ ?_
          rotate_left; rotate_left
          · intro w' hS; (first | (go_simp; with_reducible rfl) | (go_simp; exact resIf _ _ _ _ _ HZ.out))
          · simp only [Act.put, List.setIfInBounds_toArray, List.set_cons_zero, List.set_cons_succ]; rfl
          refine seq_done ?_
          go_wp2_with fail
          go_roundw
          case rel => exact ⟨k + 1, by simp, by omega, Lib.hid (by rw [HX.out, HY.out, HT.out, HPR.out]), bl_next HB0.out hB⟩
          case measure => simp [intOf]; omega
        · have HZ : Hid ((decide (p.1 = r.1) && decide (p.2 = r.2)) = false) := Lib.hid (res_ne hpr)
          have HPR := Lib.hid (HNE.out hpr)
          clear hpr
          have hB := hB.drew
          refine region_seq (fun w' => Below V.heap.size V w') [(0, true), (1, true), (2, true), (3, true), (4, true), (5, true), (6, true), (7, true), (8, true)] (by kernel_rfl) (by kernel_rfl) (fun _ _ _ _ h => h) hB ?_
          try generalize World.drew _ = wS at hB ⊢
          refine seq_take (v := ?_) (a' := ?_) (some 17) rfl rfl (by rfl) ?_ ?_ ?_
          rotate_left; rotate_left
          · intro w' hS; go_simp; with_reducible rfl
          · simp only [Act.put, List.setIfInBounds_toArray, List.set_cons_zero, List.set_cons_succ]; rfl
          refine seq_take (v := ?_) (a' := ?_) (some 18) rfl rfl (by rfl) ?_ ?_ ?_
          rotate_left; rotate_left
          · intro w' hS; go_simp; with_reducible rfl
          · simp only [Act.put, List.setIfInBounds_toArray, List.set_cons_zero, List.set_cons_succ]; rfl
          refine seq_take (v := ?_) (a' := ?_) (some 19) rfl rfl (by rfl) ?_ ?_ ?_
          rotate_left; rotate_left
          · intro w' hS; go_simp; with_reducible rfl
          · simp only [Act.put, List.setIfInBounds_toArray, List.set_cons_zero, List.set_cons_succ]; rfl
          refine seq_take (v := ?_) (a' := ?_) (some 20) rfl rfl (by rfl) ?_ ?_ ?_
          rotate_left; rotate_left
          · intro w' hS; have p0 := cb hS q0; have s0 := cb hS r0; have p1 := cb hS q1; have s1 := cb hS r1; go_simp; with_reducible rfl
          · simp only [Act.put, List.setIfInBounds_toArray, List.set_cons_zero, List.set_cons_succ]; rfl
          refine seq_take (v := ?_) (a' := ?_) (some 21) rfl rfl (by rfl) ?_ ?_ ?_
          rotate_left; rotate_left
          · intro w' hS; go_simp; with_reducible rfl
          · simp only [Act.put, List.setIfInBounds_toArray, List.set_cons_zero, List.set_cons_succ]; rfl
          refine seq_take (v := ?_) (a' := ?_) (some 22) rfl rfl (by rfl) ?_ ?_ ?_
          rotate_left; rotate_left
          · intro w' hS; go_simp; with_reducible rfl
          · simp only [Act.put, List.setIfInBounds_toArray, List.set_cons_zero, List.set_cons_succ]; rfl
          refine seq_take (v := ?_) (a' := ?_) (some 23) rfl rfl (by rfl) ?_ ?_ ?_
          rotate_left; rotate_left
          · intro w' hS; go_simp; with_reducible rfl
          · simp only [Act.put, List.setIfInBounds_toArray, List.set_cons_zero, List.set_cons_succ]; rfl
          refine seq_take (v := ?_) (a' := ?_) (some 24) rfl rfl (by rfl) ?_ ?_ ?_
          rotate_left; rotate_left
          · intro w' hS; have p0 := cb hS q0; have s0 := cb hS r0; have p1 := cb hS q1; have s1 := cb hS r1; go_simp; with_reducible rfl
          · simp only [Act.put, List.setIfInBounds_toArray, List.set_cons_zero, List.set_cons_succ]; rfl
          refine seq_take (v := ?_) (a' := ?_) (some 25) rfl rfl (by rfl) ?_ ?_ ?_
          rotate_left; rotate_left
          · intro w' hS; (first | (go_simp; with_reducible rfl) | (go_simp; exact resIf _ _ _ _ _ HZ.out))
          · simp only [Act.put, List.setIfInBounds_toArray, List.set_cons_zero, List.set_cons_succ]; rfl
          refine seq_done ?_
          go_wp2_with fail
          go_ret
          exact ⟨ret_bool (by rw [decide_eq_false HPR.out]), bl_next HB0.out hB⟩
      · obtain rfl : k = m.length := by omega
        go_wp2_with fail
        go_ret
        exact ⟨ret_bool (by rw [decide_eq_true]; have := HT.out; rw [List.take_length, ← HL.out, List.take_length] at this; exact this), hB⟩
  · have hlm : ¬ (l.length = m.length) := hlen
    have HNE := Lib.hid (show l ≠ m from fun e => hlen (by rw [e]))
    clear hlen
    go_enter Try.func88, Try.ntmps88
    go_wp2_with fail
    go_ret
    exact ⟨ret_bool (by rw [decide_eq_false HNE.out]), hB⟩
theorem rightR_calls (s : ByteArray) (w : World) (hs : s.size ≤ 1073741824000) :
    Calls Try.prog 86 #[.string s] w fun e w' => e = .returned (.bool (rightB s)) ∧ Below w.heap.size w w' :=
  (refRight_calls s w hs).mono fun e w' h => ⟨h.1, by obtain ⟨n, rfl⟩ := h.2; exact bl_dN (Below.refl _ _) n⟩
theorem beforeB_calls (a b : ByteArray) (w : World) (ha : a.size ≤ 1073741824000) (hb : b.size ≤ 1073741824000) :
    Calls Try.prog 81 #[.string a, .string b] w fun e w' => e = .returned (.bool (ltB a b)) ∧ Below w.heap.size w w' :=
  (before_calls a b w ha hb).mono fun e w' h => ⟨h.1, by obtain ⟨n, rfl⟩ := h.2; exact bl_dN (Below.refl _ _) n⟩
end Go.Proofs.Ythhfcambdmdgfaa
