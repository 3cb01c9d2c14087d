import Derived.Test.YtdcceaafiammfaaFdn
import Derived.Test.YtdcceaafiammfaaRw
namespace Go.Proofs.Ytdcceaafiammfaa
open Go.RowKit
set_option linter.unusedVariables false
set_option linter.unusedSimpArgs false
/-! ### Each in its turn: the plain law -/
def keysC (l : List Item) : List Value := l.flatMap fun x => [.string x.k, .string x.s, .string x.n]
def stC (l : List Item) : List Value := l.map fun x => .int .i64 (x.st : Int)
def openM (l : List Item) (cov : Nat) : List Nat := (openTo l cov l.length).filter fun i => decide ((itemAt l i).st = 0)
theorem openP_eq (l : List Item) (cov : Nat) : openP l (openTo l cov l.length) = (openM l cov).map fun i => Value.int .i64 ((i : Nat) : Int) := rfl
theorem openM_spec {l : List Item} {cov m : Nat} (h : m ∈ openM l cov) : m < l.length ∧ (itemAt l m).st = 0 ∧ stB l cov m = false := by
  unfold openM openTo at h
  simp only [List.mem_filter, List.mem_range, Bool.not_eq_true', decide_eq_true_eq] at h
  exact ⟨h.1.1, h.2, h.1.2⟩
theorem keysC_length (l : List Item) : (keysC l).length = l.length * 3 := by
  induction l with
  | nil => rfl
  | cons a r ih => simp only [keysC, List.flatMap_cons, List.length_append, List.length_cons] at ih ⊢; rw [ih]; simp; omega
theorem keysC_getD : ∀ (l : List Item) (i j : Nat) (hi : i < l.length) (hj : j < 3), (keysC l).getD (i * 3 + j) undef = [Value.string (itemAt l i).k, .string (itemAt l i).s, .string (itemAt l i).n].getD j undef
  | a :: r, 0, j, _, hj => by
    simp only [keysC, List.flatMap_cons, Nat.zero_mul, Nat.zero_add, List.getD_eq_getElem?_getD]
    rw [List.getElem?_append_left (by simpa using hj)]
    rfl
  | a :: r, i + 1, j, hi, hj => by
    have h := keysC_getD r i j (by simpa using hi) hj
    simp only [keysC, List.flatMap_cons, List.getD_eq_getElem?_getD] at h ⊢
    rw [List.getElem?_append_right (by simp; omega)]
    rw [show itemAt (a :: r) (i + 1) = itemAt r i from rfl, ← h]
    congr 2; simp; omega
theorem stC_getD {l : List Item} {i : Nat} (hi : i < l.length) : (stC l).getD i undef = .int .i64 ((itemAt l i).st : Int) := by
  unfold stC
  rw [List.getD_eq_getElem?_getD, List.getElem?_map, List.getElem?_eq_getElem hi, itemAt_eq hi]; rfl
theorem stC_set {l : List Item} {i st : Nat} : (stC l).set i (.int .i64 (st : Int)) = stC (setSt l i st) := by
  unfold stC setSt
  apply List.ext_getElem
  · simp
  · intro n h1 h2
    simp only [List.getElem_set, List.getElem_map, List.getElem_modify]
    split <;> rfl
theorem keysC_set {l : List Item} {i st : Nat} : keysC (setSt l i st) = keysC l := by
  unfold keysC setSt
  induction l generalizing i with
  | nil => simp
  | cons a r ih =>
    cases i with
    | zero => rfl
    | succ i => simp only [List.modify_succ_cons, List.flatMap_cons]; rw [ih]
theorem keysC_app (l : List Item) (x : Item) : keysC l ++ [.string x.k, .string x.s, .string x.n] = keysC (l ++ [x]) := by simp [keysC]
theorem stC_app (l : List Item) (x : Item) : stC l ++ [.int .i64 (x.st : Int)] = stC (l ++ [x]) := by simp [stC]
theorem turn_tell {l : List Item} {cov j : Nat} (hj : j < l.length) (hb : (openTo l cov j).any (blkB l j) = false) {m : Nat} (hm : m ∈ openM (setSt l j 1) cov) (hmj : m < j) : sameK (itemAt (setSt l j 1) m) (itemAt (setSt l j 1) j) = false := by
  obtain ⟨h1, h2, h3⟩ := openM_spec hm
  rw [setSt_length] at h1
  have e1 := itemAt_set l j m 1 hj h1
  have e2 := itemAt_set l j j 1 hj hj
  rw [if_neg (by omega)] at e1
  rw [if_pos rfl] at e2
  rw [stB_def, e1] at h3
  rw [e1] at h2
  have hin : m ∈ openTo l cov j := List.mem_filter.2 ⟨List.mem_range.2 hmj, by rw [stB_def, h3]; rfl⟩
  have := List.any_eq_false.1 hb m hin
  rw [e1, e2]
  unfold blkB at this
  rw [h2] at this
  simpa [sameK] using this
/-! ### What stays apart -/
theorem FS.apart {w cur : World} {fp : Nat} {v : Value} {l : List Item} {cov : Nat} (h : FS w cur fp v l cov) {base n sz : Nat} {e : TypeId} {kv : Value} {xs : List Value} (hr : cur.ownsRow base e sz kv n xs) (h1 : e ≠ 80) (h2 : e ≠ 76) : ∀ k, kv.ownBlock = some k → ¬ feedX fp v k := by
  intro k hk
  obtain ⟨_, cs, hc⟩ := rw_type hr hk
  exact feedX_other h.at' hc h1 h2
theorem FS.kept {w cur w' : World} {fp : Nat} {v : Value} {l : List Item} {cov : Nat} (h : FS w cur fp v l cov) {X : Nat → Prop} (hk : Kept X cur w') (hx : ∀ k, feedX fp v k → ¬ X k) (hb : ∀ k, X k → w.heap.size ≤ k) : FS w w' fp v l cov :=
  ⟨h.at'.kept hk hx, h.base, h.below.trans (hk.below h.below.size hb)⟩
theorem info_key : (Try.prog.info? 35).map (fun i => (i.zero, i.size, i.bytes)) = some (some (.agg #[.string ⟨#[]⟩, .string ⟨#[]⟩, .string ⟨#[]⟩]), 3, 48) := by kernel_rfl
theorem app_key {ops : Array Oper} {rest : List Oper} {o : Oper} {a : Act} {Q : Exit → Act → World → Prop} {w : World} (hgd : o.guard = none) (s x : Operand)
    (ho : o.op = .call { callee := .builtin .append, args := #[s, x], argTypes := #[28, 28] })
    (base : Nat) (tb : TypeId) (v : Value) (n : Nat) (xs : List Value) (k1 k2 k3 : ByteArray) (hs : a.eval s = v) (hown : w.ownsRow base 35 3 v n xs) (c : Nat) (hx : a.eval x = .slice (some ⟨w.heap.size, 0, none⟩) 1 c)
    (hbase : base ≤ w.heap.size) (hlen : n + 1 ≤ 100000000)
    (h : ∀ g cap w1, w1.ownsRow base 35 3 (.slice (some ⟨g, 0, none⟩) (n + 1) cap) (n + 1) (xs ++ [.string k1, .string k2, .string k3]) → Kept (fun k => v.ownBlock = some k) w w1 → (v.ownBlock = some g ∨ w.heap.size < g) → wpList Try.prog ops Q rest (a.put o.dst (.slice (some ⟨g, 0, none⟩) (n + 1) cap)) w1) :
    wpList Try.prog ops Q (o :: rest) a (w.alloc (.cells #[.string k1, .string k2, .string k3] tb)) := by
  obtain ⟨i0, hi, hz0, hz1, hz2⟩ := info_parts info_key
  exact app_rw hgd s x _ ho base _ i0 _ 3 48 Try.underlying28 hi hz0 hz1 hz2 rfl (by decide) tb v n xs [.string k1, .string k2, .string k3] hs hown c hx rfl (by simp [Value.oneCell']) hbase hlen (by decide) h
theorem apr_int {ops : Array Oper} {rest : List Oper} {o : Oper} {a : Act} {Q : Exit → Act → World → Prop} {w : World} (hgd : o.guard = none) (s x : Operand)
    (ho : o.op = .call { callee := .builtin .append, args := #[s, x], argTypes := #[29, 29] })
    (base : Nat) (tb : TypeId) (v : Value) (n : Nat) (xs : List Value) (u : Int) (hs : a.eval s = v) (hown : w.ownsRow base 3 1 v n xs) (c : Nat) (hx : a.eval x = .slice (some ⟨w.heap.size, 0, none⟩) 1 c)
    (hbase : base ≤ w.heap.size) (hlen : n + 1 ≤ 100000000)
    (h : ∀ g cap w1, w1.ownsRow base 3 1 (.slice (some ⟨g, 0, none⟩) (n + 1) cap) (n + 1) (xs ++ [.int .i64 u]) → Kept (fun k => v.ownBlock = some k) w w1 → (v.ownBlock = some g ∨ w.heap.size < g) → wpList Try.prog ops Q rest (a.put o.dst (.slice (some ⟨g, 0, none⟩) (n + 1) cap)) w1) :
    wpList Try.prog ops Q (o :: rest) a (w.alloc (.cells #[.int .i64 u] tb)) := by
  obtain ⟨i0, hi, hz0, hz1, hz2⟩ := info_parts info_int
  exact app_rw hgd s x _ ho base _ i0 _ 1 8 Try.underlying29 hi hz0 hz1 hz2 rfl (by decide) tb v n xs [.int .i64 u] hs hown c hx rfl (by simp [Value.oneCell']) hbase hlen (by decide) h
end Go.Proofs.Ytdcceaafiammfaa
