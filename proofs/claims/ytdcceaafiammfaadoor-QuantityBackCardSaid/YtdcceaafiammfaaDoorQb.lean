import Derived.Test.YtdcceaafiammfaaDoorProg
import Derived.Test.YtdcceaafiammfaaDoorQa
import Derived.Laws.Cells
namespace Go.Proofs.YtdcceaafiammfaaDoor
open Go.RowKit
set_option linter.unusedVariables false
set_option linter.unusedSimpArgs false
set_option maxHeartbeats 4000000 in
set_option maxRecDepth 100000 in
theorem qfigures_calls (s : ByteArray) (w : World) (hs : s.size ≤ 1000) :
    Calls Tryd.prog 15 #[.string s] w fun e w' => e = .returned (.int .i64 (figN s)) ∧ Below w.heap.size w w' := by
  go_enter Tryd.func15, Tryd.ntmps15
  go_wp2
  go_step3
  go_wp2
  go_step3
  go_wp2
  go_loopw [3] (fun i wr => ∃ k : Nat, i = .int .i64 k ∧ k ≤ s.size ∧ Hid (∀ j, j < k → 48 ≤ byteAt s j ∧ byteAt s j ≤ 57) ∧ w = wr) (fun i _ => s.size - (intOf i).toNat)
  case atStart => exact ⟨0, rfl, by omega, Lib.hid (fun j hj => by omega), rfl⟩
  case round =>
    obtain ⟨k, rfl, hk, hall, rfl⟩ := hrel
    by_cases hlt : k < s.size
    · have hkn : (k : Int) < s.size := by omega
      have hbk := byteAt_eq s k hlt
      go_wp2_with fail
      · try simp only [Exit.noGoto]
        go_ret
        exact ⟨ret_int (by rw [figN_eq hk hall.out (.inr (by rw [hbk]; omega))]), Below.refl _ _⟩
      · go_roundw
        case rel => exact ⟨k + 1, by go_num, by omega, Lib.hid (fun j hj => by rcases Nat.lt_succ_iff_lt_or_eq.1 hj with q | rfl; exact hall.out j q; rw [hbk]; omega), trivial⟩
        case measure => simp [intOf]; omega
      · try simp only [Exit.noGoto]
        go_ret
        exact ⟨ret_int (by rw [figN_eq hk hall.out (.inr (by rw [hbk]; omega))]), Below.refl _ _⟩
    · have hkn := Lib.hid (show k = s.size by omega)
      go_wp2_with fail
      try simp only [Exit.noGoto]
      go_ret
      exact ⟨ret_int (by rw [figN_eq hk hall.out (.inl hkn.out)]), Below.refl _ _⟩
set_option maxHeartbeats 4000000 in
set_option maxRecDepth 100000 in
theorem rfactor_calls (s : ByteArray) (w : World) : Calls Tryd.prog 12 #[.string s] w fun e w' => e = .returned (.int .i64 (facV s.toList)) ∧ Below w.heap.size w w' := by
  go_enter Tryd.func12, Tryd.ntmps12
  go_wp2
  all_goals go_ret
  all_goals refine ⟨ret_int ?_, Below.refl _ _⟩
  all_goals symm
  all_goals first | exact facV_nil ‹_› | (refine facV_of ‹_› ?_; rfl) | exact facV_none ‹_› ‹_› ‹_› ‹_› ‹_› ‹_› ‹_› ‹_› ‹_›
def facR (k : Nat) (l : List UInt8) : Int := (((sufL.drop k).find? fun x => l == x.1).map (·.2)).getD 0
theorem facR_hit {k : Nat} {l m : List UInt8} {f : Int} (hd : (sufL.drop k).head? = some (m, f)) (h : (l == m) = true) : facR k l = f := by
  unfold facR
  cases hs : sufL.drop k with
  | nil => rw [hs] at hd; cases hd
  | cons x r => rw [hs] at hd; cases hd; simp [List.find?, h]
theorem facR_miss {k : Nat} {l m : List UInt8} {f : Int} (hd : (sufL.drop k).head? = some (m, f)) (h : (l == m) = false) : facR k l = facR (k + 1) l := by
  unfold facR
  rw [show sufL.drop (k + 1) = (sufL.drop k).tail by rw [List.tail_drop]]
  cases hs : sufL.drop k with
  | nil => rw [hs] at hd; cases hd
  | cons x r => rw [hs] at hd; cases hd; simp [List.find?, h]
theorem beq_sw {l m : List UInt8} {b : Bool} (h : (l == m) = b) : (m == l) = b := by rw [← h, Bool.eq_iff_iff, beq_iff_eq, beq_iff_eq]; exact ⟨Eq.symm, Eq.symm⟩
theorem empty_beq {l : List UInt8} : (l == []) = l.isEmpty := by cases l <;> rfl
theorem suf_load {w : World} (q : QV w) : (loadCellsFrom ⟨0, 0, none⟩ 0 18 #[]).run Tryd.prog w = .ok sufA w := by
  have C := q.cells
  rw [run_loadCellsFrom (P := Tryd.prog) (w := w) ⟨0, 0, none⟩ (fun j => sufA.getD j undef) 18 0 #[] (fun j hj => by
    have e0 : (⟨0, 0, none⟩ : Addr).add (0 + j) = ⟨0, j, none⟩ := by unfold Addr.add; split <;> simp_all
    rw [e0, C]
    have : j < sufA.size := hj
    simp [Array.getD, this])]
  rfl
theorem load_suf {ops : Array Oper} {rest : List Oper} {o : Oper} {a : Act} {Q : Exit → Act → World → Prop} {w : World} (hgd : o.guard = none) (p : Operand) (ho : o.op = .load 42 p)
    (hp : a.eval p = .pointer (some ⟨0, 0, none⟩)) (q : QV w) (h : wpList Tryd.prog ops Q rest (a.put o.dst (.agg sufA)) w) : wpList Tryd.prog ops Q (o :: rest) a w := by
  refine wpList_plain hgd fun K hK' => ?_
  have hrun : (execOp a.eval o).run Tryd.prog w = .ok (.value (.agg sufA)) w := by
    have h1 := suf_load q
    have h2 : (isAgg 42).run Tryd.prog w = .ok true w := by kernel_rfl
    have h3 : (sizeOf 42).run Tryd.prog w = .ok 18 w := by kernel_rfl
    unfold execOp
    simp [ho, hp, Instr.loadAt, Instr.sureAddr, loadVar, loadCells, h1, h2, h3, Result.andThen]
  unfold Oper.wp
  rw [hrun, Oper.upon_value]
  exact hK' _ _ h
def sufT (k : Nat) : ByteArray := ⟨((sufL.getD k ([], 0)).1).toArray⟩
def sufF (k : Nat) : Int := (sufL.getD k ([], 0)).2
theorem suf_index (A : Value) (hA : Value.agg sufA = A) (k : Nat) (hk : k < 9) : ∀ w, (Instr.index 42 A (.int .i64 (k : Int))).run Tryd.prog w = .ok (.agg #[.string (sufT k), .int .i64 (sufF k)]) w := by
  intro w
  subst hA
  match k, hk with
  | 0, _ => exact (show (Instr.index 42 (.agg sufA) (.int .i64 0)).run Tryd.prog w = .ok (.agg #[.string ⟨#[]⟩, .int .i64 1]) w by kernel_rfl)
  | 1, _ => exact (show (Instr.index 42 (.agg sufA) (.int .i64 1)).run Tryd.prog w = .ok (.agg #[.string ⟨#[107]⟩, .int .i64 1000]) w by kernel_rfl)
  | 2, _ => exact (show (Instr.index 42 (.agg sufA) (.int .i64 2)).run Tryd.prog w = .ok (.agg #[.string ⟨#[75, 105]⟩, .int .i64 1024]) w by kernel_rfl)
  | 3, _ => exact (show (Instr.index 42 (.agg sufA) (.int .i64 3)).run Tryd.prog w = .ok (.agg #[.string ⟨#[77]⟩, .int .i64 1000000]) w by kernel_rfl)
  | 4, _ => exact (show (Instr.index 42 (.agg sufA) (.int .i64 4)).run Tryd.prog w = .ok (.agg #[.string ⟨#[77, 105]⟩, .int .i64 1048576]) w by kernel_rfl)
  | 5, _ => exact (show (Instr.index 42 (.agg sufA) (.int .i64 5)).run Tryd.prog w = .ok (.agg #[.string ⟨#[71]⟩, .int .i64 1000000000]) w by kernel_rfl)
  | 6, _ => exact (show (Instr.index 42 (.agg sufA) (.int .i64 6)).run Tryd.prog w = .ok (.agg #[.string ⟨#[71, 105]⟩, .int .i64 1073741824]) w by kernel_rfl)
  | 7, _ => exact (show (Instr.index 42 (.agg sufA) (.int .i64 7)).run Tryd.prog w = .ok (.agg #[.string ⟨#[84]⟩, .int .i64 1000000000000]) w by kernel_rfl)
  | 8, _ => exact (show (Instr.index 42 (.agg sufA) (.int .i64 8)).run Tryd.prog w = .ok (.agg #[.string ⟨#[84, 105]⟩, .int .i64 1099511627776]) w by kernel_rfl)
theorem suf_head (k : Nat) (hk : k < 9) : (sufL.drop k).head? = some ((sufT k).toList, sufF k) := by
  rw [Lib.toList_data]
  match k, hk with
  | 0, _ | 1, _ | 2, _ | 3, _ | 4, _ | 5, _ | 6, _ | 7, _ | 8, _ => rfl
end Go.Proofs.YtdcceaafiammfaaDoor
