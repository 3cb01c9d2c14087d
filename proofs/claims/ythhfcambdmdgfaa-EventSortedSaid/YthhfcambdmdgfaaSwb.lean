import Derived.Test.YthhfcambdmdgfaaSwa
import Derived.IntWalk
namespace Go.Proofs.Ythhfcambdmdgfaa
open Go.RowKit Go.Maps Srt
set_option linter.unusedVariables false
set_option linter.unusedSimpArgs false
set_option maxRecDepth 100000 in
set_option maxHeartbeats 8000000 in
theorem rotate_calls {w0 W : World} {B g N cap : Nat} {d : Nat → OX} (h : SW w0 B g N cap d W) (hP : AllP N d) {a m b : Nat} (ham : a < m) (hmb : m < b) (hb : b ≤ N) (hN : N ≤ 1000000) (f : Value) :
    Calls Try.prog 116 #[.slice (some ⟨g, 0, none⟩) N cap, .int .i64 (a : Int), .int .i64 (m : Int), .int .i64 (b : Int), f] W fun e w' => e = .returned (.tuple #[]) ∧ SW w0 B g N cap (rot d a m b) w' := by
  have HSW0 := Lib.hid h; have HP := Lib.hid hP
  clear h hP
  have hi1 : (m : Int) ≤ 1000000 := by omega
  have hi2 : (a : Int) < m := by omega
  have hi3 : (m : Int) < b := by omega
  have hi4 : (b : Int) ≤ 1000000 := by omega
  go_enter Try.func116, Try.ntmps116
  go_wp2_with fail
  go_loopw [10, 11] (fun si sj wr => ∃ (i j : Nat) (dk : Nat → OX), si = .int .i64 (i : Int) ∧ sj = .int .i64 (j : Int) ∧ 0 < i ∧ 0 < j ∧ i ≤ m ∧ m + j ≤ N ∧ Hid (rot dk (m - i) m (m + j) = rot d a m b ∧ AllP N dk ∧ SW w0 B g N cap dk wr)) (fun si sj _ => (intOf si).toNat + (intOf sj).toNat)
  case atStart =>
    refine ⟨m - a, b - m, d, ?_, ?_, by omega, by omega, by omega, by omega, Lib.hid ⟨?_, HP.out, HSW0.out⟩⟩
    · rw [show ((m - a : Nat) : Int) = (m : Int) - a by omega]
    · rw [show ((b - m : Nat) : Int) = (b : Int) - m by omega]
    · rw [show m - (m - a) = a by omega, show m + (b - m) = b by omega]
  case round =>
    obtain ⟨i, j, dk, rfl, rfl, hi0, hj0, him, hjN, HD⟩ := hrel
    have k1 : (i : Int) ≤ m := by omega
    have k2 : (0 : Int) < i := by omega
    have k3 : (0 : Int) < j := by omega
    have k4 : (m : Int) + j ≤ 1000000 := by omega
    have e1 : ((m - i : Nat) : Int) = (m : Int) - i := by omega
    have e2 : ((m + j - i : Nat) : Int) = (m : Int) + j - i := by omega
    by_cases hij : i = j
    · subst hij
      have HC := swapR_calls HD.out.2.2 HD.out.2.1 (a := m - i) (b := m) (m := i) (by omega) (by omega) hN f
      rw [e1] at HC
      have HC := Lib.hid HC
      clear e1 e2
      go_wp2_with (go_at_call 127; refine HC.out.mono ?_; rintro e w' ⟨rfl, hs⟩; have HS := Lib.hid hs; clear hs)
      go_end0
      exact ⟨rfl, by rw [← HD.out.1, ← rot_even dk him]; exact HS.out⟩
    · have hne : ¬ (i : Int) = j := by omega
      have hnb : ((i : Int) == j) = false := by (rw [beq_eq_false_iff_ne]; exact hne)
      by_cases hlt : j < i
      · have hltI : (j : Int) < i := by omega
        have HC := swapR_calls HD.out.2.2 HD.out.2.1 (a := m - i) (b := m) (m := j) (by omega) (by omega) hN f
        rw [e1] at HC
        have HC := Lib.hid HC
        have HE := Lib.hid e2; have HIJ := Lib.hid hij
        clear e1 e2 hij
        go_wp2_with (go_at_call 127; refine HC.out.mono ?_; rintro e w' ⟨rfl, hs⟩; have HS := Lib.hid hs; clear hs)
        go_roundw
        case rel =>
          refine ⟨i - j, j, _, ?_, rfl, by omega, by omega, by omega, by omega, Lib.hid ⟨?_, allP_swR HD.out.2.1 (by omega) (by omega), HS.out⟩⟩
          · rw [show ((i - j : Nat) : Int) = (i : Int) - j by omega]
          · rw [rot_left dk him hlt]; exact HD.out.1
        case measure => simp [intOf]; omega
      · have hltI : ¬ (j : Int) < i := by omega
        have HIJ := Lib.hid (show i < j by omega)
        have HC := swapR_calls HD.out.2.2 HD.out.2.1 (a := m - i) (b := m + j - i) (m := i) (by omega) (by omega) hN f
        rw [e1, e2] at HC
        have HC := Lib.hid HC
        clear e1 e2 hij
        go_wp2_with (go_at_call 127; refine HC.out.mono ?_; rintro e w' ⟨rfl, hs⟩; have HS := Lib.hid hs; clear hs)
        go_roundw
        case rel =>
          have hIJ := HIJ.out
          refine ⟨i, j - i, _, rfl, ?_, by omega, by omega, by omega, by omega, Lib.hid ⟨?_, allP_swR HD.out.2.1 (by omega) (by omega), HS.out⟩⟩
          · rw [show ((j - i : Nat) : Int) = (j : Int) - i by omega]
          · rw [rot_right dk him hIJ]; exact HD.out.1
        case measure => have := HIJ.out; simp [intOf]; omega
def cmpO (p q : ObjD) : Int := if ltB (kTO p) (kTO q) then -1 else if ltB (kTO q) (kTO p) then 1 else 0
theorem cmpO_lt (p q : ObjD) : decide (cmpO p q < 0) = ltB (kTO p) (kTO q) := by
  unfold cmpO
  cases ltB (kTO p) (kTO q) <;> cases ltB (kTO q) (kTO p) <;> rfl
set_option maxRecDepth 100000 in
set_option maxHeartbeats 8000000 in
theorem cmp_calls (w : World) {p q : OX} (hp : OP p) (hq : OP q) :
    Calls Try.prog 58 #[objV p.1 p.2, objV q.1 q.2] w fun e w' => e = .returned (.int .i64 (cmpO p.1 q.1)) ∧ Below w.heap.size w w' := by
  obtain ⟨p, sp⟩ := p
  obtain ⟨q, sq⟩ := q
  obtain ⟨⟨⟨hp1, hp2, hp3⟩, _⟩, ap, np, cp, rfl⟩ := hp
  obtain ⟨⟨⟨hq1, hq2, hq3⟩, _⟩, aq, nq, cq, rfl⟩ := hq
  have HC := Lib.hid (show cmpO p q = if ltB (kTO p) (kTO q) then -1 else if ltB (kTO q) (kTO p) then 1 else 0 from rfl)
  obtain ⟨b1, hb1⟩ : ∃ b, ltB (kTO p) (kTO q) = b := ⟨_, rfl⟩
  obtain ⟨b2, hb2⟩ : ∃ b, ltB (kTO q) (kTO p) = b := ⟨_, rfl⟩
  rw [hb1, hb2] at HC
  have H1 := Lib.hid (show Op.bytesLess (keyText p.key.kind p.key.space p.key.name).toList (keyText q.key.kind q.key.space q.key.name).toList = b1 from hb1)
  have H2 := Lib.hid (show Op.bytesLess (keyText q.key.kind q.key.space q.key.name).toList (keyText p.key.kind p.key.space p.key.name).toList = b2 from hb2)
  clear hb1 hb2
  unfold objV
  go_enter Try.func58, Try.ntmps58
  go_upto_region 1 with fail
  first | with_reducible refine name_wp ?_ | with_reducible refine name_calls ?_
  intro W hWeq
  have g0 : W.heap[w.heap.size]? = some (.cells #[.string p.key.kind, .string p.key.space, .string p.key.name, .int .i64 p.ver, .string p.cls, .bool p.term, .bool p.best, .slice ap np cp] 27) := by rw [hWeq]; repeat (first | (with_reducible exact blk_newAt _ _ (by simp)) | with_reducible refine blk_drew ?_ | with_reducible refine blk_dN ?_ _ | with_reducible refine blk_old ?_ _)
  have g1 : W.heap[w.heap.size + 1]? = some (.cells #[.string q.key.kind, .string q.key.space, .string q.key.name, .int .i64 q.ver, .string q.cls, .bool q.term, .bool q.best, .slice aq nq cq] 27) := by rw [hWeq]; repeat (first | (with_reducible exact blk_newAt _ _ (by simp)) | with_reducible refine blk_drew ?_ | with_reducible refine blk_dN ?_ _ | with_reducible refine blk_old ?_ _)
  have hw : Below w.heap.size w W := by rw [hWeq]; repeat (first | with_reducible exact Below.refl _ _ | with_reducible refine Below.drew ?_ | with_reducible refine bl_dN ?_ _ | with_reducible refine Below.alloc ?_ (by simp <;> omega) _)
  clear hWeq
  have hz : w.heap.size + 2 ≤ W.heap.size := by have := blk_lt g1; omega
  have c0_0 : W.cell? ⟨w.heap.size, 0, none⟩ = some (.string p.key.kind) := blk_cell g0 0
  have c0_1 : W.cell? ⟨w.heap.size, 1, none⟩ = some (.string p.key.space) := blk_cell g0 1
  have c0_2 : W.cell? ⟨w.heap.size, 2, none⟩ = some (.string p.key.name) := blk_cell g0 2
  have c0_3 : W.cell? ⟨w.heap.size, 3, none⟩ = some (.int .i64 p.ver) := blk_cell g0 3
  have c0_4 : W.cell? ⟨w.heap.size, 4, none⟩ = some (.string p.cls) := blk_cell g0 4
  have c0_5 : W.cell? ⟨w.heap.size, 5, none⟩ = some (.bool p.term) := blk_cell g0 5
  have c0_6 : W.cell? ⟨w.heap.size, 6, none⟩ = some (.bool p.best) := blk_cell g0 6
  have c0_7 : W.cell? ⟨w.heap.size, 7, none⟩ = some (.slice ap np cp) := blk_cell g0 7
  have f0 : ∀ j, W.frozen? ⟨w.heap.size, j, none⟩ = false := blk_free g0
  have c1_0 : W.cell? ⟨w.heap.size + 1, 0, none⟩ = some (.string q.key.kind) := blk_cell g1 0
  have c1_1 : W.cell? ⟨w.heap.size + 1, 1, none⟩ = some (.string q.key.space) := blk_cell g1 1
  have c1_2 : W.cell? ⟨w.heap.size + 1, 2, none⟩ = some (.string q.key.name) := blk_cell g1 2
  have c1_3 : W.cell? ⟨w.heap.size + 1, 3, none⟩ = some (.int .i64 q.ver) := blk_cell g1 3
  have c1_4 : W.cell? ⟨w.heap.size + 1, 4, none⟩ = some (.string q.cls) := blk_cell g1 4
  have c1_5 : W.cell? ⟨w.heap.size + 1, 5, none⟩ = some (.bool q.term) := blk_cell g1 5
  have c1_6 : W.cell? ⟨w.heap.size + 1, 6, none⟩ = some (.bool q.best) := blk_cell g1 6
  have c1_7 : W.cell? ⟨w.heap.size + 1, 7, none⟩ = some (.slice aq nq cq) := blk_cell g1 7
  have f1 : ∀ j, W.frozen? ⟨w.heap.size + 1, j, none⟩ = false := blk_free g1
  have hB : Below W.heap.size W W := Below.refl _ _
  have G0 := Lib.hid g0; clear g0
  have F0 := Lib.hid f0; clear f0
  have G1 := Lib.hid g1; clear g1
  have F1 := Lib.hid f1; clear f1
  have Hw := Lib.hid hw; clear hw
  cases b1 with
  | true =>
    go_wp2_with (go_at_call 25; refine (less_calls _ _ _ _ _ _ _ (by omega) (by omega)).mono ?_; rintro e w' ⟨rfl, hb⟩; (first | rw [H1.out] | rw [H2.out]); have hB := bl_next hB hb; have c0_0 := cb hb c0_0; have c0_1 := cb hb c0_1; have c0_2 := cb hb c0_2; have c0_3 := cb hb c0_3; have c0_4 := cb hb c0_4; have c0_5 := cb hb c0_5; have c0_6 := cb hb c0_6; have c0_7 := cb hb c0_7; have c1_0 := cb hb c1_0; have c1_1 := cb hb c1_1; have c1_2 := cb hb c1_2; have c1_3 := cb hb c1_3; have c1_4 := cb hb c1_4; have c1_5 := cb hb c1_5; have c1_6 := cb hb c1_6; have c1_7 := cb hb c1_7; clear hb)
    go_ret
    exact ⟨ret_int (by rw [HC.out]; rfl), bl_from Hw.out hB⟩
  | false =>
    cases b2 with
    | true =>
      go_wp2_with (go_at_call 25; refine (less_calls _ _ _ _ _ _ _ (by omega) (by omega)).mono ?_; rintro e w' ⟨rfl, hb⟩; (first | rw [H1.out] | rw [H2.out]); have hB := bl_next hB hb; have c0_0 := cb hb c0_0; have c0_1 := cb hb c0_1; have c0_2 := cb hb c0_2; have c0_3 := cb hb c0_3; have c0_4 := cb hb c0_4; have c0_5 := cb hb c0_5; have c0_6 := cb hb c0_6; have c0_7 := cb hb c0_7; have c1_0 := cb hb c1_0; have c1_1 := cb hb c1_1; have c1_2 := cb hb c1_2; have c1_3 := cb hb c1_3; have c1_4 := cb hb c1_4; have c1_5 := cb hb c1_5; have c1_6 := cb hb c1_6; have c1_7 := cb hb c1_7; clear hb)
      go_ret
      exact ⟨ret_int (by rw [HC.out]; rfl), bl_from Hw.out hB⟩
    | false =>
      go_wp2_with (go_at_call 25; refine (less_calls _ _ _ _ _ _ _ (by omega) (by omega)).mono ?_; rintro e w' ⟨rfl, hb⟩; (first | rw [H1.out] | rw [H2.out]); have hB := bl_next hB hb; have c0_0 := cb hb c0_0; have c0_1 := cb hb c0_1; have c0_2 := cb hb c0_2; have c0_3 := cb hb c0_3; have c0_4 := cb hb c0_4; have c0_5 := cb hb c0_5; have c0_6 := cb hb c0_6; have c0_7 := cb hb c0_7; have c1_0 := cb hb c1_0; have c1_1 := cb hb c1_1; have c1_2 := cb hb c1_2; have c1_3 := cb hb c1_3; have c1_4 := cb hb c1_4; have c1_5 := cb hb c1_5; have c1_6 := cb hb c1_6; have c1_7 := cb hb c1_7; clear hb)
      go_ret
      exact ⟨ret_int (by rw [HC.out]; rfl), bl_from Hw.out hB⟩
end Go.Proofs.Ythhfcambdmdgfaa
