import Derived.Test.YtdcceaafiammfaaProg
import Derived.Test.YtdcceaafiammfaaLawe
namespace Go.Proofs.Ytdcceaafiammfaa
open Go.RowKit
set_option linter.unusedSimpArgs false
set_option linter.unusedVariables false
/-- A wide result: the number, or nothing. -/
def oHi (ok : Bool) (v : Int) : Int := if ok then whi v else 0
def oLo (ok : Bool) (v : Int) : Int := if ok then wlo v else 0
def resV (ok : Bool) (v : Int) : Value := .tuple #[.agg #[.int .i64 (oHi ok v), .int .u64 (oLo ok v)], .bool ok]
theorem wideRes_eq (v : Int) : wideRes v = resV (wIn v) v := by
  unfold wideRes resV oHi oLo; cases wIn v <;> rfl
theorem shiftRes_eq (v : Int) (n : Nat) (h : n < 128) : shiftRes v n = resV (wIn (v * 2 ^ n)) (v * 2 ^ n) := by
  rw [shiftRes, if_pos (by omega), Int.toNat_natCast, wideRes_eq]
theorem oOk {ok : Bool} {v : Int} (h : ok = true → wIn v = true) : WOk (oHi ok v) (oLo ok v) := by
  cases ok with
  | false => show WOk 0 0; constructor <;> decide
  | true => exact WOk.of_in (h rfl)
theorem res_of {h l : Int} (k : WOk h l) : resV true (wval h l) = .tuple #[.agg #[.int .i64 h, .int .u64 l], .bool true] := by
  unfold resV oHi oLo; rw [if_pos rfl, if_pos rfl, whi_val k, wlo_val k]
theorem oval {v : Int} : wval (oHi true v) (oLo true v) = v := by unfold oHi oLo; rw [if_pos rfl, if_pos rfl, wval_of]
theorem wIn_grow {v : Int} {m : Nat} (h : wIn v = false) : wIn (v * 2 ^ m) = false := by
  have hp : (1 : Int) ≤ 2 ^ m := pw_pos m
  simp only [wIn, Bool.and_eq_false_iff, decide_eq_false_iff_not] at h ⊢
  unfold whi at *
  have h1 : 0 ≤ v → v ≤ v * 2 ^ m := fun q => by have := Int.mul_le_mul_of_nonneg_left hp q; omega
  have h2 : v < 0 → v * 2 ^ m ≤ v := fun q => by have := Int.mul_le_mul_of_nonpos_left (show v ≤ 0 by omega) hp; omega
  omega
set_option maxHeartbeats 4000000 in
set_option maxRecDepth 100000 in
theorem wback_law (h0 l0 h1 l1 b0 b1 : Int) (w : World) (k0 : WOk h0 l0) (k1 : WOk h1 l1) (p0 : 0 ≤ b0 ∧ b0 ≤ 255) (p1 : 0 ≤ b1 ∧ b1 ≤ 255) :
    Calls Try.prog 10 #[.agg #[.int .i64 h0, .int .u64 l0, .int .i64 h1, .int .u64 l1], .agg #[.int .u8 b0, .int .u8 b1]] w fun e w' => e = .returned (.bool true) ∧ Below w.heap.size w w' := by
  obtain ⟨s, hs⟩ : ∃ s, s = wval h0 l0 + wval h1 l1 := ⟨_, rfl⟩
  obtain ⟨ok, hok⟩ : ∃ ok, ok = wIn s := ⟨_, rfl⟩
  obtain ⟨sh, hsh⟩ : ∃ x, x = oHi ok s := ⟨_, rfl⟩
  obtain ⟨sl, hsl⟩ : ∃ x, x = oLo ok s := ⟨_, rfl⟩
  have R1 := Lib.hid (show wideRes (wval h0 l0 + wval h1 l1) = .tuple #[.agg #[.int .i64 sh, .int .u64 sl], .bool ok] by rw [← hs, wideRes_eq, ← hok, resV, ← hsh, ← hsl])
  have R2 := Lib.hid (show wideRes (wval h1 l1 + wval h0 l0) = .tuple #[.agg #[.int .i64 sh, .int .u64 sl], .bool ok] by rw [Int.add_comm]; exact R1.out)
  have KS := Lib.hid (show WOk sh sl by rw [hsh, hsl]; exact oOk (fun h => hok ▸ h))
  have R3 := Lib.hid (show ok = true → wideRes (wval sh sl - wval h1 l1) = .tuple #[.agg #[.int .i64 h0, .int .u64 l0], .bool true] from fun h => by
    subst h; rw [hsh, hsl, oval, hs, Int.add_sub_cancel, wideRes_eq, wIn_val k0, res_of k0])
  have R4 := Lib.hid (show ok = true → wideRes (wval sh sl - wval h0 l0) = .tuple #[.agg #[.int .i64 h1, .int .u64 l1], .bool true] from fun h => by
    subst h; rw [hsh, hsl, oval, hs, Int.add_comm, Int.add_sub_cancel, wideRes_eq, wIn_val k1, res_of k1])
  clear hs hok hsh hsl
  obtain ⟨d, hd⟩ : ∃ d, d = wval h0 l0 - wval h1 l1 := ⟨_, rfl⟩
  obtain ⟨g, hg⟩ : ∃ g, g = wIn d := ⟨_, rfl⟩
  obtain ⟨dh, hdh⟩ : ∃ x, x = oHi g d := ⟨_, rfl⟩
  obtain ⟨dl, hdl⟩ : ∃ x, x = oLo g d := ⟨_, rfl⟩
  have R5 := Lib.hid (show wideRes (wval h0 l0 - wval h1 l1) = .tuple #[.agg #[.int .i64 dh, .int .u64 dl], .bool g] by rw [← hd, wideRes_eq, ← hg, resV, ← hdh, ← hdl])
  have KD := Lib.hid (show WOk dh dl by rw [hdh, hdl]; exact oOk (fun h => hg ▸ h))
  have R6 := Lib.hid (show g = true → wideRes (wval dh dl + wval h1 l1) = .tuple #[.agg #[.int .i64 h0, .int .u64 l0], .bool true] from fun h => by
    subst h; rw [hdh, hdl, oval, hd, Int.sub_add_cancel, wideRes_eq, wIn_val k0, res_of k0])
  clear hd hg hdh hdl
  obtain ⟨x, hx⟩ : ∃ x, x = wval h0 l0 + wval h0 l0 := ⟨_, rfl⟩
  obtain ⟨xo, hxo⟩ : ∃ g, g = wIn x := ⟨_, rfl⟩
  obtain ⟨xh, hxh⟩ : ∃ y, y = oHi xo x := ⟨_, rfl⟩
  obtain ⟨xl, hxl⟩ : ∃ y, y = oLo xo x := ⟨_, rfl⟩
  have R8 := Lib.hid (show wideRes (wval h0 l0 + wval h0 l0) = .tuple #[.agg #[.int .i64 xh, .int .u64 xl], .bool xo] by rw [← hx, wideRes_eq, ← hxo, resV, ← hxh, ← hxl])
  have R7 := Lib.hid (show shiftRes (wval h0 l0) 1 = .tuple #[.agg #[.int .i64 xh, .int .u64 xl], .bool xo] by
    have := shiftRes_eq (wval h0 l0) 1 (by decide)
    rw [show wval h0 l0 * 2 ^ 1 = x by rw [hx]; omega, ← hxo, resV, ← hxh, ← hxl] at this
    exact this)
  clear hx hxo hxh hxl
  obtain ⟨n, hn⟩ : ∃ n : Nat, b0 % 64 = (n : Int) := ⟨(b0 % 64).toNat, by omega⟩
  obtain ⟨m, hm⟩ : ∃ m : Nat, b1 % 64 = (m : Int) := ⟨(b1 % 64).toNat, by omega⟩
  have NB := Lib.hid (show n < 64 ∧ m < 64 by omega)
  obtain ⟨j, hj⟩ : ∃ j, j = wIn (wval h0 l0 * 2 ^ n) := ⟨_, rfl⟩
  obtain ⟨uh, huh⟩ : ∃ y, y = oHi j (wval h0 l0 * 2 ^ n) := ⟨_, rfl⟩
  obtain ⟨ul, hul⟩ : ∃ y, y = oLo j (wval h0 l0 * 2 ^ n) := ⟨_, rfl⟩
  have KU := Lib.hid (show WOk uh ul by rw [huh, hul]; exact oOk (fun h => hj ▸ h))
  have R9 := Lib.hid (show shiftRes (wval h0 l0) (n : Int) = .tuple #[.agg #[.int .i64 uh, .int .u64 ul], .bool j] by rw [shiftRes_eq _ _ (by omega), ← hj, resV, ← huh, ← hul])
  obtain ⟨vo, hvo⟩ : ∃ y, y = wIn (wval uh ul * 2 ^ m) := ⟨_, rfl⟩
  obtain ⟨vh, hvh⟩ : ∃ y, y = oHi vo (wval uh ul * 2 ^ m) := ⟨_, rfl⟩
  obtain ⟨vl, hvl⟩ : ∃ y, y = oLo vo (wval uh ul * 2 ^ m) := ⟨_, rfl⟩
  have R10 := Lib.hid (show shiftRes (wval uh ul) (m : Int) = .tuple #[.agg #[.int .i64 vh, .int .u64 vl], .bool vo] by rw [shiftRes_eq _ _ (by omega), ← hvo, resV, ← hvh, ← hvl])
  obtain ⟨qo, hqo⟩ : ∃ y, y = wIn (wval h0 l0 * 2 ^ (n + m)) := ⟨_, rfl⟩
  obtain ⟨qh, hqh⟩ : ∃ y, y = oHi qo (wval h0 l0 * 2 ^ (n + m)) := ⟨_, rfl⟩
  obtain ⟨ql, hql⟩ : ∃ y, y = oLo qo (wval h0 l0 * 2 ^ (n + m)) := ⟨_, rfl⟩
  have R11 := Lib.hid (show shiftRes (wval h0 l0) ((n : Int) + (m : Int)) = .tuple #[.agg #[.int .i64 qh, .int .u64 ql], .bool qo] by
    have := shiftRes_eq (wval h0 l0) (n + m) (by omega)
    rw [← hqo, resV, ← hqh, ← hql] at this
    exact this)
  have F1 := Lib.hid (show j = true → vo = qo ∧ vh = qh ∧ vl = ql from fun h => by
    rw [h] at huh hul
    have e : wval uh ul * 2 ^ m = wval h0 l0 * 2 ^ (n + m) := by rw [huh, hul, oval, Int.mul_assoc, Int.pow_add]
    rw [e] at hvo hvh hvl
    have : vo = qo := hvo.trans hqo.symm
    subst this
    exact ⟨rfl, hvh.trans hqh.symm, hvl.trans hql.symm⟩)
  have F2 := Lib.hid (show j = false → qo = false from fun h => by
    rw [h] at hj
    rw [hqo, Int.pow_add, ← Int.mul_assoc]
    exact wIn_grow hj.symm)
  have N0 := Lib.hid hn; have N1 := Lib.hid hm
  clear hn hm hj huh hul hvo hvh hvl hqo hqh hql
  have K0 := Lib.hid k0; have K1 := Lib.hid k1; have P0 := Lib.hid p0; have P1 := Lib.hid p1; clear k0 k1 p0 p1
  go_enter Try.func10, Try.ntmps10
  go_upto_region 1 with fail
  first | with_reducible refine name_wp ?_ | with_reducible refine name_calls ?_
  intro W hWeq
  have g0 : W.heap[w.heap.size]? = some (.cells #[.int .i64 h0, .int .u64 l0, .int .i64 h1, .int .u64 l1] 58) := by rw [hWeq]; repeat (first | (with_reducible exact blk_newAt _ _ (by simp)) | with_reducible refine blk_drew ?_ | with_reducible refine blk_dN ?_ _ | with_reducible refine blk_old ?_ _)
  have g1 : W.heap[w.heap.size + 1]? = some (.cells #[.int .u8 b0, .int .u8 b1] 68) := by rw [hWeq]; repeat (first | (with_reducible exact blk_newAt _ _ (by simp)) | with_reducible refine blk_drew ?_ | with_reducible refine blk_dN ?_ _ | with_reducible refine blk_old ?_ _)
  have hw : Below w.heap.size w W := by rw [hWeq]; repeat (first | with_reducible exact Below.refl _ _ | with_reducible refine Below.drew ?_ | with_reducible refine bl_dN ?_ _ | with_reducible refine Below.alloc ?_ (by simp <;> omega) _)
  clear hWeq
  have hz : w.heap.size + 2 ≤ W.heap.size := by have := blk_lt g1; omega
  have c0_0 : W.cell? ⟨w.heap.size, 0, none⟩ = some (.int .i64 h0) := blk_cell g0 0
  have c0_1 : W.cell? ⟨w.heap.size, 1, none⟩ = some (.int .u64 l0) := blk_cell g0 1
  have c0_2 : W.cell? ⟨w.heap.size, 2, none⟩ = some (.int .i64 h1) := blk_cell g0 2
  have c0_3 : W.cell? ⟨w.heap.size, 3, none⟩ = some (.int .u64 l1) := blk_cell g0 3
  have f0 : ∀ j, W.frozen? ⟨w.heap.size, j, none⟩ = false := blk_free g0
  have c1_0 : W.cell? ⟨w.heap.size + 1, 0, none⟩ = some (.int .u8 b0) := blk_cell g1 0
  have c1_1 : W.cell? ⟨w.heap.size + 1, 1, none⟩ = some (.int .u8 b1) := blk_cell g1 1
  have f1 : ∀ j, W.frozen? ⟨w.heap.size + 1, j, none⟩ = false := blk_free g1
  have hB : Below W.heap.size W W := Below.refl _ _
  have G0 := Lib.hid g0; clear g0
  have F0 := Lib.hid f0; clear f0
  have G1 := Lib.hid g1; clear g1
  have F1 := Lib.hid f1; clear f1
  have Hw := Lib.hid hw; clear hw
  go_upto_region 2 with (go_at_call 38; refine (wadd_calls h0 l0 h1 l1 _ K0.out K1.out).mono ?_; rintro e w' ⟨rfl, hb⟩; rw [R1.out]; have hB := bl_next (by repeat (first | with_reducible exact hB | refine Below.alloc ?_ (by have := hB.size; simp; omega) _ | refine bl_dN ?_ _ | refine Below.drew ?_ | refine Below.setCell ?_ (by have := hB.size; simp; omega) _)) hb; clear hb; have k0_0 := cb hB c0_0; have k0_1 := cb hB c0_1; have k0_2 := cb hB c0_2; have k0_3 := cb hB c0_3; have k1_0 := cb hB c1_0; have k1_1 := cb hB c1_1; have kz0 : w.heap.size < _ := lt_of_cell k0_0; have kz1 : w.heap.size + 1 < _ := lt_of_cell k1_0)
  obtain ⟨w1, rfl⟩ : ∃ w1 : World, w1 = w' := ⟨_, rfl⟩
  first | with_reducible refine name_wp ?_ | with_reducible refine name_calls ?_
  intro W1 hWeq
  have g2 : W1.heap[w1.heap.size]? = some (.cells #[.int .i64 sh, .int .u64 sl] 57) := by rw [hWeq]; repeat (first | (with_reducible exact blk_newAt _ _ (by simp)) | with_reducible refine blk_drew ?_ | with_reducible refine blk_dN ?_ _ | with_reducible refine blk_old ?_ _)
  have hWW : Below W.heap.size W W1 := by rw [hWeq]; exact (by repeat (first | with_reducible exact hB | refine Below.alloc ?_ (by have := hB.size; simp; omega) _ | refine bl_dN ?_ _ | refine Below.drew ?_ | refine Below.setCell ?_ (by have := hB.size; simp; omega) _))
  have hw := bl_from Hw.out hWW
  clear Hw
  have c0_0 := cb hWW c0_0
  have c0_1 := cb hWW c0_1
  have c0_2 := cb hWW c0_2
  have c0_3 := cb hWW c0_3
  have c1_0 := cb hWW c1_0
  have c1_1 := cb hWW c1_1
  have hz : W.heap.size ≤ W1.heap.size := hWW.size
  have HB_W1 := Lib.hid hWW; clear hWW hz
  clear hWeq
  have hz : w1.heap.size + 1 ≤ W1.heap.size := by have := blk_lt g2; omega
  have c2_0 : W1.cell? ⟨w1.heap.size, 0, none⟩ = some (.int .i64 sh) := blk_cell g2 0
  have c2_1 : W1.cell? ⟨w1.heap.size, 1, none⟩ = some (.int .u64 sl) := blk_cell g2 1
  have f2 : ∀ j, W1.frozen? ⟨w1.heap.size, j, none⟩ = false := blk_free g2
  have hB : Below W1.heap.size W1 W1 := Below.refl _ _
  have G2 := Lib.hid g2; clear g2
  have F2 := Lib.hid f2; clear f2
  have Hw := Lib.hid hw; clear hw
  have kz0 : w.heap.size < W1.heap.size := lt_of_cell c0_0
  have kz1 : w.heap.size + 1 < W1.heap.size := lt_of_cell c1_0
  have kz2 : w1.heap.size < W1.heap.size := lt_of_cell c2_0
  go_upto_region 3 with (go_at_call 38; refine (wadd_calls h1 l1 h0 l0 _ K1.out K0.out).mono ?_; rintro e w' ⟨rfl, hb⟩; rw [R2.out]; have hB := bl_next (by repeat (first | with_reducible exact hB | refine Below.alloc ?_ (by have := hB.size; simp; omega) _ | refine bl_dN ?_ _ | refine Below.drew ?_ | refine Below.setCell ?_ (by have := hB.size; simp; omega) _)) hb; clear hb; have k0_0 := cb hB c0_0; have k0_1 := cb hB c0_1; have k0_2 := cb hB c0_2; have k0_3 := cb hB c0_3; have k1_0 := cb hB c1_0; have k1_1 := cb hB c1_1; have k2_0 := cb hB c2_0; have k2_1 := cb hB c2_1; have kz0 : w.heap.size < _ := lt_of_cell k0_0; have kz1 : w.heap.size + 1 < _ := lt_of_cell k1_0; have kz2 : w1.heap.size < _ := lt_of_cell k2_0)
  obtain ⟨w2, rfl⟩ : ∃ w2 : World, w2 = w' := ⟨_, rfl⟩
  first | with_reducible refine name_wp ?_ | with_reducible refine name_calls ?_
  intro W2 hWeq
  have g3 : W2.heap[w2.heap.size]? = some (.cells #[.int .i64 sh, .int .u64 sl] 57) := by rw [hWeq]; repeat (first | (with_reducible exact blk_newAt _ _ (by simp)) | with_reducible refine blk_drew ?_ | with_reducible refine blk_dN ?_ _ | with_reducible refine blk_old ?_ _)
  have hWW : Below W1.heap.size W1 W2 := by rw [hWeq]; exact (by repeat (first | with_reducible exact hB | refine Below.alloc ?_ (by have := hB.size; simp; omega) _ | refine bl_dN ?_ _ | refine Below.drew ?_ | refine Below.setCell ?_ (by have := hB.size; simp; omega) _))
  have hw := bl_from Hw.out hWW
  clear Hw
  have c0_0 := cb hWW c0_0
  have c0_1 := cb hWW c0_1
  have c0_2 := cb hWW c0_2
  have c0_3 := cb hWW c0_3
  have c1_0 := cb hWW c1_0
  have c1_1 := cb hWW c1_1
  have c2_0 := cb hWW c2_0
  have c2_1 := cb hWW c2_1
  have hz : W1.heap.size ≤ W2.heap.size := hWW.size
  have HB_W2 := Lib.hid hWW; clear hWW hz
  clear hWeq
  have hz : w2.heap.size + 1 ≤ W2.heap.size := by have := blk_lt g3; omega
  have c3_0 : W2.cell? ⟨w2.heap.size, 0, none⟩ = some (.int .i64 sh) := blk_cell g3 0
  have c3_1 : W2.cell? ⟨w2.heap.size, 1, none⟩ = some (.int .u64 sl) := blk_cell g3 1
  have f3 : ∀ j, W2.frozen? ⟨w2.heap.size, j, none⟩ = false := blk_free g3
  have hB : Below W2.heap.size W2 W2 := Below.refl _ _
  have G3 := Lib.hid g3; clear g3
  have F3 := Lib.hid f3; clear f3
  have Hw := Lib.hid hw; clear hw
  have kz0 : w.heap.size < W2.heap.size := lt_of_cell c0_0
  have kz1 : w.heap.size + 1 < W2.heap.size := lt_of_cell c1_0
  have kz2 : w1.heap.size < W2.heap.size := lt_of_cell c2_0
  have kz3 : w2.heap.size < W2.heap.size := lt_of_cell c3_0
  go_upto_if 53 with fail
  go_cut [9, 10, 11, 12] from 54 to 85 (fun _ _ _ _ wc => Below W2.heap.size W2 wc)
  case first =>
    cases ok with
    | false =>
      go_wp2_with fail
      go_meet
      exact Below.refl _ _
    | true =>
      have R3' := Lib.hid (R3.out rfl)
      have R4' := Lib.hid (R4.out rfl)
      go_upto_region 7 with (go_at_call 40; refine (wsub_calls sh sl h1 l1 _ KS.out K1.out).mono ?_; rintro e w' ⟨rfl, hb⟩; rw [R3'.out]; have hB := bl_next (by repeat (first | with_reducible exact hB | refine Below.alloc ?_ (by have := hB.size; simp; omega) _ | refine bl_dN ?_ _ | refine Below.drew ?_ | refine Below.setCell ?_ (by have := hB.size; simp; omega) _)) hb; clear hb; have k0_0 := cb hB c0_0; have k0_1 := cb hB c0_1; have k0_2 := cb hB c0_2; have k0_3 := cb hB c0_3; have k1_0 := cb hB c1_0; have k1_1 := cb hB c1_1; have k2_0 := cb hB c2_0; have k2_1 := cb hB c2_1; have k3_0 := cb hB c3_0; have k3_1 := cb hB c3_1; have kz0 : w.heap.size < _ := lt_of_cell k0_0; have kz1 : w.heap.size + 1 < _ := lt_of_cell k1_0; have kz2 : w1.heap.size < _ := lt_of_cell k2_0; have kz3 : w2.heap.size < _ := lt_of_cell k3_0)
      obtain ⟨w3, rfl⟩ : ∃ w3 : World, w3 = w' := ⟨_, rfl⟩
      first | with_reducible refine name_wp ?_ | with_reducible refine name_calls ?_
      intro W3 hWeq
      have g4 : W3.heap[w3.heap.size]? = some (.cells #[.int .i64 h0, .int .u64 l0] 57) := by rw [hWeq]; repeat (first | (with_reducible exact blk_newAt _ _ (by simp)) | with_reducible refine blk_drew ?_ | with_reducible refine blk_dN ?_ _ | with_reducible refine blk_old ?_ _)
      have hWW : Below W2.heap.size W2 W3 := by rw [hWeq]; exact (by repeat (first | with_reducible exact hB | refine Below.alloc ?_ (by have := hB.size; simp; omega) _ | refine bl_dN ?_ _ | refine Below.drew ?_ | refine Below.setCell ?_ (by have := hB.size; simp; omega) _))
      have hw := bl_from Hw.out hWW
      clear Hw
      have c0_0 := cb hWW c0_0
      have c0_1 := cb hWW c0_1
      have c0_2 := cb hWW c0_2
      have c0_3 := cb hWW c0_3
      have c1_0 := cb hWW c1_0
      have c1_1 := cb hWW c1_1
      have c2_0 := cb hWW c2_0
      have c2_1 := cb hWW c2_1
      have c3_0 := cb hWW c3_0
      have c3_1 := cb hWW c3_1
      have hz : W2.heap.size ≤ W3.heap.size := hWW.size
      have HB_W3 := Lib.hid hWW; clear hWW hz
      clear hWeq
      have hz : w3.heap.size + 1 ≤ W3.heap.size := by have := blk_lt g4; omega
      have c4_0 : W3.cell? ⟨w3.heap.size, 0, none⟩ = some (.int .i64 h0) := blk_cell g4 0
      have c4_1 : W3.cell? ⟨w3.heap.size, 1, none⟩ = some (.int .u64 l0) := blk_cell g4 1
      have f4 : ∀ j, W3.frozen? ⟨w3.heap.size, j, none⟩ = false := blk_free g4
      have hB : Below W3.heap.size W3 W3 := Below.refl _ _
      have G4 := Lib.hid g4; clear g4
      have F4 := Lib.hid f4; clear f4
      have Hw := Lib.hid hw; clear hw
      have kz0 : w.heap.size < W3.heap.size := lt_of_cell c0_0
      have kz1 : w.heap.size + 1 < W3.heap.size := lt_of_cell c1_0
      have kz2 : w1.heap.size < W3.heap.size := lt_of_cell c2_0
      have kz3 : w2.heap.size < W3.heap.size := lt_of_cell c3_0
      have kz4 : w3.heap.size < W3.heap.size := lt_of_cell c4_0
      go_upto_region 8 with (go_at_call 40; refine (wsub_calls sh sl h0 l0 _ KS.out K0.out).mono ?_; rintro e w' ⟨rfl, hb⟩; rw [R4'.out]; have hB := bl_next (by repeat (first | with_reducible exact hB | refine Below.alloc ?_ (by have := hB.size; simp; omega) _ | refine bl_dN ?_ _ | refine Below.drew ?_ | refine Below.setCell ?_ (by have := hB.size; simp; omega) _)) hb; clear hb; have k0_0 := cb hB c0_0; have k0_1 := cb hB c0_1; have k0_2 := cb hB c0_2; have k0_3 := cb hB c0_3; have k1_0 := cb hB c1_0; have k1_1 := cb hB c1_1; have k2_0 := cb hB c2_0; have k2_1 := cb hB c2_1; have k3_0 := cb hB c3_0; have k3_1 := cb hB c3_1; have k4_0 := cb hB c4_0; have k4_1 := cb hB c4_1; have kz0 : w.heap.size < _ := lt_of_cell k0_0; have kz1 : w.heap.size + 1 < _ := lt_of_cell k1_0; have kz2 : w1.heap.size < _ := lt_of_cell k2_0; have kz3 : w2.heap.size < _ := lt_of_cell k3_0; have kz4 : w3.heap.size < _ := lt_of_cell k4_0)
      obtain ⟨w4, rfl⟩ : ∃ w4 : World, w4 = w' := ⟨_, rfl⟩
      first | with_reducible refine name_wp ?_ | with_reducible refine name_calls ?_
      intro W4 hWeq
      have g5 : W4.heap[w4.heap.size]? = some (.cells #[.int .i64 h1, .int .u64 l1] 57) := by rw [hWeq]; repeat (first | (with_reducible exact blk_newAt _ _ (by simp)) | with_reducible refine blk_drew ?_ | with_reducible refine blk_dN ?_ _ | with_reducible refine blk_old ?_ _)
      have hWW : Below W3.heap.size W3 W4 := by rw [hWeq]; exact (by repeat (first | with_reducible exact hB | refine Below.alloc ?_ (by have := hB.size; simp; omega) _ | refine bl_dN ?_ _ | refine Below.drew ?_ | refine Below.setCell ?_ (by have := hB.size; simp; omega) _))
      have hw := bl_from Hw.out hWW
      clear Hw
      have c0_0 := cb hWW c0_0
      have c0_1 := cb hWW c0_1
      have c0_2 := cb hWW c0_2
      have c0_3 := cb hWW c0_3
      have c1_0 := cb hWW c1_0
      have c1_1 := cb hWW c1_1
      have c2_0 := cb hWW c2_0
      have c2_1 := cb hWW c2_1
      have c3_0 := cb hWW c3_0
      have c3_1 := cb hWW c3_1
      have c4_0 := cb hWW c4_0
      have c4_1 := cb hWW c4_1
      have hz : W3.heap.size ≤ W4.heap.size := hWW.size
      have HB_W4 := Lib.hid hWW; clear hWW hz
      clear hWeq
      have hz : w4.heap.size + 1 ≤ W4.heap.size := by have := blk_lt g5; omega
      have c5_0 : W4.cell? ⟨w4.heap.size, 0, none⟩ = some (.int .i64 h1) := blk_cell g5 0
      have c5_1 : W4.cell? ⟨w4.heap.size, 1, none⟩ = some (.int .u64 l1) := blk_cell g5 1
      have f5 : ∀ j, W4.frozen? ⟨w4.heap.size, j, none⟩ = false := blk_free g5
      have hB : Below W4.heap.size W4 W4 := Below.refl _ _
      have G5 := Lib.hid g5; clear g5
      have F5 := Lib.hid f5; clear f5
      have Hw := Lib.hid hw; clear hw
      have kz0 : w.heap.size < W4.heap.size := lt_of_cell c0_0
      have kz1 : w.heap.size + 1 < W4.heap.size := lt_of_cell c1_0
      have kz2 : w1.heap.size < W4.heap.size := lt_of_cell c2_0
      have kz3 : w2.heap.size < W4.heap.size := lt_of_cell c3_0
      have kz4 : w3.heap.size < W4.heap.size := lt_of_cell c4_0
      have kz5 : w4.heap.size < W4.heap.size := lt_of_cell c5_0
      go_wp2_with fail
      go_meet
      exact bl_next (bl_next (Below.refl _ _) HB_W3.out) HB_W4.out
  case rest =>
    clear R1 R2 R3 R4 KS
    have hB := hcut
    have k0_0 := cb hB c0_0
    have k0_1 := cb hB c0_1
    have k0_2 := cb hB c0_2
    have k0_3 := cb hB c0_3
    have k1_0 := cb hB c1_0
    have k1_1 := cb hB c1_1
    have k2_0 := cb hB c2_0
    have k2_1 := cb hB c2_1
    have k3_0 := cb hB c3_0
    have k3_1 := cb hB c3_1
    have kz0 : w.heap.size < _ := lt_of_cell k0_0
    have kz1 : w.heap.size + 1 < _ := lt_of_cell k1_0
    have kz2 : w1.heap.size < _ := lt_of_cell k2_0
    have kz3 : w2.heap.size < _ := lt_of_cell k3_0
    go_upto_region 11 with (go_at_call 40; refine (wsub_calls h0 l0 h1 l1 _ K0.out K1.out).mono ?_; rintro e w' ⟨rfl, hb⟩; rw [R5.out]; have hB := bl_next (by repeat (first | with_reducible exact hB | refine Below.alloc ?_ (by have := hB.size; simp; omega) _ | refine bl_dN ?_ _ | refine Below.drew ?_ | refine Below.setCell ?_ (by have := hB.size; simp; omega) _)) hb; clear hb; have k0_0 := cb hB c0_0; have k0_1 := cb hB c0_1; have k0_2 := cb hB c0_2; have k0_3 := cb hB c0_3; have k1_0 := cb hB c1_0; have k1_1 := cb hB c1_1; have k2_0 := cb hB c2_0; have k2_1 := cb hB c2_1; have k3_0 := cb hB c3_0; have k3_1 := cb hB c3_1; have kz0 : w.heap.size < _ := lt_of_cell k0_0; have kz1 : w.heap.size + 1 < _ := lt_of_cell k1_0; have kz2 : w1.heap.size < _ := lt_of_cell k2_0; have kz3 : w2.heap.size < _ := lt_of_cell k3_0)
    obtain ⟨w5, rfl⟩ : ∃ w5 : World, w5 = w' := ⟨_, rfl⟩
    first | with_reducible refine name_wp ?_ | with_reducible refine name_calls ?_
    intro W5 hWeq
    have g4 : W5.heap[w5.heap.size]? = some (.cells #[.int .i64 dh, .int .u64 dl] 57) := by rw [hWeq]; repeat (first | (with_reducible exact blk_newAt _ _ (by simp)) | with_reducible refine blk_drew ?_ | with_reducible refine blk_dN ?_ _ | with_reducible refine blk_old ?_ _)
    have hWW : Below W2.heap.size W2 W5 := by rw [hWeq]; exact (by repeat (first | with_reducible exact hB | refine Below.alloc ?_ (by have := hB.size; simp; omega) _ | refine bl_dN ?_ _ | refine Below.drew ?_ | refine Below.setCell ?_ (by have := hB.size; simp; omega) _))
    have hw := bl_from Hw.out hWW
    clear Hw
    have c0_0 := cb hWW c0_0
    have c0_1 := cb hWW c0_1
    have c0_2 := cb hWW c0_2
    have c0_3 := cb hWW c0_3
    have c1_0 := cb hWW c1_0
    have c1_1 := cb hWW c1_1
    have c2_0 := cb hWW c2_0
    have c2_1 := cb hWW c2_1
    have c3_0 := cb hWW c3_0
    have c3_1 := cb hWW c3_1
    have hz : W2.heap.size ≤ W5.heap.size := hWW.size
    have HB_W5 := Lib.hid hWW; clear hWW hz
    clear hWeq
    have hz : w5.heap.size + 1 ≤ W5.heap.size := by have := blk_lt g4; omega
    have c4_0 : W5.cell? ⟨w5.heap.size, 0, none⟩ = some (.int .i64 dh) := blk_cell g4 0
    have c4_1 : W5.cell? ⟨w5.heap.size, 1, none⟩ = some (.int .u64 dl) := blk_cell g4 1
    have f4 : ∀ j, W5.frozen? ⟨w5.heap.size, j, none⟩ = false := blk_free g4
    have hB : Below W5.heap.size W5 W5 := Below.refl _ _
    have G4 := Lib.hid g4; clear g4
    have F4 := Lib.hid f4; clear f4
    have Hw := Lib.hid hw; clear hw
    have kz0 : w.heap.size < W5.heap.size := lt_of_cell c0_0
    have kz1 : w.heap.size + 1 < W5.heap.size := lt_of_cell c1_0
    have kz2 : w1.heap.size < W5.heap.size := lt_of_cell c2_0
    have kz3 : w2.heap.size < W5.heap.size := lt_of_cell c3_0
    have kz4 : w5.heap.size < W5.heap.size := lt_of_cell c4_0
    go_upto_if 94 with fail
    go_cut [15, 16] from 95 to 109 (fun _ _ wc => Below W5.heap.size W5 wc)
    case first =>
      cases g with
      | false =>
        go_wp2_with fail
        go_meet
        exact Below.refl _ _
      | true =>
        have R6' := Lib.hid (R6.out rfl)
        go_upto_region 13 with (go_at_call 38; refine (wadd_calls dh dl h1 l1 _ KD.out K1.out).mono ?_; rintro e w' ⟨rfl, hb⟩; rw [R6'.out]; have hB := bl_next (by repeat (first | with_reducible exact hB | refine Below.alloc ?_ (by have := hB.size; simp; omega) _ | refine bl_dN ?_ _ | refine Below.drew ?_ | refine Below.setCell ?_ (by have := hB.size; simp; omega) _)) hb; clear hb; have k0_0 := cb hB c0_0; have k0_1 := cb hB c0_1; have k0_2 := cb hB c0_2; have k0_3 := cb hB c0_3; have k1_0 := cb hB c1_0; have k1_1 := cb hB c1_1; have k2_0 := cb hB c2_0; have k2_1 := cb hB c2_1; have k3_0 := cb hB c3_0; have k3_1 := cb hB c3_1; have k4_0 := cb hB c4_0; have k4_1 := cb hB c4_1; have kz0 : w.heap.size < _ := lt_of_cell k0_0; have kz1 : w.heap.size + 1 < _ := lt_of_cell k1_0; have kz2 : w1.heap.size < _ := lt_of_cell k2_0; have kz3 : w2.heap.size < _ := lt_of_cell k3_0; have kz4 : w5.heap.size < _ := lt_of_cell k4_0)
        obtain ⟨w6, rfl⟩ : ∃ w6 : World, w6 = w' := ⟨_, rfl⟩
        first | with_reducible refine name_wp ?_ | with_reducible refine name_calls ?_
        intro W6 hWeq
        have g5 : W6.heap[w6.heap.size]? = some (.cells #[.int .i64 h0, .int .u64 l0] 57) := by rw [hWeq]; repeat (first | (with_reducible exact blk_newAt _ _ (by simp)) | with_reducible refine blk_drew ?_ | with_reducible refine blk_dN ?_ _ | with_reducible refine blk_old ?_ _)
        have hWW : Below W5.heap.size W5 W6 := by rw [hWeq]; exact (by repeat (first | with_reducible exact hB | refine Below.alloc ?_ (by have := hB.size; simp; omega) _ | refine bl_dN ?_ _ | refine Below.drew ?_ | refine Below.setCell ?_ (by have := hB.size; simp; omega) _))
        have hw := bl_from Hw.out hWW
        clear Hw
        have c0_0 := cb hWW c0_0
        have c0_1 := cb hWW c0_1
        have c0_2 := cb hWW c0_2
        have c0_3 := cb hWW c0_3
        have c1_0 := cb hWW c1_0
        have c1_1 := cb hWW c1_1
        have c2_0 := cb hWW c2_0
        have c2_1 := cb hWW c2_1
        have c3_0 := cb hWW c3_0
        have c3_1 := cb hWW c3_1
        have c4_0 := cb hWW c4_0
        have c4_1 := cb hWW c4_1
        have hz : W5.heap.size ≤ W6.heap.size := hWW.size
        have HB_W6 := Lib.hid hWW; clear hWW hz
        clear hWeq
        have hz : w6.heap.size + 1 ≤ W6.heap.size := by have := blk_lt g5; omega
        have c5_0 : W6.cell? ⟨w6.heap.size, 0, none⟩ = some (.int .i64 h0) := blk_cell g5 0
        have c5_1 : W6.cell? ⟨w6.heap.size, 1, none⟩ = some (.int .u64 l0) := blk_cell g5 1
        have f5 : ∀ j, W6.frozen? ⟨w6.heap.size, j, none⟩ = false := blk_free g5
        have hB : Below W6.heap.size W6 W6 := Below.refl _ _
        have G5 := Lib.hid g5; clear g5
        have F5 := Lib.hid f5; clear f5
        have Hw := Lib.hid hw; clear hw
        have kz0 : w.heap.size < W6.heap.size := lt_of_cell c0_0
        have kz1 : w.heap.size + 1 < W6.heap.size := lt_of_cell c1_0
        have kz2 : w1.heap.size < W6.heap.size := lt_of_cell c2_0
        have kz3 : w2.heap.size < W6.heap.size := lt_of_cell c3_0
        have kz4 : w5.heap.size < W6.heap.size := lt_of_cell c4_0
        have kz5 : w6.heap.size < W6.heap.size := lt_of_cell c5_0
        go_wp2_with fail
        go_meet
        exact bl_next (Below.refl _ _) HB_W6.out
    case rest =>
      clear R5 R6 KD
      have hB := hcut
      have k0_0 := cb hB c0_0
      have k0_1 := cb hB c0_1
      have k0_2 := cb hB c0_2
      have k0_3 := cb hB c0_3
      have k1_0 := cb hB c1_0
      have k1_1 := cb hB c1_1
      have k2_0 := cb hB c2_0
      have k2_1 := cb hB c2_1
      have k3_0 := cb hB c3_0
      have k3_1 := cb hB c3_1
      have k4_0 := cb hB c4_0
      have k4_1 := cb hB c4_1
      have kz0 : w.heap.size < _ := lt_of_cell k0_0
      have kz1 : w.heap.size + 1 < _ := lt_of_cell k1_0
      have kz2 : w1.heap.size < _ := lt_of_cell k2_0
      have kz3 : w2.heap.size < _ := lt_of_cell k3_0
      have kz4 : w5.heap.size < _ := lt_of_cell k4_0
      go_upto_region 16 with (go_at_call 44; refine (wshift_calls h0 l0 1 _ K0.out).mono ?_; rintro e w' ⟨rfl, hb⟩; rw [R7.out]; have hB := bl_next (by repeat (first | with_reducible exact hB | refine Below.alloc ?_ (by have := hB.size; simp; omega) _ | refine bl_dN ?_ _ | refine Below.drew ?_ | refine Below.setCell ?_ (by have := hB.size; simp; omega) _)) hb; clear hb; have k0_0 := cb hB c0_0; have k0_1 := cb hB c0_1; have k0_2 := cb hB c0_2; have k0_3 := cb hB c0_3; have k1_0 := cb hB c1_0; have k1_1 := cb hB c1_1; have k2_0 := cb hB c2_0; have k2_1 := cb hB c2_1; have k3_0 := cb hB c3_0; have k3_1 := cb hB c3_1; have k4_0 := cb hB c4_0; have k4_1 := cb hB c4_1; have kz0 : w.heap.size < _ := lt_of_cell k0_0; have kz1 : w.heap.size + 1 < _ := lt_of_cell k1_0; have kz2 : w1.heap.size < _ := lt_of_cell k2_0; have kz3 : w2.heap.size < _ := lt_of_cell k3_0; have kz4 : w5.heap.size < _ := lt_of_cell k4_0)
      obtain ⟨w7, rfl⟩ : ∃ w7 : World, w7 = w' := ⟨_, rfl⟩
      first | with_reducible refine name_wp ?_ | with_reducible refine name_calls ?_
      intro W7 hWeq
      have g5 : W7.heap[w7.heap.size]? = some (.cells #[.int .i64 xh, .int .u64 xl] 57) := by rw [hWeq]; repeat (first | (with_reducible exact blk_newAt _ _ (by simp)) | with_reducible refine blk_drew ?_ | with_reducible refine blk_dN ?_ _ | with_reducible refine blk_old ?_ _)
      have hWW : Below W5.heap.size W5 W7 := by rw [hWeq]; exact (by repeat (first | with_reducible exact hB | refine Below.alloc ?_ (by have := hB.size; simp; omega) _ | refine bl_dN ?_ _ | refine Below.drew ?_ | refine Below.setCell ?_ (by have := hB.size; simp; omega) _))
      have hw := bl_from Hw.out hWW
      clear Hw
      have c0_0 := cb hWW c0_0
      have c0_1 := cb hWW c0_1
      have c0_2 := cb hWW c0_2
      have c0_3 := cb hWW c0_3
      have c1_0 := cb hWW c1_0
      have c1_1 := cb hWW c1_1
      have c2_0 := cb hWW c2_0
      have c2_1 := cb hWW c2_1
      have c3_0 := cb hWW c3_0
      have c3_1 := cb hWW c3_1
      have c4_0 := cb hWW c4_0
      have c4_1 := cb hWW c4_1
      have hz : W5.heap.size ≤ W7.heap.size := hWW.size
      have HB_W7 := Lib.hid hWW; clear hWW hz
      clear hWeq
      have hz : w7.heap.size + 1 ≤ W7.heap.size := by have := blk_lt g5; omega
      have c5_0 : W7.cell? ⟨w7.heap.size, 0, none⟩ = some (.int .i64 xh) := blk_cell g5 0
      have c5_1 : W7.cell? ⟨w7.heap.size, 1, none⟩ = some (.int .u64 xl) := blk_cell g5 1
      have f5 : ∀ j, W7.frozen? ⟨w7.heap.size, j, none⟩ = false := blk_free g5
      have hB : Below W7.heap.size W7 W7 := Below.refl _ _
      have G5 := Lib.hid g5; clear g5
      have F5 := Lib.hid f5; clear f5
      have Hw := Lib.hid hw; clear hw
      have kz0 : w.heap.size < W7.heap.size := lt_of_cell c0_0
      have kz1 : w.heap.size + 1 < W7.heap.size := lt_of_cell c1_0
      have kz2 : w1.heap.size < W7.heap.size := lt_of_cell c2_0
      have kz3 : w2.heap.size < W7.heap.size := lt_of_cell c3_0
      have kz4 : w5.heap.size < W7.heap.size := lt_of_cell c4_0
      have kz5 : w7.heap.size < W7.heap.size := lt_of_cell c5_0
      go_upto_region 17 with (go_at_call 38; refine (wadd_calls h0 l0 h0 l0 _ K0.out K0.out).mono ?_; rintro e w' ⟨rfl, hb⟩; rw [R8.out]; have hB := bl_next (by repeat (first | with_reducible exact hB | refine Below.alloc ?_ (by have := hB.size; simp; omega) _ | refine bl_dN ?_ _ | refine Below.drew ?_ | refine Below.setCell ?_ (by have := hB.size; simp; omega) _)) hb; clear hb; have k0_0 := cb hB c0_0; have k0_1 := cb hB c0_1; have k0_2 := cb hB c0_2; have k0_3 := cb hB c0_3; have k1_0 := cb hB c1_0; have k1_1 := cb hB c1_1; have k2_0 := cb hB c2_0; have k2_1 := cb hB c2_1; have k3_0 := cb hB c3_0; have k3_1 := cb hB c3_1; have k4_0 := cb hB c4_0; have k4_1 := cb hB c4_1; have k5_0 := cb hB c5_0; have k5_1 := cb hB c5_1; have kz0 : w.heap.size < _ := lt_of_cell k0_0; have kz1 : w.heap.size + 1 < _ := lt_of_cell k1_0; have kz2 : w1.heap.size < _ := lt_of_cell k2_0; have kz3 : w2.heap.size < _ := lt_of_cell k3_0; have kz4 : w5.heap.size < _ := lt_of_cell k4_0; have kz5 : w7.heap.size < _ := lt_of_cell k5_0)
      obtain ⟨w8, rfl⟩ : ∃ w8 : World, w8 = w' := ⟨_, rfl⟩
      first | with_reducible refine name_wp ?_ | with_reducible refine name_calls ?_
      intro W8 hWeq
      have g6 : W8.heap[w8.heap.size]? = some (.cells #[.int .i64 xh, .int .u64 xl] 57) := by rw [hWeq]; repeat (first | (with_reducible exact blk_newAt _ _ (by simp)) | with_reducible refine blk_drew ?_ | with_reducible refine blk_dN ?_ _ | with_reducible refine blk_old ?_ _)
      have hWW : Below W7.heap.size W7 W8 := by rw [hWeq]; exact (by repeat (first | with_reducible exact hB | refine Below.alloc ?_ (by have := hB.size; simp; omega) _ | refine bl_dN ?_ _ | refine Below.drew ?_ | refine Below.setCell ?_ (by have := hB.size; simp; omega) _))
      have hw := bl_from Hw.out hWW
      clear Hw
      have c0_0 := cb hWW c0_0
      have c0_1 := cb hWW c0_1
      have c0_2 := cb hWW c0_2
      have c0_3 := cb hWW c0_3
      have c1_0 := cb hWW c1_0
      have c1_1 := cb hWW c1_1
      have c2_0 := cb hWW c2_0
      have c2_1 := cb hWW c2_1
      have c3_0 := cb hWW c3_0
      have c3_1 := cb hWW c3_1
      have c4_0 := cb hWW c4_0
      have c4_1 := cb hWW c4_1
      have c5_0 := cb hWW c5_0
      have c5_1 := cb hWW c5_1
      have hz : W7.heap.size ≤ W8.heap.size := hWW.size
      have HB_W8 := Lib.hid hWW; clear hWW hz
      clear hWeq
      have hz : w8.heap.size + 1 ≤ W8.heap.size := by have := blk_lt g6; omega
      have c6_0 : W8.cell? ⟨w8.heap.size, 0, none⟩ = some (.int .i64 xh) := blk_cell g6 0
      have c6_1 : W8.cell? ⟨w8.heap.size, 1, none⟩ = some (.int .u64 xl) := blk_cell g6 1
      have f6 : ∀ j, W8.frozen? ⟨w8.heap.size, j, none⟩ = false := blk_free g6
      have hB : Below W8.heap.size W8 W8 := Below.refl _ _
      have G6 := Lib.hid g6; clear g6
      have F6 := Lib.hid f6; clear f6
      have Hw := Lib.hid hw; clear hw
      have kz0 : w.heap.size < W8.heap.size := lt_of_cell c0_0
      have kz1 : w.heap.size + 1 < W8.heap.size := lt_of_cell c1_0
      have kz2 : w1.heap.size < W8.heap.size := lt_of_cell c2_0
      have kz3 : w2.heap.size < W8.heap.size := lt_of_cell c3_0
      have kz4 : w5.heap.size < W8.heap.size := lt_of_cell c4_0
      have kz5 : w7.heap.size < W8.heap.size := lt_of_cell c5_0
      have kz6 : w8.heap.size < W8.heap.size := lt_of_cell c6_0
      have p0 := P0.out
      have p1 := P1.out
      go_upto_region 21 with fail
      rw [N0.out, N1.out]
      have n0 := NB.out
      clear p0 p1
      go_upto_region 22 with (go_at_call 44; refine (wshift_calls h0 l0 n _ K0.out).mono ?_; rintro e w' ⟨rfl, hb⟩; rw [R9.out]; have hB := bl_next (by repeat (first | with_reducible exact hB | refine Below.alloc ?_ (by have := hB.size; simp; omega) _ | refine bl_dN ?_ _ | refine Below.drew ?_ | refine Below.setCell ?_ (by have := hB.size; simp; omega) _)) hb; clear hb; have k0_0 := cb hB c0_0; have k0_1 := cb hB c0_1; have k0_2 := cb hB c0_2; have k0_3 := cb hB c0_3; have k1_0 := cb hB c1_0; have k1_1 := cb hB c1_1; have k2_0 := cb hB c2_0; have k2_1 := cb hB c2_1; have k3_0 := cb hB c3_0; have k3_1 := cb hB c3_1; have k4_0 := cb hB c4_0; have k4_1 := cb hB c4_1; have k5_0 := cb hB c5_0; have k5_1 := cb hB c5_1; have k6_0 := cb hB c6_0; have k6_1 := cb hB c6_1; have kz0 : w.heap.size < _ := lt_of_cell k0_0; have kz1 : w.heap.size + 1 < _ := lt_of_cell k1_0; have kz2 : w1.heap.size < _ := lt_of_cell k2_0; have kz3 : w2.heap.size < _ := lt_of_cell k3_0; have kz4 : w5.heap.size < _ := lt_of_cell k4_0; have kz5 : w7.heap.size < _ := lt_of_cell k5_0; have kz6 : w8.heap.size < _ := lt_of_cell k6_0)
      obtain ⟨w9, rfl⟩ : ∃ w9 : World, w9 = w' := ⟨_, rfl⟩
      first | with_reducible refine name_wp ?_ | with_reducible refine name_calls ?_
      intro W9 hWeq
      have g7 : W9.heap[w9.heap.size]? = some (.cells #[.int .i64 uh, .int .u64 ul] 57) := by rw [hWeq]; repeat (first | (with_reducible exact blk_newAt _ _ (by simp)) | with_reducible refine blk_drew ?_ | with_reducible refine blk_dN ?_ _ | with_reducible refine blk_old ?_ _)
      have hWW : Below W8.heap.size W8 W9 := by rw [hWeq]; exact (by repeat (first | with_reducible exact hB | refine Below.alloc ?_ (by have := hB.size; simp; omega) _ | refine bl_dN ?_ _ | refine Below.drew ?_ | refine Below.setCell ?_ (by have := hB.size; simp; omega) _))
      have hw := bl_from Hw.out hWW
      clear Hw
      have c0_0 := cb hWW c0_0
      have c0_1 := cb hWW c0_1
      have c0_2 := cb hWW c0_2
      have c0_3 := cb hWW c0_3
      have c1_0 := cb hWW c1_0
      have c1_1 := cb hWW c1_1
      have c2_0 := cb hWW c2_0
      have c2_1 := cb hWW c2_1
      have c3_0 := cb hWW c3_0
      have c3_1 := cb hWW c3_1
      have c4_0 := cb hWW c4_0
      have c4_1 := cb hWW c4_1
      have c5_0 := cb hWW c5_0
      have c5_1 := cb hWW c5_1
      have c6_0 := cb hWW c6_0
      have c6_1 := cb hWW c6_1
      have hz : W8.heap.size ≤ W9.heap.size := hWW.size
      have HB_W9 := Lib.hid hWW; clear hWW hz
      clear hWeq
      have hz : w9.heap.size + 1 ≤ W9.heap.size := by have := blk_lt g7; omega
      have c7_0 : W9.cell? ⟨w9.heap.size, 0, none⟩ = some (.int .i64 uh) := blk_cell g7 0
      have c7_1 : W9.cell? ⟨w9.heap.size, 1, none⟩ = some (.int .u64 ul) := blk_cell g7 1
      have f7 : ∀ j, W9.frozen? ⟨w9.heap.size, j, none⟩ = false := blk_free g7
      have hB : Below W9.heap.size W9 W9 := Below.refl _ _
      have G7 := Lib.hid g7; clear g7
      have F7 := Lib.hid f7; clear f7
      have Hw := Lib.hid hw; clear hw
      have kz0 : w.heap.size < W9.heap.size := lt_of_cell c0_0
      have kz1 : w.heap.size + 1 < W9.heap.size := lt_of_cell c1_0
      have kz2 : w1.heap.size < W9.heap.size := lt_of_cell c2_0
      have kz3 : w2.heap.size < W9.heap.size := lt_of_cell c3_0
      have kz4 : w5.heap.size < W9.heap.size := lt_of_cell c4_0
      have kz5 : w7.heap.size < W9.heap.size := lt_of_cell c5_0
      have kz6 : w8.heap.size < W9.heap.size := lt_of_cell c6_0
      have kz7 : w9.heap.size < W9.heap.size := lt_of_cell c7_0
      go_upto_region 23 with (go_at_call 44; refine (wshift_calls uh ul m _ KU.out).mono ?_; rintro e w' ⟨rfl, hb⟩; rw [R10.out]; have hB := bl_next (by repeat (first | with_reducible exact hB | refine Below.alloc ?_ (by have := hB.size; simp; omega) _ | refine bl_dN ?_ _ | refine Below.drew ?_ | refine Below.setCell ?_ (by have := hB.size; simp; omega) _)) hb; clear hb; have k0_0 := cb hB c0_0; have k0_1 := cb hB c0_1; have k0_2 := cb hB c0_2; have k0_3 := cb hB c0_3; have k1_0 := cb hB c1_0; have k1_1 := cb hB c1_1; have k2_0 := cb hB c2_0; have k2_1 := cb hB c2_1; have k3_0 := cb hB c3_0; have k3_1 := cb hB c3_1; have k4_0 := cb hB c4_0; have k4_1 := cb hB c4_1; have k5_0 := cb hB c5_0; have k5_1 := cb hB c5_1; have k6_0 := cb hB c6_0; have k6_1 := cb hB c6_1; have k7_0 := cb hB c7_0; have k7_1 := cb hB c7_1; have kz0 : w.heap.size < _ := lt_of_cell k0_0; have kz1 : w.heap.size + 1 < _ := lt_of_cell k1_0; have kz2 : w1.heap.size < _ := lt_of_cell k2_0; have kz3 : w2.heap.size < _ := lt_of_cell k3_0; have kz4 : w5.heap.size < _ := lt_of_cell k4_0; have kz5 : w7.heap.size < _ := lt_of_cell k5_0; have kz6 : w8.heap.size < _ := lt_of_cell k6_0; have kz7 : w9.heap.size < _ := lt_of_cell k7_0)
      obtain ⟨w10, rfl⟩ : ∃ w10 : World, w10 = w' := ⟨_, rfl⟩
      first | with_reducible refine name_wp ?_ | with_reducible refine name_calls ?_
      intro W10 hWeq
      have g8 : W10.heap[w10.heap.size]? = some (.cells #[.int .i64 vh, .int .u64 vl] 57) := by rw [hWeq]; repeat (first | (with_reducible exact blk_newAt _ _ (by simp)) | with_reducible refine blk_drew ?_ | with_reducible refine blk_dN ?_ _ | with_reducible refine blk_old ?_ _)
      have hWW : Below W9.heap.size W9 W10 := by rw [hWeq]; exact (by repeat (first | with_reducible exact hB | refine Below.alloc ?_ (by have := hB.size; simp; omega) _ | refine bl_dN ?_ _ | refine Below.drew ?_ | refine Below.setCell ?_ (by have := hB.size; simp; omega) _))
      have hw := bl_from Hw.out hWW
      clear Hw
      have c0_0 := cb hWW c0_0
      have c0_1 := cb hWW c0_1
      have c0_2 := cb hWW c0_2
      have c0_3 := cb hWW c0_3
      have c1_0 := cb hWW c1_0
      have c1_1 := cb hWW c1_1
      have c2_0 := cb hWW c2_0
      have c2_1 := cb hWW c2_1
      have c3_0 := cb hWW c3_0
      have c3_1 := cb hWW c3_1
      have c4_0 := cb hWW c4_0
      have c4_1 := cb hWW c4_1
      have c5_0 := cb hWW c5_0
      have c5_1 := cb hWW c5_1
      have c6_0 := cb hWW c6_0
      have c6_1 := cb hWW c6_1
      have c7_0 := cb hWW c7_0
      have c7_1 := cb hWW c7_1
      have hz : W9.heap.size ≤ W10.heap.size := hWW.size
      have HB_W10 := Lib.hid hWW; clear hWW hz
      clear hWeq
      have hz : w10.heap.size + 1 ≤ W10.heap.size := by have := blk_lt g8; omega
      have c8_0 : W10.cell? ⟨w10.heap.size, 0, none⟩ = some (.int .i64 vh) := blk_cell g8 0
      have c8_1 : W10.cell? ⟨w10.heap.size, 1, none⟩ = some (.int .u64 vl) := blk_cell g8 1
      have f8 : ∀ j, W10.frozen? ⟨w10.heap.size, j, none⟩ = false := blk_free g8
      have hB : Below W10.heap.size W10 W10 := Below.refl _ _
      have G8 := Lib.hid g8; clear g8
      have F8 := Lib.hid f8; clear f8
      have Hw := Lib.hid hw; clear hw
      have kz0 : w.heap.size < W10.heap.size := lt_of_cell c0_0
      have kz1 : w.heap.size + 1 < W10.heap.size := lt_of_cell c1_0
      have kz2 : w1.heap.size < W10.heap.size := lt_of_cell c2_0
      have kz3 : w2.heap.size < W10.heap.size := lt_of_cell c3_0
      have kz4 : w5.heap.size < W10.heap.size := lt_of_cell c4_0
      have kz5 : w7.heap.size < W10.heap.size := lt_of_cell c5_0
      have kz6 : w8.heap.size < W10.heap.size := lt_of_cell c6_0
      have kz7 : w9.heap.size < W10.heap.size := lt_of_cell c7_0
      have kz8 : w10.heap.size < W10.heap.size := lt_of_cell c8_0
      go_upto_region 24 with (go_at_call 44; refine (wshift_calls h0 l0 _ _ K0.out).mono ?_; rintro e w' ⟨rfl, hb⟩; rw [R11.out]; have hB := bl_next (by repeat (first | with_reducible exact hB | refine Below.alloc ?_ (by have := hB.size; simp; omega) _ | refine bl_dN ?_ _ | refine Below.drew ?_ | refine Below.setCell ?_ (by have := hB.size; simp; omega) _)) hb; clear hb; have k0_0 := cb hB c0_0; have k0_1 := cb hB c0_1; have k0_2 := cb hB c0_2; have k0_3 := cb hB c0_3; have k1_0 := cb hB c1_0; have k1_1 := cb hB c1_1; have k2_0 := cb hB c2_0; have k2_1 := cb hB c2_1; have k3_0 := cb hB c3_0; have k3_1 := cb hB c3_1; have k4_0 := cb hB c4_0; have k4_1 := cb hB c4_1; have k5_0 := cb hB c5_0; have k5_1 := cb hB c5_1; have k6_0 := cb hB c6_0; have k6_1 := cb hB c6_1; have k7_0 := cb hB c7_0; have k7_1 := cb hB c7_1; have k8_0 := cb hB c8_0; have k8_1 := cb hB c8_1; have kz0 : w.heap.size < _ := lt_of_cell k0_0; have kz1 : w.heap.size + 1 < _ := lt_of_cell k1_0; have kz2 : w1.heap.size < _ := lt_of_cell k2_0; have kz3 : w2.heap.size < _ := lt_of_cell k3_0; have kz4 : w5.heap.size < _ := lt_of_cell k4_0; have kz5 : w7.heap.size < _ := lt_of_cell k5_0; have kz6 : w8.heap.size < _ := lt_of_cell k6_0; have kz7 : w9.heap.size < _ := lt_of_cell k7_0; have kz8 : w10.heap.size < _ := lt_of_cell k8_0)
      obtain ⟨w11, rfl⟩ : ∃ w11 : World, w11 = w' := ⟨_, rfl⟩
      first | with_reducible refine name_wp ?_ | with_reducible refine name_calls ?_
      intro W11 hWeq
      have g9 : W11.heap[w11.heap.size]? = some (.cells #[.int .i64 qh, .int .u64 ql] 57) := by rw [hWeq]; repeat (first | (with_reducible exact blk_newAt _ _ (by simp)) | with_reducible refine blk_drew ?_ | with_reducible refine blk_dN ?_ _ | with_reducible refine blk_old ?_ _)
      have hWW : Below W10.heap.size W10 W11 := by rw [hWeq]; exact (by repeat (first | with_reducible exact hB | refine Below.alloc ?_ (by have := hB.size; simp; omega) _ | refine bl_dN ?_ _ | refine Below.drew ?_ | refine Below.setCell ?_ (by have := hB.size; simp; omega) _))
      have hw := bl_from Hw.out hWW
      clear Hw
      have c0_0 := cb hWW c0_0
      have c0_1 := cb hWW c0_1
      have c0_2 := cb hWW c0_2
      have c0_3 := cb hWW c0_3
      have c1_0 := cb hWW c1_0
      have c1_1 := cb hWW c1_1
      have c2_0 := cb hWW c2_0
      have c2_1 := cb hWW c2_1
      have c3_0 := cb hWW c3_0
      have c3_1 := cb hWW c3_1
      have c4_0 := cb hWW c4_0
      have c4_1 := cb hWW c4_1
      have c5_0 := cb hWW c5_0
      have c5_1 := cb hWW c5_1
      have c6_0 := cb hWW c6_0
      have c6_1 := cb hWW c6_1
      have c7_0 := cb hWW c7_0
      have c7_1 := cb hWW c7_1
      have c8_0 := cb hWW c8_0
      have c8_1 := cb hWW c8_1
      have hz : W10.heap.size ≤ W11.heap.size := hWW.size
      have HB_W11 := Lib.hid hWW; clear hWW hz
      clear hWeq
      have hz : w11.heap.size + 1 ≤ W11.heap.size := by have := blk_lt g9; omega
      have c9_0 : W11.cell? ⟨w11.heap.size, 0, none⟩ = some (.int .i64 qh) := blk_cell g9 0
      have c9_1 : W11.cell? ⟨w11.heap.size, 1, none⟩ = some (.int .u64 ql) := blk_cell g9 1
      have f9 : ∀ j, W11.frozen? ⟨w11.heap.size, j, none⟩ = false := blk_free g9
      have hB : Below W11.heap.size W11 W11 := Below.refl _ _
      have G9 := Lib.hid g9; clear g9
      have F9 := Lib.hid f9; clear f9
      have Hw := Lib.hid hw; clear hw
      have kz0 : w.heap.size < W11.heap.size := lt_of_cell c0_0
      have kz1 : w.heap.size + 1 < W11.heap.size := lt_of_cell c1_0
      have kz2 : w1.heap.size < W11.heap.size := lt_of_cell c2_0
      have kz3 : w2.heap.size < W11.heap.size := lt_of_cell c3_0
      have kz4 : w5.heap.size < W11.heap.size := lt_of_cell c4_0
      have kz5 : w7.heap.size < W11.heap.size := lt_of_cell c5_0
      have kz6 : w8.heap.size < W11.heap.size := lt_of_cell c6_0
      have kz7 : w9.heap.size < W11.heap.size := lt_of_cell c7_0
      have kz8 : w10.heap.size < W11.heap.size := lt_of_cell c8_0
      have kz9 : w11.heap.size < W11.heap.size := lt_of_cell c9_0
      cases j with
      | false =>
        obtain rfl := F2.out rfl
        go_wp2_with (go_at_call 46; refine (alive2_calls _).mono ?_; rintro e w' ⟨rfl, hb⟩; have hB := bl_next (by repeat (first | with_reducible exact hB | refine Below.alloc ?_ (by have := hB.size; simp; omega) _ | refine bl_dN ?_ _ | refine Below.drew ?_ | refine Below.setCell ?_ (by have := hB.size; simp; omega) _)) hb; clear hb; have k0_0 := cb hB c0_0; have k0_1 := cb hB c0_1; have k0_2 := cb hB c0_2; have k0_3 := cb hB c0_3; have k1_0 := cb hB c1_0; have k1_1 := cb hB c1_1; have k2_0 := cb hB c2_0; have k2_1 := cb hB c2_1; have k3_0 := cb hB c3_0; have k3_1 := cb hB c3_1; have k4_0 := cb hB c4_0; have k4_1 := cb hB c4_1; have k5_0 := cb hB c5_0; have k5_1 := cb hB c5_1; have k6_0 := cb hB c6_0; have k6_1 := cb hB c6_1; have k7_0 := cb hB c7_0; have k7_1 := cb hB c7_1; have k8_0 := cb hB c8_0; have k8_1 := cb hB c8_1; have k9_0 := cb hB c9_0; have k9_1 := cb hB c9_1; have kz0 : w.heap.size < _ := lt_of_cell k0_0; have kz1 : w.heap.size + 1 < _ := lt_of_cell k1_0; have kz2 : w1.heap.size < _ := lt_of_cell k2_0; have kz3 : w2.heap.size < _ := lt_of_cell k3_0; have kz4 : w5.heap.size < _ := lt_of_cell k4_0; have kz5 : w7.heap.size < _ := lt_of_cell k5_0; have kz6 : w8.heap.size < _ := lt_of_cell k6_0; have kz7 : w9.heap.size < _ := lt_of_cell k7_0; have kz8 : w10.heap.size < _ := lt_of_cell k8_0; have kz9 : w11.heap.size < _ := lt_of_cell k9_0)
        go_ret
        exact ⟨rfl, bl_from Hw.out hB⟩
      | true =>
        obtain ⟨rfl, rfl, rfl⟩ := F1.out rfl
        go_wp2_with (go_at_call 46; refine (alive2_calls _).mono ?_; rintro e w' ⟨rfl, hb⟩; have hB := bl_next (by repeat (first | with_reducible exact hB | refine Below.alloc ?_ (by have := hB.size; simp; omega) _ | refine bl_dN ?_ _ | refine Below.drew ?_ | refine Below.setCell ?_ (by have := hB.size; simp; omega) _)) hb; clear hb; have k0_0 := cb hB c0_0; have k0_1 := cb hB c0_1; have k0_2 := cb hB c0_2; have k0_3 := cb hB c0_3; have k1_0 := cb hB c1_0; have k1_1 := cb hB c1_1; have k2_0 := cb hB c2_0; have k2_1 := cb hB c2_1; have k3_0 := cb hB c3_0; have k3_1 := cb hB c3_1; have k4_0 := cb hB c4_0; have k4_1 := cb hB c4_1; have k5_0 := cb hB c5_0; have k5_1 := cb hB c5_1; have k6_0 := cb hB c6_0; have k6_1 := cb hB c6_1; have k7_0 := cb hB c7_0; have k7_1 := cb hB c7_1; have k8_0 := cb hB c8_0; have k8_1 := cb hB c8_1; have k9_0 := cb hB c9_0; have k9_1 := cb hB c9_1; have kz0 : w.heap.size < _ := lt_of_cell k0_0; have kz1 : w.heap.size + 1 < _ := lt_of_cell k1_0; have kz2 : w1.heap.size < _ := lt_of_cell k2_0; have kz3 : w2.heap.size < _ := lt_of_cell k3_0; have kz4 : w5.heap.size < _ := lt_of_cell k4_0; have kz5 : w7.heap.size < _ := lt_of_cell k5_0; have kz6 : w8.heap.size < _ := lt_of_cell k6_0; have kz7 : w9.heap.size < _ := lt_of_cell k7_0; have kz8 : w10.heap.size < _ := lt_of_cell k8_0; have kz9 : w11.heap.size < _ := lt_of_cell k9_0)
        go_ret
        exact ⟨rfl, bl_from Hw.out hB⟩
end Go.Proofs.Ytdcceaafiammfaa
