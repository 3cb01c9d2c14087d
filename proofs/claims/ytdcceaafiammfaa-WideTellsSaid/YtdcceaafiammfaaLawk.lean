import Derived.Test.YtdcceaafiammfaaProg
import Derived.Test.YtdcceaafiammfaaRefe
import Derived.Test.YtdcceaafiammfaaLawe
import Derived.Test.YtdcceaafiammfaaLawg
namespace Go.Proofs.Ytdcceaafiammfaa
open Go.RowKit
set_option linter.unusedSimpArgs false
set_option linter.unusedVariables false
theorem fit_parts (v : Int) : ∃ f ok, Hid (fitRes v = .tuple #[.int .i64 f, .bool ok]) := by
  unfold fitRes; cases fit64 v
  · exact ⟨0, false, rfl⟩
  · exact ⟨v, true, rfl⟩
theorem shift_parts (v n : Int) : ∃ h l ok, Hid (shiftRes v n = .tuple #[.agg #[.int .i64 h, .int .u64 l], .bool ok]) := by
  unfold shiftRes
  split
  · obtain ⟨h, l, ok, R, _⟩ := wide_parts (v * 2 ^ n.toNat); exact ⟨h, l, ok, R⟩
  · exact ⟨0, 0, false, rfl⟩
set_option maxHeartbeats 4000000 in
set_option maxRecDepth 100000 in
theorem wtells_law (h0 l0 h1 l1 n m : Int) (w : World) (k0 : WOk h0 l0) (k1 : WOk h1 l1) (n1 : -9223372036854775808 ≤ n) (n2 : n ≤ 9223372036854775807) :
    Calls Try.prog 9 #[.int .i64 n, .agg #[.int .i64 h0, .int .u64 l0, .int .i64 h1, .int .u64 l1], .int .i64 m] w fun e w' => e = .returned (.bool true) ∧ Below w.heap.size w w' := by
  obtain ⟨ah, al, ao, RA, _, _⟩ := wide_parts (wval h0 l0 + wval h1 l1)
  obtain ⟨sh, sl, so, RS, _, _⟩ := wide_parts (wval h0 l0 - wval h1 l1)
  obtain ⟨f, fo, RF⟩ := fit_parts (wval h0 l0)
  obtain ⟨th, tl, tk, RT⟩ := shift_parts (wval h0 l0) m
  obtain ⟨s, hs⟩ : ∃ s : ByteArray, ByteArray.mk (Lib.itoa (wval h0 l0)).toArray = s := ⟨_, rfl⟩
  have HS := Lib.hid hs
  have N1 := Lib.hid n1; have N2 := Lib.hid n2
  obtain ⟨oh, ho⟩ : ∃ x, whi n = x := ⟨_, rfl⟩
  obtain ⟨ol, hl⟩ : ∃ x, wlo n = x := ⟨_, rfl⟩
  have RO := Lib.hid (show wideV n = .agg #[.int .i64 oh, .int .u64 ol] by unfold wideV; rw [ho, hl])
  obtain ⟨c, hc⟩ : ∃ c, sgn (wval h0 l0) (wval h1 l1) = c := ⟨_, rfl⟩
  have HC := Lib.hid hc
  clear hs n1 n2 ho hl hc
  have K0 := Lib.hid k0; have K1 := Lib.hid k1; clear k0 k1
  go_enter Try.func9, Try.ntmps9
  go_upto_region 1 with fail
  first | with_reducible refine name_wp ?_ | with_reducible refine name_calls ?_
  intro W hWeq
  have g0 : W.heap[w.heap.size]? = some (.cells #[.int .i64 h0, .int .u64 l0, .int .i64 h1, .int .u64 l1] 58) := by rw [hWeq]; repeat (first | (with_reducible exact blk_newAt _ _ (by simp)) | with_reducible refine blk_drew ?_ | with_reducible refine blk_dN ?_ _ | with_reducible refine blk_old ?_ _)
  have hw : Below w.heap.size w W := by rw [hWeq]; repeat (first | with_reducible exact Below.refl _ _ | with_reducible refine Below.drew ?_ | with_reducible refine bl_dN ?_ _ | with_reducible refine Below.alloc ?_ (by simp <;> omega) _)
  clear hWeq
  have hz : w.heap.size + 1 ≤ W.heap.size := by have := blk_lt g0; omega
  have c0_0 : W.cell? ⟨w.heap.size, 0, none⟩ = some (.int .i64 h0) := blk_cell g0 0
  have c0_1 : W.cell? ⟨w.heap.size, 1, none⟩ = some (.int .u64 l0) := blk_cell g0 1
  have c0_2 : W.cell? ⟨w.heap.size, 2, none⟩ = some (.int .i64 h1) := blk_cell g0 2
  have c0_3 : W.cell? ⟨w.heap.size, 3, none⟩ = some (.int .u64 l1) := blk_cell g0 3
  have f0 : ∀ j, W.frozen? ⟨w.heap.size, j, none⟩ = false := blk_free g0
  have hB : Below W.heap.size W W := Below.refl _ _
  have G0 := Lib.hid g0; clear g0
  have F0 := Lib.hid f0; clear f0
  have Hw := Lib.hid hw; clear hw
  go_upto_region 2 with (go_at_call 38; refine (wadd_calls h0 l0 h1 l1 _ K0.out K1.out).mono ?_; rintro e w' ⟨rfl, hb⟩; rw [RA.out]; have hB := bl_next (by repeat (first | with_reducible exact hB | refine Below.alloc ?_ (by have := hB.size; simp; omega) _ | refine bl_dN ?_ _ | refine Below.drew ?_ | refine Below.setCell ?_ (by have := hB.size; simp; omega) _)) hb; clear hb; have k0_0 := cb hB c0_0; have k0_1 := cb hB c0_1; have k0_2 := cb hB c0_2; have k0_3 := cb hB c0_3; have kz0 : w.heap.size < _ := lt_of_cell k0_0)
  obtain ⟨w1, rfl⟩ : ∃ w1 : World, w1 = w' := ⟨_, rfl⟩
  first | with_reducible refine name_wp ?_ | with_reducible refine name_calls ?_
  intro W1 hWeq
  have g1 : W1.heap[w1.heap.size]? = some (.cells #[.int .i64 ah, .int .u64 al] 57) := by rw [hWeq]; repeat (first | (with_reducible exact blk_newAt _ _ (by simp)) | with_reducible refine blk_drew ?_ | with_reducible refine blk_dN ?_ _ | with_reducible refine blk_old ?_ _)
  have hWW : Below W.heap.size W W1 := by rw [hWeq]; exact (by repeat (first | with_reducible exact hB | refine Below.alloc ?_ (by have := hB.size; simp; omega) _ | refine bl_dN ?_ _ | refine Below.drew ?_ | refine Below.setCell ?_ (by have := hB.size; simp; omega) _))
  have hw := bl_from Hw.out hWW
  clear Hw
  have c0_0 := cb hWW c0_0
  have c0_1 := cb hWW c0_1
  have c0_2 := cb hWW c0_2
  have c0_3 := cb hWW c0_3
  have hz : W.heap.size ≤ W1.heap.size := hWW.size
  have HB_W1 := Lib.hid hWW; clear hWW hz
  clear hWeq
  have hz : w1.heap.size + 1 ≤ W1.heap.size := by have := blk_lt g1; omega
  have c1_0 : W1.cell? ⟨w1.heap.size, 0, none⟩ = some (.int .i64 ah) := blk_cell g1 0
  have c1_1 : W1.cell? ⟨w1.heap.size, 1, none⟩ = some (.int .u64 al) := blk_cell g1 1
  have f1 : ∀ j, W1.frozen? ⟨w1.heap.size, j, none⟩ = false := blk_free g1
  have hB : Below W1.heap.size W1 W1 := Below.refl _ _
  have G1 := Lib.hid g1; clear g1
  have F1 := Lib.hid f1; clear f1
  have Hw := Lib.hid hw; clear hw
  have kz0 : w.heap.size < W1.heap.size := lt_of_cell c0_0
  have kz1 : w1.heap.size < W1.heap.size := lt_of_cell c1_0
  go_upto_region 3 with (go_at_call 39; refine (radd_calls h0 l0 h1 l1 _ K0.out K1.out).mono ?_; rintro e w' ⟨rfl, hb⟩; rw [RA.out]; have hB := bl_next (by repeat (first | with_reducible exact hB | refine Below.alloc ?_ (by have := hB.size; simp; omega) _ | refine bl_dN ?_ _ | refine Below.drew ?_ | refine Below.setCell ?_ (by have := hB.size; simp; omega) _)) hb; clear hb; have k0_0 := cb hB c0_0; have k0_1 := cb hB c0_1; have k0_2 := cb hB c0_2; have k0_3 := cb hB c0_3; have k1_0 := cb hB c1_0; have k1_1 := cb hB c1_1; have kz0 : w.heap.size < _ := lt_of_cell k0_0; have kz1 : w1.heap.size < _ := lt_of_cell k1_0)
  obtain ⟨w2, rfl⟩ : ∃ w2 : World, w2 = w' := ⟨_, rfl⟩
  first | with_reducible refine name_wp ?_ | with_reducible refine name_calls ?_
  intro W2 hWeq
  have g2 : W2.heap[w2.heap.size]? = some (.cells #[.int .i64 ah, .int .u64 al] 57) := by rw [hWeq]; repeat (first | (with_reducible exact blk_newAt _ _ (by simp)) | with_reducible refine blk_drew ?_ | with_reducible refine blk_dN ?_ _ | with_reducible refine blk_old ?_ _)
  have hWW : Below W1.heap.size W1 W2 := by rw [hWeq]; exact (by repeat (first | with_reducible exact hB | refine Below.alloc ?_ (by have := hB.size; simp; omega) _ | refine bl_dN ?_ _ | refine Below.drew ?_ | refine Below.setCell ?_ (by have := hB.size; simp; omega) _))
  have hw := bl_from Hw.out hWW
  clear Hw
  have c0_0 := cb hWW c0_0
  have c0_1 := cb hWW c0_1
  have c0_2 := cb hWW c0_2
  have c0_3 := cb hWW c0_3
  have c1_0 := cb hWW c1_0
  have c1_1 := cb hWW c1_1
  have hz : W1.heap.size ≤ W2.heap.size := hWW.size
  have HB_W2 := Lib.hid hWW; clear hWW hz
  clear hWeq
  have hz : w2.heap.size + 1 ≤ W2.heap.size := by have := blk_lt g2; omega
  have c2_0 : W2.cell? ⟨w2.heap.size, 0, none⟩ = some (.int .i64 ah) := blk_cell g2 0
  have c2_1 : W2.cell? ⟨w2.heap.size, 1, none⟩ = some (.int .u64 al) := blk_cell g2 1
  have f2 : ∀ j, W2.frozen? ⟨w2.heap.size, j, none⟩ = false := blk_free g2
  have hB : Below W2.heap.size W2 W2 := Below.refl _ _
  have G2 := Lib.hid g2; clear g2
  have F2 := Lib.hid f2; clear f2
  have Hw := Lib.hid hw; clear hw
  have kz0 : w.heap.size < W2.heap.size := lt_of_cell c0_0
  have kz1 : w1.heap.size < W2.heap.size := lt_of_cell c1_0
  have kz2 : w2.heap.size < W2.heap.size := lt_of_cell c2_0
  go_upto_region 4 with (go_at_call 40; refine (wsub_calls h0 l0 h1 l1 _ K0.out K1.out).mono ?_; rintro e w' ⟨rfl, hb⟩; rw [RS.out]; have hB := bl_next (by repeat (first | with_reducible exact hB | refine Below.alloc ?_ (by have := hB.size; simp; omega) _ | refine bl_dN ?_ _ | refine Below.drew ?_ | refine Below.setCell ?_ (by have := hB.size; simp; omega) _)) hb; clear hb; have k0_0 := cb hB c0_0; have k0_1 := cb hB c0_1; have k0_2 := cb hB c0_2; have k0_3 := cb hB c0_3; have k1_0 := cb hB c1_0; have k1_1 := cb hB c1_1; have k2_0 := cb hB c2_0; have k2_1 := cb hB c2_1; have kz0 : w.heap.size < _ := lt_of_cell k0_0; have kz1 : w1.heap.size < _ := lt_of_cell k1_0; have kz2 : w2.heap.size < _ := lt_of_cell k2_0)
  obtain ⟨w3, rfl⟩ : ∃ w3 : World, w3 = w' := ⟨_, rfl⟩
  first | with_reducible refine name_wp ?_ | with_reducible refine name_calls ?_
  intro W3 hWeq
  have g3 : W3.heap[w3.heap.size]? = some (.cells #[.int .i64 sh, .int .u64 sl] 57) := by rw [hWeq]; repeat (first | (with_reducible exact blk_newAt _ _ (by simp)) | with_reducible refine blk_drew ?_ | with_reducible refine blk_dN ?_ _ | with_reducible refine blk_old ?_ _)
  have hWW : Below W2.heap.size W2 W3 := by rw [hWeq]; exact (by repeat (first | with_reducible exact hB | refine Below.alloc ?_ (by have := hB.size; simp; omega) _ | refine bl_dN ?_ _ | refine Below.drew ?_ | refine Below.setCell ?_ (by have := hB.size; simp; omega) _))
  have hw := bl_from Hw.out hWW
  clear Hw
  have c0_0 := cb hWW c0_0
  have c0_1 := cb hWW c0_1
  have c0_2 := cb hWW c0_2
  have c0_3 := cb hWW c0_3
  have c1_0 := cb hWW c1_0
  have c1_1 := cb hWW c1_1
  have c2_0 := cb hWW c2_0
  have c2_1 := cb hWW c2_1
  have hz : W2.heap.size ≤ W3.heap.size := hWW.size
  have HB_W3 := Lib.hid hWW; clear hWW hz
  clear hWeq
  have hz : w3.heap.size + 1 ≤ W3.heap.size := by have := blk_lt g3; omega
  have c3_0 : W3.cell? ⟨w3.heap.size, 0, none⟩ = some (.int .i64 sh) := blk_cell g3 0
  have c3_1 : W3.cell? ⟨w3.heap.size, 1, none⟩ = some (.int .u64 sl) := blk_cell g3 1
  have f3 : ∀ j, W3.frozen? ⟨w3.heap.size, j, none⟩ = false := blk_free g3
  have hB : Below W3.heap.size W3 W3 := Below.refl _ _
  have G3 := Lib.hid g3; clear g3
  have F3 := Lib.hid f3; clear f3
  have Hw := Lib.hid hw; clear hw
  have kz0 : w.heap.size < W3.heap.size := lt_of_cell c0_0
  have kz1 : w1.heap.size < W3.heap.size := lt_of_cell c1_0
  have kz2 : w2.heap.size < W3.heap.size := lt_of_cell c2_0
  have kz3 : w3.heap.size < W3.heap.size := lt_of_cell c3_0
  go_upto_region 5 with (go_at_call 41; refine (rsub_calls h0 l0 h1 l1 _ K0.out K1.out).mono ?_; rintro e w' ⟨rfl, hb⟩; rw [RS.out]; have hB := bl_next (by repeat (first | with_reducible exact hB | refine Below.alloc ?_ (by have := hB.size; simp; omega) _ | refine bl_dN ?_ _ | refine Below.drew ?_ | refine Below.setCell ?_ (by have := hB.size; simp; omega) _)) hb; clear hb; have k0_0 := cb hB c0_0; have k0_1 := cb hB c0_1; have k0_2 := cb hB c0_2; have k0_3 := cb hB c0_3; have k1_0 := cb hB c1_0; have k1_1 := cb hB c1_1; have k2_0 := cb hB c2_0; have k2_1 := cb hB c2_1; have k3_0 := cb hB c3_0; have k3_1 := cb hB c3_1; have kz0 : w.heap.size < _ := lt_of_cell k0_0; have kz1 : w1.heap.size < _ := lt_of_cell k1_0; have kz2 : w2.heap.size < _ := lt_of_cell k2_0; have kz3 : w3.heap.size < _ := lt_of_cell k3_0)
  obtain ⟨w4, rfl⟩ : ∃ w4 : World, w4 = w' := ⟨_, rfl⟩
  first | with_reducible refine name_wp ?_ | with_reducible refine name_calls ?_
  intro W4 hWeq
  have g4 : W4.heap[w4.heap.size]? = some (.cells #[.int .i64 sh, .int .u64 sl] 57) := by rw [hWeq]; repeat (first | (with_reducible exact blk_newAt _ _ (by simp)) | with_reducible refine blk_drew ?_ | with_reducible refine blk_dN ?_ _ | with_reducible refine blk_old ?_ _)
  have hWW : Below W3.heap.size W3 W4 := by rw [hWeq]; exact (by repeat (first | with_reducible exact hB | refine Below.alloc ?_ (by have := hB.size; simp; omega) _ | refine bl_dN ?_ _ | refine Below.drew ?_ | refine Below.setCell ?_ (by have := hB.size; simp; omega) _))
  have hw := bl_from Hw.out hWW
  clear Hw
  have c0_0 := cb hWW c0_0
  have c0_1 := cb hWW c0_1
  have c0_2 := cb hWW c0_2
  have c0_3 := cb hWW c0_3
  have c1_0 := cb hWW c1_0
  have c1_1 := cb hWW c1_1
  have c2_0 := cb hWW c2_0
  have c2_1 := cb hWW c2_1
  have c3_0 := cb hWW c3_0
  have c3_1 := cb hWW c3_1
  have hz : W3.heap.size ≤ W4.heap.size := hWW.size
  have HB_W4 := Lib.hid hWW; clear hWW hz
  clear hWeq
  have hz : w4.heap.size + 1 ≤ W4.heap.size := by have := blk_lt g4; omega
  have c4_0 : W4.cell? ⟨w4.heap.size, 0, none⟩ = some (.int .i64 sh) := blk_cell g4 0
  have c4_1 : W4.cell? ⟨w4.heap.size, 1, none⟩ = some (.int .u64 sl) := blk_cell g4 1
  have f4 : ∀ j, W4.frozen? ⟨w4.heap.size, j, none⟩ = false := blk_free g4
  have hB : Below W4.heap.size W4 W4 := Below.refl _ _
  have G4 := Lib.hid g4; clear g4
  have F4 := Lib.hid f4; clear f4
  have Hw := Lib.hid hw; clear hw
  have kz0 : w.heap.size < W4.heap.size := lt_of_cell c0_0
  have kz1 : w1.heap.size < W4.heap.size := lt_of_cell c1_0
  have kz2 : w2.heap.size < W4.heap.size := lt_of_cell c2_0
  have kz3 : w3.heap.size < W4.heap.size := lt_of_cell c3_0
  have kz4 : w4.heap.size < W4.heap.size := lt_of_cell c4_0
  go_upto_region 7 with fail
  go_upto_region 8 with (go_at_call 42; refine (wfits_calls h0 l0 _ K0.out).mono ?_; rintro e w' ⟨rfl, hb⟩; rw [RF.out]; have hB := bl_next (by repeat (first | with_reducible exact hB | refine Below.alloc ?_ (by have := hB.size; simp; omega) _ | refine bl_dN ?_ _ | refine Below.drew ?_ | refine Below.setCell ?_ (by have := hB.size; simp; omega) _)) hb; clear hb; have k0_0 := cb hB c0_0; have k0_1 := cb hB c0_1; have k0_2 := cb hB c0_2; have k0_3 := cb hB c0_3; have k1_0 := cb hB c1_0; have k1_1 := cb hB c1_1; have k2_0 := cb hB c2_0; have k2_1 := cb hB c2_1; have k3_0 := cb hB c3_0; have k3_1 := cb hB c3_1; have k4_0 := cb hB c4_0; have k4_1 := cb hB c4_1; have kz0 : w.heap.size < _ := lt_of_cell k0_0; have kz1 : w1.heap.size < _ := lt_of_cell k1_0; have kz2 : w2.heap.size < _ := lt_of_cell k2_0; have kz3 : w3.heap.size < _ := lt_of_cell k3_0; have kz4 : w4.heap.size < _ := lt_of_cell k4_0)
  go_upto_region 9 with (go_at_call 43; refine (rfits_calls h0 l0 _ K0.out).mono ?_; rintro e w' ⟨rfl, hb⟩; rw [RF.out]; have hB := bl_next (by repeat (first | with_reducible exact hB | refine Below.alloc ?_ (by have := hB.size; simp; omega) _ | refine bl_dN ?_ _ | refine Below.drew ?_ | refine Below.setCell ?_ (by have := hB.size; simp; omega) _)) hb; clear hb; have k0_0 := cb hB c0_0; have k0_1 := cb hB c0_1; have k0_2 := cb hB c0_2; have k0_3 := cb hB c0_3; have k1_0 := cb hB c1_0; have k1_1 := cb hB c1_1; have k2_0 := cb hB c2_0; have k2_1 := cb hB c2_1; have k3_0 := cb hB c3_0; have k3_1 := cb hB c3_1; have k4_0 := cb hB c4_0; have k4_1 := cb hB c4_1; have kz0 : w.heap.size < _ := lt_of_cell k0_0; have kz1 : w1.heap.size < _ := lt_of_cell k1_0; have kz2 : w2.heap.size < _ := lt_of_cell k2_0; have kz3 : w3.heap.size < _ := lt_of_cell k3_0; have kz4 : w4.heap.size < _ := lt_of_cell k4_0)
  go_upto_region 10 with (go_at_call 44; refine (wshift_calls h0 l0 m _ K0.out).mono ?_; rintro e w' ⟨rfl, hb⟩; rw [RT.out]; have hB := bl_next (by repeat (first | with_reducible exact hB | refine Below.alloc ?_ (by have := hB.size; simp; omega) _ | refine bl_dN ?_ _ | refine Below.drew ?_ | refine Below.setCell ?_ (by have := hB.size; simp; omega) _)) hb; clear hb; have k0_0 := cb hB c0_0; have k0_1 := cb hB c0_1; have k0_2 := cb hB c0_2; have k0_3 := cb hB c0_3; have k1_0 := cb hB c1_0; have k1_1 := cb hB c1_1; have k2_0 := cb hB c2_0; have k2_1 := cb hB c2_1; have k3_0 := cb hB c3_0; have k3_1 := cb hB c3_1; have k4_0 := cb hB c4_0; have k4_1 := cb hB c4_1; have kz0 : w.heap.size < _ := lt_of_cell k0_0; have kz1 : w1.heap.size < _ := lt_of_cell k1_0; have kz2 : w2.heap.size < _ := lt_of_cell k2_0; have kz3 : w3.heap.size < _ := lt_of_cell k3_0; have kz4 : w4.heap.size < _ := lt_of_cell k4_0)
  obtain ⟨w5, rfl⟩ : ∃ w5 : World, w5 = w' := ⟨_, rfl⟩
  first | with_reducible refine name_wp ?_ | with_reducible refine name_calls ?_
  intro W5 hWeq
  have g5 : W5.heap[w5.heap.size]? = some (.cells #[.int .i64 th, .int .u64 tl] 57) := by rw [hWeq]; repeat (first | (with_reducible exact blk_newAt _ _ (by simp)) | with_reducible refine blk_drew ?_ | with_reducible refine blk_dN ?_ _ | with_reducible refine blk_old ?_ _)
  have hWW : Below W4.heap.size W4 W5 := by rw [hWeq]; exact (by repeat (first | with_reducible exact hB | refine Below.alloc ?_ (by have := hB.size; simp; omega) _ | refine bl_dN ?_ _ | refine Below.drew ?_ | refine Below.setCell ?_ (by have := hB.size; simp; omega) _))
  have hw := bl_from Hw.out hWW
  clear Hw
  have c0_0 := cb hWW c0_0
  have c0_1 := cb hWW c0_1
  have c0_2 := cb hWW c0_2
  have c0_3 := cb hWW c0_3
  have c1_0 := cb hWW c1_0
  have c1_1 := cb hWW c1_1
  have c2_0 := cb hWW c2_0
  have c2_1 := cb hWW c2_1
  have c3_0 := cb hWW c3_0
  have c3_1 := cb hWW c3_1
  have c4_0 := cb hWW c4_0
  have c4_1 := cb hWW c4_1
  have hz : W4.heap.size ≤ W5.heap.size := hWW.size
  have HB_W5 := Lib.hid hWW; clear hWW hz
  clear hWeq
  have hz : w5.heap.size + 1 ≤ W5.heap.size := by have := blk_lt g5; omega
  have c5_0 : W5.cell? ⟨w5.heap.size, 0, none⟩ = some (.int .i64 th) := blk_cell g5 0
  have c5_1 : W5.cell? ⟨w5.heap.size, 1, none⟩ = some (.int .u64 tl) := blk_cell g5 1
  have f5 : ∀ j, W5.frozen? ⟨w5.heap.size, j, none⟩ = false := blk_free g5
  have hB : Below W5.heap.size W5 W5 := Below.refl _ _
  have G5 := Lib.hid g5; clear g5
  have F5 := Lib.hid f5; clear f5
  have Hw := Lib.hid hw; clear hw
  have kz0 : w.heap.size < W5.heap.size := lt_of_cell c0_0
  have kz1 : w1.heap.size < W5.heap.size := lt_of_cell c1_0
  have kz2 : w2.heap.size < W5.heap.size := lt_of_cell c2_0
  have kz3 : w3.heap.size < W5.heap.size := lt_of_cell c3_0
  have kz4 : w4.heap.size < W5.heap.size := lt_of_cell c4_0
  have kz5 : w5.heap.size < W5.heap.size := lt_of_cell c5_0
  go_upto_region 11 with (go_at_call 45; refine (rshift_calls h0 l0 m _ K0.out).mono ?_; rintro e w' ⟨rfl, hb⟩; rw [RT.out]; have hB := bl_next (by repeat (first | with_reducible exact hB | refine Below.alloc ?_ (by have := hB.size; simp; omega) _ | refine bl_dN ?_ _ | refine Below.drew ?_ | refine Below.setCell ?_ (by have := hB.size; simp; omega) _)) hb; clear hb; have k0_0 := cb hB c0_0; have k0_1 := cb hB c0_1; have k0_2 := cb hB c0_2; have k0_3 := cb hB c0_3; have k1_0 := cb hB c1_0; have k1_1 := cb hB c1_1; have k2_0 := cb hB c2_0; have k2_1 := cb hB c2_1; have k3_0 := cb hB c3_0; have k3_1 := cb hB c3_1; have k4_0 := cb hB c4_0; have k4_1 := cb hB c4_1; have k5_0 := cb hB c5_0; have k5_1 := cb hB c5_1; have kz0 : w.heap.size < _ := lt_of_cell k0_0; have kz1 : w1.heap.size < _ := lt_of_cell k1_0; have kz2 : w2.heap.size < _ := lt_of_cell k2_0; have kz3 : w3.heap.size < _ := lt_of_cell k3_0; have kz4 : w4.heap.size < _ := lt_of_cell k4_0; have kz5 : w5.heap.size < _ := lt_of_cell k5_0)
  obtain ⟨w6, rfl⟩ : ∃ w6 : World, w6 = w' := ⟨_, rfl⟩
  first | with_reducible refine name_wp ?_ | with_reducible refine name_calls ?_
  intro W6 hWeq
  have g6 : W6.heap[w6.heap.size]? = some (.cells #[.int .i64 th, .int .u64 tl] 57) := by rw [hWeq]; repeat (first | (with_reducible exact blk_newAt _ _ (by simp)) | with_reducible refine blk_drew ?_ | with_reducible refine blk_dN ?_ _ | with_reducible refine blk_old ?_ _)
  have hWW : Below W5.heap.size W5 W6 := by rw [hWeq]; exact (by repeat (first | with_reducible exact hB | refine Below.alloc ?_ (by have := hB.size; simp; omega) _ | refine bl_dN ?_ _ | refine Below.drew ?_ | refine Below.setCell ?_ (by have := hB.size; simp; omega) _))
  have hw := bl_from Hw.out hWW
  clear Hw
  have c0_0 := cb hWW c0_0
  have c0_1 := cb hWW c0_1
  have c0_2 := cb hWW c0_2
  have c0_3 := cb hWW c0_3
  have c1_0 := cb hWW c1_0
  have c1_1 := cb hWW c1_1
  have c2_0 := cb hWW c2_0
  have c2_1 := cb hWW c2_1
  have c3_0 := cb hWW c3_0
  have c3_1 := cb hWW c3_1
  have c4_0 := cb hWW c4_0
  have c4_1 := cb hWW c4_1
  have c5_0 := cb hWW c5_0
  have c5_1 := cb hWW c5_1
  have hz : W5.heap.size ≤ W6.heap.size := hWW.size
  have HB_W6 := Lib.hid hWW; clear hWW hz
  clear hWeq
  have hz : w6.heap.size + 1 ≤ W6.heap.size := by have := blk_lt g6; omega
  have c6_0 : W6.cell? ⟨w6.heap.size, 0, none⟩ = some (.int .i64 th) := blk_cell g6 0
  have c6_1 : W6.cell? ⟨w6.heap.size, 1, none⟩ = some (.int .u64 tl) := blk_cell g6 1
  have f6 : ∀ j, W6.frozen? ⟨w6.heap.size, j, none⟩ = false := blk_free g6
  have hB : Below W6.heap.size W6 W6 := Below.refl _ _
  have G6 := Lib.hid g6; clear g6
  have F6 := Lib.hid f6; clear f6
  have Hw := Lib.hid hw; clear hw
  have kz0 : w.heap.size < W6.heap.size := lt_of_cell c0_0
  have kz1 : w1.heap.size < W6.heap.size := lt_of_cell c1_0
  have kz2 : w2.heap.size < W6.heap.size := lt_of_cell c2_0
  have kz3 : w3.heap.size < W6.heap.size := lt_of_cell c3_0
  have kz4 : w4.heap.size < W6.heap.size := lt_of_cell c4_0
  have kz5 : w5.heap.size < W6.heap.size := lt_of_cell c5_0
  have kz6 : w6.heap.size < W6.heap.size := lt_of_cell c6_0
  have hB := hB.drew
  refine region_seq (fun w' => Below W6.heap.size W6 w') [(0, false), (1, true), (2, true), (3, true), (4, true), (5, true), (6, true), (7, true), (8, true), (9, true), (10, true), (11, true), (12, true), (13, true), (14, true), (15, true), (16, true), (17, true), (18, true), (19, true), (20, true), (21, true), (22, true), (24, true), (23, false), (25, false), (26, true), (27, true), (28, true), (29, true), (30, true), (31, true), (32, true), (34, true), (35, true), (36, true), (37, true), (33, false), (38, false), (39, true), (40, true), (41, true), (42, true), (43, true), (45, true), (46, true), (44, false), (47, false), (48, true), (49, true), (50, true)] (by kernel_rfl) (by kernel_rfl) (fun _ _ _ _ h => h) hB ?_
  try generalize World.drew _ = wS at hB ⊢
  refine seq_call (args := ?_) Try.func46 (by kernel_rfl) rfl (some 99) rfl rfl (by rfl) rfl ?_ ?_
  rotate_left
  · simp only [List.map_toArray, List.map_cons, List.map_nil]; go_simp; rfl
  with_reducible refine (alive2_calls _).mono ?_
  rintro e w' ⟨rfl, hb⟩
  refine ⟨_, rfl, bl_next (by repeat (first | with_reducible exact hB | refine Below.alloc ?_ (by have := hB.size; simp; omega) _ | refine bl_dN ?_ _ | refine Below.drew ?_ | refine Below.setCell ?_ (by have := hB.size; simp; omega) _)) hb, ?_⟩
  have hB := bl_next (by repeat (first | with_reducible exact hB | refine Below.alloc ?_ (by have := hB.size; simp; omega) _ | refine bl_dN ?_ _ | refine Below.drew ?_ | refine Below.setCell ?_ (by have := hB.size; simp; omega) _)) hb; clear hb
  simp only [Act.put, List.setIfInBounds_toArray, List.set_cons_zero, List.set_cons_succ]
  refine seq_take (v := ?_) (a' := ?_) (some 100) rfl rfl (by rfl) ?_ ?_ ?_
  rotate_left; rotate_left
  · intro w' hS; go_simp; with_reducible rfl
  · simp only [Act.put, List.setIfInBounds_toArray, List.set_cons_zero, List.set_cons_succ]; rfl
  refine seq_take (v := ?_) (a' := ?_) (some 101) rfl rfl (by rfl) ?_ ?_ ?_
  rotate_left; rotate_left
  · intro w' hS; go_simp; with_reducible rfl
  · simp only [Act.put, List.setIfInBounds_toArray, List.set_cons_zero, List.set_cons_succ]; rfl
  refine seq_take (v := ?_) (a' := ?_) (some 102) rfl rfl (by rfl) ?_ ?_ ?_
  rotate_left; rotate_left
  · intro w' hS; go_simp; with_reducible rfl
  · simp only [Act.put, List.setIfInBounds_toArray, List.set_cons_zero, List.set_cons_succ]; rfl
  refine seq_take (v := ?_) (a' := ?_) (some 103) rfl rfl (by rfl) ?_ ?_ ?_
  rotate_left; rotate_left
  · intro w' hS; go_simp; with_reducible rfl
  · simp only [Act.put, List.setIfInBounds_toArray, List.set_cons_zero, List.set_cons_succ]; rfl
  refine seq_take (v := ?_) (a' := ?_) (some 104) rfl rfl (by rfl) ?_ ?_ ?_
  rotate_left; rotate_left
  · intro w' hS; go_simp; with_reducible rfl
  · simp only [Act.put, List.setIfInBounds_toArray, List.set_cons_zero, List.set_cons_succ]; rfl
  refine seq_take (v := ?_) (a' := ?_) (some 105) rfl rfl (by rfl) ?_ ?_ ?_
  rotate_left; rotate_left
  · intro w' hS; go_simp; with_reducible rfl
  · simp only [Act.put, List.setIfInBounds_toArray, List.set_cons_zero, List.set_cons_succ]; rfl
  refine seq_take (v := ?_) (a' := ?_) (some 106) rfl rfl (by rfl) ?_ ?_ ?_
  rotate_left; rotate_left
  · intro w' hS; go_simp; with_reducible rfl
  · simp only [Act.put, List.setIfInBounds_toArray, List.set_cons_zero, List.set_cons_succ]; rfl
  refine seq_take (v := ?_) (a' := ?_) (some 107) rfl rfl (by rfl) ?_ ?_ ?_
  rotate_left; rotate_left
  · intro w' hS; go_simp; with_reducible rfl
  · simp only [Act.put, List.setIfInBounds_toArray, List.set_cons_zero, List.set_cons_succ]; rfl
  refine seq_take (v := ?_) (a' := ?_) (some 108) rfl rfl (by rfl) ?_ ?_ ?_
  rotate_left; rotate_left
  · intro w' hS; go_simp; with_reducible rfl
  · simp only [Act.put, List.setIfInBounds_toArray, List.set_cons_zero, List.set_cons_succ]; rfl
  refine seq_take (v := ?_) (a' := ?_) (some 109) rfl rfl (by rfl) ?_ ?_ ?_
  rotate_left; rotate_left
  · intro w' hS; go_simp; with_reducible rfl
  · simp only [Act.put, List.setIfInBounds_toArray, List.set_cons_zero, List.set_cons_succ]; rfl
  refine seq_take (v := ?_) (a' := ?_) (some 110) rfl rfl (by rfl) ?_ ?_ ?_
  rotate_left; rotate_left
  · intro w' hS; go_simp; with_reducible rfl
  · simp only [Act.put, List.setIfInBounds_toArray, List.set_cons_zero, List.set_cons_succ]; rfl
  refine seq_take (v := ?_) (a' := ?_) (some 111) rfl rfl (by rfl) ?_ ?_ ?_
  rotate_left; rotate_left
  · intro w' hS; have s0_0 := cb hS c0_0; have s0_1 := cb hS c0_1; have s0_2 := cb hS c0_2; have s0_3 := cb hS c0_3; have s1_0 := cb hS c1_0; have s1_1 := cb hS c1_1; have s2_0 := cb hS c2_0; have s2_1 := cb hS c2_1; have s3_0 := cb hS c3_0; have s3_1 := cb hS c3_1; have s4_0 := cb hS c4_0; have s4_1 := cb hS c4_1; have s5_0 := cb hS c5_0; have s5_1 := cb hS c5_1; have s6_0 := cb hS c6_0; have s6_1 := cb hS c6_1; go_simp; with_reducible rfl
  · simp only [Act.put, List.setIfInBounds_toArray, List.set_cons_zero, List.set_cons_succ]; rfl
  refine seq_take (v := ?_) (a' := ?_) (some 112) rfl rfl (by rfl) ?_ ?_ ?_
  rotate_left; rotate_left
  · intro w' hS; have s0_0 := cb hS c0_0; have s0_1 := cb hS c0_1; have s0_2 := cb hS c0_2; have s0_3 := cb hS c0_3; have s1_0 := cb hS c1_0; have s1_1 := cb hS c1_1; have s2_0 := cb hS c2_0; have s2_1 := cb hS c2_1; have s3_0 := cb hS c3_0; have s3_1 := cb hS c3_1; have s4_0 := cb hS c4_0; have s4_1 := cb hS c4_1; have s5_0 := cb hS c5_0; have s5_1 := cb hS c5_1; have s6_0 := cb hS c6_0; have s6_1 := cb hS c6_1; go_simp; with_reducible rfl
  · simp only [Act.put, List.setIfInBounds_toArray, List.set_cons_zero, List.set_cons_succ]; rfl
  refine seq_take (v := ?_) (a' := ?_) (some 113) rfl rfl (by rfl) ?_ ?_ ?_
  rotate_left; rotate_left
  · intro w' hS; go_simp; with_reducible rfl
  · simp only [Act.put, List.setIfInBounds_toArray, List.set_cons_zero, List.set_cons_succ]; rfl
  refine seq_take (v := ?_) (a' := ?_) (some 114) rfl rfl (by rfl) ?_ ?_ ?_
  rotate_left; rotate_left
  · intro w' hS; go_simp; with_reducible rfl
  · simp only [Act.put, List.setIfInBounds_toArray, List.set_cons_zero, List.set_cons_succ]; rfl
  refine seq_take (v := ?_) (a' := ?_) (some 115) rfl rfl (by rfl) ?_ ?_ ?_
  rotate_left; rotate_left
  · intro w' hS; go_simp; with_reducible rfl
  · simp only [Act.put, List.setIfInBounds_toArray, List.set_cons_zero, List.set_cons_succ]; rfl
  refine seq_take (v := ?_) (a' := ?_) (some 116) rfl rfl (by rfl) ?_ ?_ ?_
  rotate_left; rotate_left
  · intro w' hS; go_simp; with_reducible rfl
  · simp only [Act.put, List.setIfInBounds_toArray, List.set_cons_zero, List.set_cons_succ]; rfl
  refine seq_take (v := ?_) (a' := ?_) (some 117) rfl rfl (by rfl) ?_ ?_ ?_
  rotate_left; rotate_left
  · intro w' hS; go_simp; with_reducible rfl
  · simp only [Act.put, List.setIfInBounds_toArray, List.set_cons_zero, List.set_cons_succ]; rfl
  refine seq_take (v := ?_) (a' := ?_) (some 118) rfl rfl (by rfl) ?_ ?_ ?_
  rotate_left; rotate_left
  · intro w' hS; go_simp; with_reducible rfl
  · simp only [Act.put, List.setIfInBounds_toArray, List.set_cons_zero, List.set_cons_succ]; rfl
  refine seq_take (v := ?_) (a' := ?_) (some 119) rfl rfl (by rfl) ?_ ?_ ?_
  rotate_left; rotate_left
  · intro w' hS; go_simp; with_reducible rfl
  · simp only [Act.put, List.setIfInBounds_toArray, List.set_cons_zero, List.set_cons_succ]; rfl
  refine seq_take (v := ?_) (a' := ?_) (some 120) rfl rfl (by rfl) ?_ ?_ ?_
  rotate_left; rotate_left
  · intro w' hS; go_simp; with_reducible rfl
  · simp only [Act.put, List.setIfInBounds_toArray, List.set_cons_zero, List.set_cons_succ]; rfl
  refine seq_take (v := ?_) (a' := ?_) (some 121) rfl rfl (by rfl) ?_ ?_ ?_
  rotate_left; rotate_left
  · intro w' hS; go_simp; with_reducible rfl
  · simp only [Act.put, List.setIfInBounds_toArray, List.set_cons_zero, List.set_cons_succ]; rfl
  refine seq_take (v := ?_) (a' := ?_) (some 123) rfl rfl (by rfl) ?_ ?_ ?_
  rotate_left; rotate_left
  · intro w' hS; go_simp; with_reducible rfl
  · simp only [Act.put, List.setIfInBounds_toArray, List.set_cons_zero, List.set_cons_succ]; rfl
  refine seq_call (args := ?_) Try.func47 (by kernel_rfl) rfl (some 122) rfl rfl (by rfl) rfl ?_ ?_
  rotate_left
  · simp only [List.map_toArray, List.map_cons, List.map_nil]; go_simp; rfl
  with_reducible refine (wof_calls n _ N1.out N2.out).mono ?_
  rintro e w' ⟨rfl, hb⟩
  rw [RO.out]
  refine ⟨_, rfl, bl_next (by repeat (first | with_reducible exact hB | refine Below.alloc ?_ (by have := hB.size; simp; omega) _ | refine bl_dN ?_ _ | refine Below.drew ?_ | refine Below.setCell ?_ (by have := hB.size; simp; omega) _)) hb, ?_⟩
  have hB := bl_next (by repeat (first | with_reducible exact hB | refine Below.alloc ?_ (by have := hB.size; simp; omega) _ | refine bl_dN ?_ _ | refine Below.drew ?_ | refine Below.setCell ?_ (by have := hB.size; simp; omega) _)) hb; clear hb
  simp only [Act.put, List.setIfInBounds_toArray, List.set_cons_zero, List.set_cons_succ]
  refine seq_call (args := ?_) Try.func48 (by kernel_rfl) rfl (some 124) rfl rfl (by rfl) rfl ?_ ?_
  rotate_left
  · simp only [List.map_toArray, List.map_cons, List.map_nil]; go_simp; rfl
  with_reducible refine (rof_calls n _ N1.out N2.out).mono ?_
  rintro e w' ⟨rfl, hb⟩
  rw [RO.out]
  refine ⟨_, rfl, bl_next (by repeat (first | with_reducible exact hB | refine Below.alloc ?_ (by have := hB.size; simp; omega) _ | refine bl_dN ?_ _ | refine Below.drew ?_ | refine Below.setCell ?_ (by have := hB.size; simp; omega) _)) hb, ?_⟩
  have hB := bl_next (by repeat (first | with_reducible exact hB | refine Below.alloc ?_ (by have := hB.size; simp; omega) _ | refine bl_dN ?_ _ | refine Below.drew ?_ | refine Below.setCell ?_ (by have := hB.size; simp; omega) _)) hb; clear hb
  simp only [Act.put, List.setIfInBounds_toArray, List.set_cons_zero, List.set_cons_succ]
  refine seq_take (v := ?_) (a' := ?_) (some 125) rfl rfl (by rfl) ?_ ?_ ?_
  rotate_left; rotate_left
  · intro w' hS; go_simp; with_reducible rfl
  · simp only [Act.put, List.setIfInBounds_toArray, List.set_cons_zero, List.set_cons_succ]; rfl
  refine seq_take (v := ?_) (a' := ?_) (some 126) rfl rfl (by rfl) ?_ ?_ ?_
  rotate_left; rotate_left
  · intro w' hS; go_simp; with_reducible rfl
  · simp only [Act.put, List.setIfInBounds_toArray, List.set_cons_zero, List.set_cons_succ]; rfl
  refine seq_take (v := ?_) (a' := ?_) (some 127) rfl rfl (by rfl) ?_ ?_ ?_
  rotate_left; rotate_left
  · intro w' hS; go_simp; with_reducible rfl
  · simp only [Act.put, List.setIfInBounds_toArray, List.set_cons_zero, List.set_cons_succ]; rfl
  refine seq_take (v := ?_) (a' := ?_) (some 128) rfl rfl (by rfl) ?_ ?_ ?_
  rotate_left; rotate_left
  · intro w' hS; go_simp; with_reducible rfl
  · simp only [Act.put, List.setIfInBounds_toArray, List.set_cons_zero, List.set_cons_succ]; rfl
  refine seq_take (v := ?_) (a' := ?_) (some 129) rfl rfl (by rfl) ?_ ?_ ?_
  rotate_left; rotate_left
  · intro w' hS; have s0_0 := cb hS c0_0; have s0_1 := cb hS c0_1; have s0_2 := cb hS c0_2; have s0_3 := cb hS c0_3; have s1_0 := cb hS c1_0; have s1_1 := cb hS c1_1; have s2_0 := cb hS c2_0; have s2_1 := cb hS c2_1; have s3_0 := cb hS c3_0; have s3_1 := cb hS c3_1; have s4_0 := cb hS c4_0; have s4_1 := cb hS c4_1; have s5_0 := cb hS c5_0; have s5_1 := cb hS c5_1; have s6_0 := cb hS c6_0; have s6_1 := cb hS c6_1; go_simp; with_reducible rfl
  · simp only [Act.put, List.setIfInBounds_toArray, List.set_cons_zero, List.set_cons_succ]; rfl
  refine seq_take (v := ?_) (a' := ?_) (some 130) rfl rfl (by rfl) ?_ ?_ ?_
  rotate_left; rotate_left
  · intro w' hS; go_simp; with_reducible rfl
  · simp only [Act.put, List.setIfInBounds_toArray, List.set_cons_zero, List.set_cons_succ]; rfl
  refine seq_take (v := ?_) (a' := ?_) (some 131) rfl rfl (by rfl) ?_ ?_ ?_
  rotate_left; rotate_left
  · intro w' hS; have s0_0 := cb hS c0_0; have s0_1 := cb hS c0_1; have s0_2 := cb hS c0_2; have s0_3 := cb hS c0_3; have s1_0 := cb hS c1_0; have s1_1 := cb hS c1_1; have s2_0 := cb hS c2_0; have s2_1 := cb hS c2_1; have s3_0 := cb hS c3_0; have s3_1 := cb hS c3_1; have s4_0 := cb hS c4_0; have s4_1 := cb hS c4_1; have s5_0 := cb hS c5_0; have s5_1 := cb hS c5_1; have s6_0 := cb hS c6_0; have s6_1 := cb hS c6_1; go_simp; with_reducible rfl
  · simp only [Act.put, List.setIfInBounds_toArray, List.set_cons_zero, List.set_cons_succ]; rfl
  refine seq_take (v := ?_) (a' := ?_) (some 133) rfl rfl (by rfl) ?_ ?_ ?_
  rotate_left; rotate_left
  · intro w' hS; go_simp; with_reducible rfl
  · simp only [Act.put, List.setIfInBounds_toArray, List.set_cons_zero, List.set_cons_succ]; rfl
  refine seq_take (v := ?_) (a' := ?_) (some 134) rfl rfl (by rfl) ?_ ?_ ?_
  rotate_left; rotate_left
  · intro w' hS; have s0_0 := cb hS c0_0; have s0_1 := cb hS c0_1; have s0_2 := cb hS c0_2; have s0_3 := cb hS c0_3; have s1_0 := cb hS c1_0; have s1_1 := cb hS c1_1; have s2_0 := cb hS c2_0; have s2_1 := cb hS c2_1; have s3_0 := cb hS c3_0; have s3_1 := cb hS c3_1; have s4_0 := cb hS c4_0; have s4_1 := cb hS c4_1; have s5_0 := cb hS c5_0; have s5_1 := cb hS c5_1; have s6_0 := cb hS c6_0; have s6_1 := cb hS c6_1; go_simp; with_reducible rfl
  · simp only [Act.put, List.setIfInBounds_toArray, List.set_cons_zero, List.set_cons_succ]; rfl
  refine seq_take (v := ?_) (a' := ?_) (some 135) rfl rfl (by rfl) ?_ ?_ ?_
  rotate_left; rotate_left
  · intro w' hS; go_simp; with_reducible rfl
  · simp only [Act.put, List.setIfInBounds_toArray, List.set_cons_zero, List.set_cons_succ]; rfl
  refine seq_take (v := ?_) (a' := ?_) (some 136) rfl rfl (by rfl) ?_ ?_ ?_
  rotate_left; rotate_left
  · intro w' hS; have s0_0 := cb hS c0_0; have s0_1 := cb hS c0_1; have s0_2 := cb hS c0_2; have s0_3 := cb hS c0_3; have s1_0 := cb hS c1_0; have s1_1 := cb hS c1_1; have s2_0 := cb hS c2_0; have s2_1 := cb hS c2_1; have s3_0 := cb hS c3_0; have s3_1 := cb hS c3_1; have s4_0 := cb hS c4_0; have s4_1 := cb hS c4_1; have s5_0 := cb hS c5_0; have s5_1 := cb hS c5_1; have s6_0 := cb hS c6_0; have s6_1 := cb hS c6_1; go_simp; with_reducible rfl
  · simp only [Act.put, List.setIfInBounds_toArray, List.set_cons_zero, List.set_cons_succ]; rfl
  refine seq_call (args := ?_) Try.func49 (by kernel_rfl) rfl (some 132) rfl rfl (by rfl) rfl ?_ ?_
  rotate_left
  · simp only [List.map_toArray, List.map_cons, List.map_nil]; go_simp; rfl
  with_reducible refine (wcmp_calls h0 l0 h1 l1 _ K0.out K1.out).mono ?_
  rintro e w' ⟨rfl, hb⟩
  rw [HC.out]
  refine ⟨_, rfl, bl_next (by repeat (first | with_reducible exact hB | refine Below.alloc ?_ (by have := hB.size; simp; omega) _ | refine bl_dN ?_ _ | refine Below.drew ?_ | refine Below.setCell ?_ (by have := hB.size; simp; omega) _)) hb, ?_⟩
  have hB := bl_next (by repeat (first | with_reducible exact hB | refine Below.alloc ?_ (by have := hB.size; simp; omega) _ | refine bl_dN ?_ _ | refine Below.drew ?_ | refine Below.setCell ?_ (by have := hB.size; simp; omega) _)) hb; clear hb
  simp only [Act.put, List.setIfInBounds_toArray, List.set_cons_zero, List.set_cons_succ]
  refine seq_call (args := ?_) Try.func50 (by kernel_rfl) rfl (some 137) rfl rfl (by rfl) rfl ?_ ?_
  rotate_left
  · simp only [List.map_toArray, List.map_cons, List.map_nil]; go_simp; rfl
  with_reducible refine (rcmp_calls h0 l0 h1 l1 _ K0.out K1.out).mono ?_
  rintro e w' ⟨rfl, hb⟩
  rw [HC.out]
  refine ⟨_, rfl, bl_next (by repeat (first | with_reducible exact hB | refine Below.alloc ?_ (by have := hB.size; simp; omega) _ | refine bl_dN ?_ _ | refine Below.drew ?_ | refine Below.setCell ?_ (by have := hB.size; simp; omega) _)) hb, ?_⟩
  have hB := bl_next (by repeat (first | with_reducible exact hB | refine Below.alloc ?_ (by have := hB.size; simp; omega) _ | refine bl_dN ?_ _ | refine Below.drew ?_ | refine Below.setCell ?_ (by have := hB.size; simp; omega) _)) hb; clear hb
  simp only [Act.put, List.setIfInBounds_toArray, List.set_cons_zero, List.set_cons_succ]
  refine seq_take (v := ?_) (a' := ?_) (some 138) rfl rfl (by rfl) ?_ ?_ ?_
  rotate_left; rotate_left
  · intro w' hS; go_simp; with_reducible rfl
  · simp only [Act.put, List.setIfInBounds_toArray, List.set_cons_zero, List.set_cons_succ]; rfl
  refine seq_take (v := ?_) (a' := ?_) (some 139) rfl rfl (by rfl) ?_ ?_ ?_
  rotate_left; rotate_left
  · intro w' hS; go_simp; with_reducible rfl
  · simp only [Act.put, List.setIfInBounds_toArray, List.set_cons_zero, List.set_cons_succ]; rfl
  refine seq_take (v := ?_) (a' := ?_) (some 140) rfl rfl (by rfl) ?_ ?_ ?_
  rotate_left; rotate_left
  · intro w' hS; go_simp; with_reducible rfl
  · simp only [Act.put, List.setIfInBounds_toArray, List.set_cons_zero, List.set_cons_succ]; rfl
  refine seq_take (v := ?_) (a' := ?_) (some 141) rfl rfl (by rfl) ?_ ?_ ?_
  rotate_left; rotate_left
  · intro w' hS; go_simp; with_reducible rfl
  · simp only [Act.put, List.setIfInBounds_toArray, List.set_cons_zero, List.set_cons_succ]; rfl
  refine seq_take (v := ?_) (a' := ?_) (some 142) rfl rfl (by rfl) ?_ ?_ ?_
  rotate_left; rotate_left
  · intro w' hS; have s0_0 := cb hS c0_0; have s0_1 := cb hS c0_1; have s0_2 := cb hS c0_2; have s0_3 := cb hS c0_3; have s1_0 := cb hS c1_0; have s1_1 := cb hS c1_1; have s2_0 := cb hS c2_0; have s2_1 := cb hS c2_1; have s3_0 := cb hS c3_0; have s3_1 := cb hS c3_1; have s4_0 := cb hS c4_0; have s4_1 := cb hS c4_1; have s5_0 := cb hS c5_0; have s5_1 := cb hS c5_1; have s6_0 := cb hS c6_0; have s6_1 := cb hS c6_1; go_simp; with_reducible rfl
  · simp only [Act.put, List.setIfInBounds_toArray, List.set_cons_zero, List.set_cons_succ]; rfl
  refine seq_take (v := ?_) (a' := ?_) (some 144) rfl rfl (by rfl) ?_ ?_ ?_
  rotate_left; rotate_left
  · intro w' hS; go_simp; with_reducible rfl
  · simp only [Act.put, List.setIfInBounds_toArray, List.set_cons_zero, List.set_cons_succ]; rfl
  refine seq_take (v := ?_) (a' := ?_) (some 145) rfl rfl (by rfl) ?_ ?_ ?_
  rotate_left; rotate_left
  · intro w' hS; have s0_0 := cb hS c0_0; have s0_1 := cb hS c0_1; have s0_2 := cb hS c0_2; have s0_3 := cb hS c0_3; have s1_0 := cb hS c1_0; have s1_1 := cb hS c1_1; have s2_0 := cb hS c2_0; have s2_1 := cb hS c2_1; have s3_0 := cb hS c3_0; have s3_1 := cb hS c3_1; have s4_0 := cb hS c4_0; have s4_1 := cb hS c4_1; have s5_0 := cb hS c5_0; have s5_1 := cb hS c5_1; have s6_0 := cb hS c6_0; have s6_1 := cb hS c6_1; go_simp; with_reducible rfl
  · simp only [Act.put, List.setIfInBounds_toArray, List.set_cons_zero, List.set_cons_succ]; rfl
  refine seq_call (args := ?_) Try.func51 (by kernel_rfl) rfl (some 143) rfl rfl (by rfl) rfl ?_ ?_
  rotate_left
  · simp only [List.map_toArray, List.map_cons, List.map_nil]; go_simp; rfl
  with_reducible refine (wtext_calls h0 l0 _ K0.out).mono ?_
  rintro e w' ⟨rfl, hb⟩
  rw [HS.out]
  refine ⟨_, rfl, bl_next (by repeat (first | with_reducible exact hB | refine Below.alloc ?_ (by have := hB.size; simp; omega) _ | refine bl_dN ?_ _ | refine Below.drew ?_ | refine Below.setCell ?_ (by have := hB.size; simp; omega) _)) hb, ?_⟩
  have hB := bl_next (by repeat (first | with_reducible exact hB | refine Below.alloc ?_ (by have := hB.size; simp; omega) _ | refine bl_dN ?_ _ | refine Below.drew ?_ | refine Below.setCell ?_ (by have := hB.size; simp; omega) _)) hb; clear hb
  simp only [Act.put, List.setIfInBounds_toArray, List.set_cons_zero, List.set_cons_succ]
  refine seq_call (args := ?_) Try.func52 (by kernel_rfl) rfl (some 146) rfl rfl (by rfl) rfl ?_ ?_
  rotate_left
  · simp only [List.map_toArray, List.map_cons, List.map_nil]; go_simp; rfl
  with_reducible refine (rtext_calls h0 l0 _ K0.out).mono ?_
  rintro e w' ⟨rfl, hb⟩
  rw [HS.out]
  refine ⟨_, rfl, bl_next (by repeat (first | with_reducible exact hB | refine Below.alloc ?_ (by have := hB.size; simp; omega) _ | refine bl_dN ?_ _ | refine Below.drew ?_ | refine Below.setCell ?_ (by have := hB.size; simp; omega) _)) hb, ?_⟩
  have hB := bl_next (by repeat (first | with_reducible exact hB | refine Below.alloc ?_ (by have := hB.size; simp; omega) _ | refine bl_dN ?_ _ | refine Below.drew ?_ | refine Below.setCell ?_ (by have := hB.size; simp; omega) _)) hb; clear hb
  simp only [Act.put, List.setIfInBounds_toArray, List.set_cons_zero, List.set_cons_succ]
  refine seq_take (v := ?_) (a' := ?_) (some 147) rfl rfl (by rfl) ?_ ?_ ?_
  rotate_left; rotate_left
  · intro w' hS; go_simp; with_reducible rfl
  · simp only [Act.put, List.setIfInBounds_toArray, List.set_cons_zero, List.set_cons_succ]; rfl
  refine seq_take (v := ?_) (a' := ?_) (some 148) rfl rfl (by rfl) ?_ ?_ ?_
  rotate_left; rotate_left
  · intro w' hS; go_simp; with_reducible rfl
  · simp only [Act.put, List.setIfInBounds_toArray, List.set_cons_zero, List.set_cons_succ]; rfl
  refine seq_take (v := ?_) (a' := ?_) (some 6) rfl rfl (by rfl) ?_ ?_ ?_
  rotate_left; rotate_left
  · intro w' hS; go_simp; with_reducible rfl
  · simp only [Act.put, List.setIfInBounds_toArray, List.set_cons_zero, List.set_cons_succ]; rfl
  refine seq_done ?_
  go_wp2_with fail
  go_ret
  exact ⟨rfl, bl_from Hw.out hB⟩
theorem wideTellsWalk {W : World} (n : Int) (v : Value) (hn : (kInt .i64).K W anyB n [v]) (y : Wide × Wide) (c : List Value) (h : (kPair kWide kWide).K W anyB y c) (m : Int) (v' : Value) (hm : (kInt .i64).K W anyB m [v']) :
    Calls Try.prog 9 #[v, .agg c.toArray, v'] W fun e w' => e = .returned (.bool true) ∧ Below W.heap.size W w' := by
  obtain ⟨c0, c1, rfl, h0, h1⟩ := h
  obtain ⟨rfl, k0⟩ := kWide_cs h0
  obtain ⟨rfl, k1⟩ := kWide_cs h1
  obtain ⟨hn, wn⟩ := hn
  obtain ⟨hm, wm⟩ := hm
  obtain ⟨rfl⟩ : v = .int .i64 n := by simpa using hn
  obtain ⟨rfl⟩ : v' = .int .i64 m := by simpa using hm
  have a := wf_i64' wn
  exact wtells_law _ _ _ _ n m W k0 k1 a.1 a.2
end Go.Proofs.Ytdcceaafiammfaa
