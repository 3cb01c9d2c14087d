import Derived.Test.YtdcceaafiammfaaFdu
import Derived.Test.YtdcceaafiammfaaFdh
namespace Go.Proofs.Ytdcceaafiammfaa
open Go.RowKit
set_option linter.unusedVariables false
set_option linter.unusedSimpArgs false
def nilE (a : ActX) : Int := if isGrow a then 0 else 1
set_option maxRecDepth 100000 in
set_option maxHeartbeats 4000000 in
theorem do_nil (w : World) (a : ActX) (h0 : 0 ≤ a.kind) (h1 : a.kind ≤ 255) :
    Calls Try.prog 15 #[.pointer none, actV a] w fun e w' => e = .returned (.int .i64 (nilE a)) ∧ Below w.heap.size w w' := by
  obtain ⟨m, hm⟩ : ∃ m, a.kind % 7 = m := ⟨_, rfl⟩
  have hT : a.kind.tmod 7 = m := by rw [Int.tmod_eq_emod_of_nonneg h0]; exact hm
  by_cases q0 : m = 0
  · subst q0
    have f0 : (a.kind % 7 == 0) = true := by rw [hm]; rfl
    have HR := Lib.hid (show nilE a = 0 by unfold nilE isGrow; rw [hT]; simp)
    clear hm hT
    unfold actV
    go_enter Try.func15, Try.ntmps15
    go_upto_region 1 with fail
    first | with_reducible refine name_wp ?_ | with_reducible refine name_calls ?_
    intro W hWeq
    have g0 : W.heap[w.heap.size]? = some (.cells #[.int .u8 a.kind, .string a.k, .string a.s, .string a.n, .int .i64 a.N] 37) := by rw [hWeq]; repeat (first | (with_reducible exact blk_newAt _ _ (by simp)) | with_reducible refine blk_drew ?_ | with_reducible refine blk_dN ?_ _ | with_reducible refine blk_old ?_ _)
    have hw : Below w.heap.size w W := by rw [hWeq]; repeat (first | with_reducible exact Below.refl _ _ | with_reducible refine Below.drew ?_ | with_reducible refine bl_dN ?_ _ | with_reducible refine Below.alloc ?_ (by simp <;> omega) _)
    clear hWeq
    have hz : w.heap.size + 1 ≤ W.heap.size := by have := blk_lt g0; omega
    have c0_0 : W.cell? ⟨w.heap.size, 0, none⟩ = some (.int .u8 a.kind) := blk_cell g0 0
    have c0_1 : W.cell? ⟨w.heap.size, 1, none⟩ = some (.string a.k) := blk_cell g0 1
    have c0_2 : W.cell? ⟨w.heap.size, 2, none⟩ = some (.string a.s) := blk_cell g0 2
    have c0_3 : W.cell? ⟨w.heap.size, 3, none⟩ = some (.string a.n) := blk_cell g0 3
    have c0_4 : W.cell? ⟨w.heap.size, 4, none⟩ = some (.int .i64 a.N) := blk_cell g0 4
    have f0 : ∀ j, W.frozen? ⟨w.heap.size, j, none⟩ = false := blk_free g0
    have hB : Below W.heap.size W W := Below.refl _ _
    have G0 := Lib.hid g0; clear g0
    have F0 := Lib.hid f0; clear f0
    have Hw := Lib.hid hw; clear hw
    go_wp2_with (go_at_call 53; refine (fgrow_nil _ _ _ _).mono ?_; rintro e w' ⟨rfl, hb⟩)
    go_ret
    rw [HR.out]
    exact ⟨rfl, bl_from Hw.out hb⟩
  by_cases q1 : m = 1
  · subst q1
    have f0 : (a.kind % 7 == 0) = false := by rw [hm]; rfl
    have f1 : (a.kind % 7 == 1) = true := by rw [hm]; rfl
    have HR := Lib.hid (show nilE a = 0 by unfold nilE isGrow; rw [hT]; simp)
    clear hm hT
    unfold actV
    go_enter Try.func15, Try.ntmps15
    go_upto_region 1 with fail
    first | with_reducible refine name_wp ?_ | with_reducible refine name_calls ?_
    intro W hWeq
    have g0 : W.heap[w.heap.size]? = some (.cells #[.int .u8 a.kind, .string a.k, .string a.s, .string a.n, .int .i64 a.N] 37) := by rw [hWeq]; repeat (first | (with_reducible exact blk_newAt _ _ (by simp)) | with_reducible refine blk_drew ?_ | with_reducible refine blk_dN ?_ _ | with_reducible refine blk_old ?_ _)
    have hw : Below w.heap.size w W := by rw [hWeq]; repeat (first | with_reducible exact Below.refl _ _ | with_reducible refine Below.drew ?_ | with_reducible refine bl_dN ?_ _ | with_reducible refine Below.alloc ?_ (by simp <;> omega) _)
    clear hWeq
    have hz : w.heap.size + 1 ≤ W.heap.size := by have := blk_lt g0; omega
    have c0_0 : W.cell? ⟨w.heap.size, 0, none⟩ = some (.int .u8 a.kind) := blk_cell g0 0
    have c0_1 : W.cell? ⟨w.heap.size, 1, none⟩ = some (.string a.k) := blk_cell g0 1
    have c0_2 : W.cell? ⟨w.heap.size, 2, none⟩ = some (.string a.s) := blk_cell g0 2
    have c0_3 : W.cell? ⟨w.heap.size, 3, none⟩ = some (.string a.n) := blk_cell g0 3
    have c0_4 : W.cell? ⟨w.heap.size, 4, none⟩ = some (.int .i64 a.N) := blk_cell g0 4
    have f0 : ∀ j, W.frozen? ⟨w.heap.size, j, none⟩ = false := blk_free g0
    have hB : Below W.heap.size W W := Below.refl _ _
    have G0 := Lib.hid g0; clear g0
    have F0 := Lib.hid f0; clear f0
    have Hw := Lib.hid hw; clear hw
    go_wp2_with (go_at_call 53; refine (fgrow_nil _ _ _ _).mono ?_; rintro e w' ⟨rfl, hb⟩)
    go_ret
    rw [HR.out]
    exact ⟨rfl, bl_from Hw.out hb⟩
  have f0 : (a.kind % 7 == 0) = false := by rw [hm]; simpa using q0
  have f1 : (a.kind % 7 == 1) = false := by rw [hm]; simpa using q1
  by_cases h5 : m = 5
  · subst h5
    have f5 : (a.kind % 7 == 5) = true := by rw [hm]; rfl
    have HR := Lib.hid (show nilE a = 1 by unfold nilE isGrow; rw [hT]; simp [])
    clear hm hT
    unfold actV
    go_enter Try.func15, Try.ntmps15
    go_upto_region 1 with fail
    first | with_reducible refine name_wp ?_ | with_reducible refine name_calls ?_
    intro W hWeq
    have g0 : W.heap[w.heap.size]? = some (.cells #[.int .u8 a.kind, .string a.k, .string a.s, .string a.n, .int .i64 a.N] 37) := by rw [hWeq]; repeat (first | (with_reducible exact blk_newAt _ _ (by simp)) | with_reducible refine blk_drew ?_ | with_reducible refine blk_dN ?_ _ | with_reducible refine blk_old ?_ _)
    have hw : Below w.heap.size w W := by rw [hWeq]; repeat (first | with_reducible exact Below.refl _ _ | with_reducible refine Below.drew ?_ | with_reducible refine bl_dN ?_ _ | with_reducible refine Below.alloc ?_ (by simp <;> omega) _)
    clear hWeq
    have hz : w.heap.size + 1 ≤ W.heap.size := by have := blk_lt g0; omega
    have c0_0 : W.cell? ⟨w.heap.size, 0, none⟩ = some (.int .u8 a.kind) := blk_cell g0 0
    have c0_1 : W.cell? ⟨w.heap.size, 1, none⟩ = some (.string a.k) := blk_cell g0 1
    have c0_2 : W.cell? ⟨w.heap.size, 2, none⟩ = some (.string a.s) := blk_cell g0 2
    have c0_3 : W.cell? ⟨w.heap.size, 3, none⟩ = some (.string a.n) := blk_cell g0 3
    have c0_4 : W.cell? ⟨w.heap.size, 4, none⟩ = some (.int .i64 a.N) := blk_cell g0 4
    have f0 : ∀ j, W.frozen? ⟨w.heap.size, j, none⟩ = false := blk_free g0
    have hB : Below W.heap.size W W := Below.refl _ _
    have G0 := Lib.hid g0; clear g0
    have F0 := Lib.hid f0; clear f0
    have Hw := Lib.hid hw; clear hw
    go_wp2_with (go_at_call 55; refine (fdrop_nil _ _).mono ?_; rintro e w' ⟨rfl, hb⟩)
    go_ret
    rw [HR.out]
    exact ⟨rfl, bl_from Hw.out hb⟩
  have f5 : (a.kind % 7 == 5) = false := by rw [hm]; simpa using h5
  by_cases h6 : m = 6
  · subst h6
    have f6 : (a.kind % 7 == 6) = true := by rw [hm]; rfl
    have HR := Lib.hid (show nilE a = 1 by unfold nilE isGrow; rw [hT]; simp [])
    clear hm hT
    unfold actV
    go_enter Try.func15, Try.ntmps15
    go_upto_region 1 with fail
    first | with_reducible refine name_wp ?_ | with_reducible refine name_calls ?_
    intro W hWeq
    have g0 : W.heap[w.heap.size]? = some (.cells #[.int .u8 a.kind, .string a.k, .string a.s, .string a.n, .int .i64 a.N] 37) := by rw [hWeq]; repeat (first | (with_reducible exact blk_newAt _ _ (by simp)) | with_reducible refine blk_drew ?_ | with_reducible refine blk_dN ?_ _ | with_reducible refine blk_old ?_ _)
    have hw : Below w.heap.size w W := by rw [hWeq]; repeat (first | with_reducible exact Below.refl _ _ | with_reducible refine Below.drew ?_ | with_reducible refine bl_dN ?_ _ | with_reducible refine Below.alloc ?_ (by simp <;> omega) _)
    clear hWeq
    have hz : w.heap.size + 1 ≤ W.heap.size := by have := blk_lt g0; omega
    have c0_0 : W.cell? ⟨w.heap.size, 0, none⟩ = some (.int .u8 a.kind) := blk_cell g0 0
    have c0_1 : W.cell? ⟨w.heap.size, 1, none⟩ = some (.string a.k) := blk_cell g0 1
    have c0_2 : W.cell? ⟨w.heap.size, 2, none⟩ = some (.string a.s) := blk_cell g0 2
    have c0_3 : W.cell? ⟨w.heap.size, 3, none⟩ = some (.string a.n) := blk_cell g0 3
    have c0_4 : W.cell? ⟨w.heap.size, 4, none⟩ = some (.int .i64 a.N) := blk_cell g0 4
    have f0 : ∀ j, W.frozen? ⟨w.heap.size, j, none⟩ = false := blk_free g0
    have hB : Below W.heap.size W W := Below.refl _ _
    have G0 := Lib.hid g0; clear g0
    have F0 := Lib.hid f0; clear f0
    have Hw := Lib.hid hw; clear hw
    go_wp2_with (go_at_call 25; refine (fcover_nil _ _).mono ?_; rintro e w' ⟨rfl, hb⟩)
    go_ret
    rw [HR.out]
    exact ⟨rfl, bl_from Hw.out hb⟩
  have f6 : (a.kind % 7 == 6) = false := by rw [hm]; simpa using h6
  have HR := Lib.hid (show nilE a = 1 by unfold nilE isGrow; rw [hT]; simp [q0, q1, h5, h6])
  clear hm hT
  unfold actV
  go_enter Try.func15, Try.ntmps15
  go_upto_region 1 with fail
  first | with_reducible refine name_wp ?_ | with_reducible refine name_calls ?_
  intro W hWeq
  have g0 : W.heap[w.heap.size]? = some (.cells #[.int .u8 a.kind, .string a.k, .string a.s, .string a.n, .int .i64 a.N] 37) := by rw [hWeq]; repeat (first | (with_reducible exact blk_newAt _ _ (by simp)) | with_reducible refine blk_drew ?_ | with_reducible refine blk_dN ?_ _ | with_reducible refine blk_old ?_ _)
  have hw : Below w.heap.size w W := by rw [hWeq]; repeat (first | with_reducible exact Below.refl _ _ | with_reducible refine Below.drew ?_ | with_reducible refine bl_dN ?_ _ | with_reducible refine Below.alloc ?_ (by simp <;> omega) _)
  clear hWeq
  have hz : w.heap.size + 1 ≤ W.heap.size := by have := blk_lt g0; omega
  have c0_0 : W.cell? ⟨w.heap.size, 0, none⟩ = some (.int .u8 a.kind) := blk_cell g0 0
  have c0_1 : W.cell? ⟨w.heap.size, 1, none⟩ = some (.string a.k) := blk_cell g0 1
  have c0_2 : W.cell? ⟨w.heap.size, 2, none⟩ = some (.string a.s) := blk_cell g0 2
  have c0_3 : W.cell? ⟨w.heap.size, 3, none⟩ = some (.string a.n) := blk_cell g0 3
  have c0_4 : W.cell? ⟨w.heap.size, 4, none⟩ = some (.int .i64 a.N) := blk_cell g0 4
  have f0 : ∀ j, W.frozen? ⟨w.heap.size, j, none⟩ = false := blk_free g0
  have hB : Below W.heap.size W W := Below.refl _ _
  have G0 := Lib.hid g0; clear g0
  have F0 := Lib.hid f0; clear f0
  have Hw := Lib.hid hw; clear hw
  go_wp2_with (go_at_call 54; refine (ftell_nil _ _).mono ?_; rintro e w' ⟨rfl, hb⟩)
  go_ret
  rw [HR.out]
  exact ⟨rfl, bl_from Hw.out hb⟩
end Go.Proofs.Ytdcceaafiammfaa
