import Derived.Test.YtdcceaafiammfaaProg
import Derived.Test.YtdcceaafiammfaaWida
import Derived.Laws.ShiftsVarLaws
namespace Go.Proofs.Ytdcceaafiammfaa
open Go.RowKit
set_option linter.unusedSimpArgs false
set_option linter.unusedVariables false
theorem i64w_eq (n : Int) : IntKind.i64.wrap n = wrap64 n := by simp [IntKind.wrap, IntKind.signed, IntKind.bits, wrap64]; split <;> omega
theorem or_add {x y : Int} {i : Nat} (hi : i ≤ 64) (hx : 0 ≤ x) (hxi : x < 2 ^ i) (hy : 0 ≤ y) (hy2 : y < 18446744073709551616) (hd : y % 2 ^ i = 0) : bits .or .u64 x y = x + y ∧ bits .or .u64 y x = x + y := by
  have hp : (2 : Int) ^ i ≤ 2 ^ 64 := by exact_mod_cast Nat.pow_le_pow_right (n := 2) (by decide) hi
  have hx2 : x < 18446744073709551616 := by omega
  obtain ⟨X, rfl⟩ := Int.eq_ofNat_of_zero_le hx
  obtain ⟨Y, rfl⟩ := Int.eq_ofNat_of_zero_le hy
  have a : X < 2 ^ i := by exact_mod_cast hxi
  have b : Y % 2 ^ i = 0 := by exact_mod_cast hd
  rw [u64_or _ _ (by omega) (by omega) (by omega) (by omega), u64_or _ _ (by omega) (by omega) (by omega) (by omega), Int.toNat_natCast, Int.toNat_natCast, Nat.or_comm X Y, nat_join i Y X b a]
  constructor <;> simp <;> omega
theorem ediv2 {a b c : Int} (h : 0 ≤ b) : a / b / c = a / (b * c) := Int.ediv_ediv_of_nonneg h
theorem emod_mul1 (a b m : Int) : (a % m * b) % m = (a * b) % m := by rw [Int.mul_emod (a % m), Int.emod_emod_of_dvd _ (Int.dvd_refl m), ← Int.mul_emod]
theorem pw_pos (n : Nat) : (0 : Int) < 2 ^ n := Int.pow_pos (by decide)
theorem pw_mul {n m : Nat} (h : n + m = 64) : (2 : Int) ^ n * 2 ^ m = 18446744073709551616 := by rw [← Int.pow_add, h]; decide
theorem back_hi {h l : Int} {n : Nat} (k : WOk h l) (c : 64 ≤ n) : h / 9223372036854775808 = whi (wval h l / 2 ^ n) ∧ IntKind.u64.wrap (h / 2 ^ (n - 64)) = wlo (wval h l / 2 ^ n) := by
  obtain ⟨a, b, c', d⟩ := k
  obtain ⟨m, rfl⟩ : ∃ m, n = 64 + m := ⟨n - 64, by omega⟩
  have e : wval h l / 2 ^ (64 + m) = h / 2 ^ m := by
    rw [Int.pow_add, ← ediv2 (by exact Int.le_of_lt (pw_pos _))]
    congr 1
    unfold wval
    have : (2 : Int) ^ 64 = 18446744073709551616 := by decide
    rw [this]; omega
  rw [e, show 64 + m - 64 = m by omega, u64_wrap]
  refine ⟨?_, rfl⟩
  have hp := pw_pos m
  unfold whi
  have h1 : 0 ≤ h → 0 ≤ h / 2 ^ m ∧ h / 2 ^ m ≤ h := fun q => ⟨Int.ediv_nonneg q (Int.le_of_lt hp), Int.ediv_le_self _ q⟩
  have h2 : h < 0 → h / 2 ^ m < 0 ∧ h ≤ h / 2 ^ m := fun q => ⟨Int.ediv_neg_of_neg_of_pos q hp, by
    rw [Int.le_ediv_iff_mul_le hp]
    have : h * 2 ^ m ≤ h * 1 := Int.mul_le_mul_of_nonpos_left (by omega) (by omega)
    omega⟩
  omega
theorem mul_emod_pw {h P R : Int} (hR : 0 < R) : (h * R) % (P * R) = (h % P) * R := by rw [Int.mul_comm h, Int.mul_comm P, Int.mul_emod_mul_of_pos _ _ hR, Int.mul_comm]
theorem back_lo {h l : Int} {n : Nat} (k : WOk h l) (c : ¬ 64 ≤ n) : h / 2 ^ n = whi (wval h l / 2 ^ n) ∧ bits .or .u64 (l / 2 ^ n) (IntKind.u64.wrap (IntKind.u64.wrap h * 2 ^ (64 - n))) = wlo (wval h l / 2 ^ n) := by
  obtain ⟨a, b, c', d⟩ := k
  obtain ⟨m, hm⟩ : ∃ m, n + m = 64 := ⟨64 - n, by omega⟩
  rw [show 64 - n = m by omega]
  have hP := pw_pos n; have hR := pw_pos m; have hPR := pw_mul hm
  have hPle : (2 : Int) ^ m ≤ 18446744073709551616 := by rw [← hPR]; have := Int.mul_le_mul_of_nonneg_right (show 1 ≤ _ from hP) (Int.le_of_lt hR); omega
  have ew : IntKind.u64.wrap (IntKind.u64.wrap h * 2 ^ m) = (h % 2 ^ n) * 2 ^ m := by
    rw [u64_wrap, u64_wrap, emod_mul1, ← hPR]; exact mul_emod_pw hR
  have hq0 := Int.emod_nonneg h (Int.ne_of_gt hP); have hq1 := Int.emod_lt_of_pos h hP
  have l0 : 0 ≤ l / 2 ^ n := Int.ediv_nonneg c' (Int.le_of_lt hP)
  have l1 : l / 2 ^ n < 2 ^ m := by rw [Int.ediv_lt_iff_lt_mul hP, Int.mul_comm, hPR]; omega
  have ey : (h % 2 ^ n) * 2 ^ m ≤ 18446744073709551616 - 2 ^ m := by
    have : (h % 2 ^ n) * 2 ^ m ≤ (2 ^ n - 1) * 2 ^ m := Int.mul_le_mul_of_nonneg_right (by omega) (Int.le_of_lt hR)
    rw [Int.sub_mul, hPR] at this; omega
  have e : wval h l / 2 ^ n = h * 2 ^ m + l / 2 ^ n := by
    unfold wval
    rw [← hPR, show h * (2 ^ n * 2 ^ m) + l = l + (h * 2 ^ m) * 2 ^ n by rw [Int.mul_comm (2 ^ n), Int.mul_assoc]; omega, Int.add_mul_ediv_right _ _ (Int.ne_of_gt hP)]; omega
  rw [ew, (or_add (i := m) (by omega) l0 l1 (Int.mul_nonneg hq0 (Int.le_of_lt hR)) (by omega) (Int.mul_emod_left _ _)).1, e]
  unfold whi wlo
  constructor
  · rw [← hPR, Int.mul_comm (2 ^ n), ← ediv2 (Int.le_of_lt hR), show h * 2 ^ m + l / 2 ^ n = l / 2 ^ n + h * 2 ^ m by omega, Int.add_mul_ediv_right _ _ (Int.ne_of_gt hR), Int.ediv_eq_zero_of_lt l0 l1, Int.zero_add]
  · have h4 : (h * 2 ^ m) % 18446744073709551616 = (h % 2 ^ n) * 2 ^ m := by rw [← hPR]; exact mul_emod_pw hR
    have h5 := Int.mul_nonneg hq0 (Int.le_of_lt hR)
    omega
theorem shift_lo {h l : Int} {n : Nat} (k : WOk h l) (c : ¬ 64 ≤ n) : wrap64 (bits .or .u64 (IntKind.u64.wrap (IntKind.u64.wrap h * 2 ^ n)) (l / 2 ^ (64 - n))) = wrap64 (whi (wval h l * 2 ^ n)) ∧ IntKind.u64.wrap (l * 2 ^ n) = wlo (wval h l * 2 ^ n) := by
  obtain ⟨a, b, c', d⟩ := k
  obtain ⟨m, hm⟩ : ∃ m, m + n = 64 := ⟨64 - n, by omega⟩
  rw [show 64 - n = m by omega]
  have hP := pw_pos m; have hR := pw_pos n; have hPR := pw_mul hm
  have hPle : (2 : Int) ^ n ≤ 18446744073709551616 := by rw [← hPR]; have := Int.mul_le_mul_of_nonneg_right (show 1 ≤ _ from hP) (Int.le_of_lt hR); omega
  have ew : IntKind.u64.wrap (IntKind.u64.wrap h * 2 ^ n) = (h % 2 ^ m) * 2 ^ n := by
    rw [u64_wrap, u64_wrap, emod_mul1, ← hPR]; exact mul_emod_pw hR
  have ew2 : (h * 2 ^ n) % 18446744073709551616 = (h % 2 ^ m) * 2 ^ n := by rw [← hPR]; exact mul_emod_pw hR
  have hq0 := Int.emod_nonneg h (Int.ne_of_gt hP); have hq1 := Int.emod_lt_of_pos h hP
  have l0 : 0 ≤ l / 2 ^ m := Int.ediv_nonneg c' (Int.le_of_lt hP)
  have l1 : l / 2 ^ m < 2 ^ n := by rw [Int.ediv_lt_iff_lt_mul hP, Int.mul_comm, hPR]; omega
  have ey : (h % 2 ^ m) * 2 ^ n ≤ 18446744073709551616 - 2 ^ n := by
    have : (h % 2 ^ m) * 2 ^ n ≤ (2 ^ m - 1) * 2 ^ n := Int.mul_le_mul_of_nonneg_right (by omega) (Int.le_of_lt hR)
    rw [Int.sub_mul, hPR] at this; omega
  have e : wval h l * 2 ^ n = l * 2 ^ n + h * 2 ^ n * 18446744073709551616 := by unfold wval; rw [Int.add_mul, Int.mul_right_comm]; omega
  have e2 : whi (wval h l * 2 ^ n) = l / 2 ^ m + h * 2 ^ n := by
    unfold whi; rw [e, Int.add_mul_ediv_right _ _ (by decide), ← hPR, Int.mul_ediv_mul_of_pos_left _ _ hR]
  rw [ew, (or_add (i := n) (by omega) l0 l1 (Int.mul_nonneg hq0 (Int.le_of_lt hR)) (by omega) (Int.mul_emod_left _ _)).2, e2, ← ew2]
  refine ⟨?_, ?_⟩
  · rw [wrap64_eq, wrap64_eq]; omega
  · rw [u64_wrap]; unfold wlo; rw [e, Int.add_mul_emod_self_right]
theorem shift_hi {h l : Int} {n : Nat} (k : WOk h l) (c : 64 ≤ n) : wrap64 (IntKind.u64.wrap (l * 2 ^ (n - 64))) = wrap64 (whi (wval h l * 2 ^ n)) ∧ 0 = wlo (wval h l * 2 ^ n) := by
  obtain ⟨m, rfl⟩ : ∃ m, n = 64 + m := ⟨n - 64, by omega⟩
  have e : wval h l * 2 ^ (64 + m) = (l * 2 ^ m + h * 2 ^ m * 18446744073709551616) * 18446744073709551616 := by
    have : (2 : Int) ^ 64 = 18446744073709551616 := by decide
    unfold wval; rw [Int.pow_add, this, Int.add_mul, ← Int.mul_assoc, ← Int.mul_assoc, Int.mul_right_comm (h * 18446744073709551616), Int.mul_right_comm h, Int.mul_right_comm l]
    omega
  rw [show 64 + m - 64 = m by omega, e]
  unfold whi wlo
  rw [Int.mul_ediv_cancel _ (by decide), Int.mul_emod_left, u64_wrap, wrap64_eq, wrap64_eq]
  omega
theorem shift_yes {h l : Int} {n : Nat} (k : WOk h l) (y : wIn (wval h l * 2 ^ n) = true) : wrap64 (whi (wval h l * 2 ^ n)) = whi (wval h l * 2 ^ n) ∧ wideV (wval (whi (wval h l * 2 ^ n)) (wlo (wval h l * 2 ^ n)) / 2 ^ n) = .agg #[.int .i64 h, .int .u64 l] := by
  have := WOk.of_in y
  refine ⟨?_, ?_⟩
  · rw [wrap64_eq]; have a := this.h1; have b := this.h2; omega
  · rw [wval_of, Int.mul_ediv_cancel _ (Int.ne_of_gt (pw_pos n)), wideV, whi_val k, wlo_val k]
theorem shift_no {h l : Int} {n : Nat} (k : WOk h l) (hn : n < 128) (y : wIn (wval h l * 2 ^ n) = false) : ¬ (whi (wval (wrap64 (whi (wval h l * 2 ^ n))) (wlo (wval h l * 2 ^ n)) / 2 ^ n) = h ∧ wlo (wval (wrap64 (whi (wval h l * 2 ^ n))) (wlo (wval h l * 2 ^ n)) / 2 ^ n) = l) := by
  rintro ⟨e1, e2⟩
  have e3 := wval_of (wval (wrap64 (whi (wval h l * 2 ^ n))) (wlo (wval h l * 2 ^ n)) / 2 ^ n)
  rw [e1, e2] at e3
  obtain ⟨m, hm⟩ : ∃ m, m + n = 128 := ⟨128 - n, by omega⟩
  obtain ⟨q, hq⟩ : ∃ q, wrap64 (whi (wval h l * 2 ^ n)) = whi (wval h l * 2 ^ n) + q * 18446744073709551616 := ⟨-((whi (wval h l * 2 ^ n) + 9223372036854775808) / 18446744073709551616), by rw [wrap64_eq]; omega⟩
  have hq0 : q ≠ 0 := by
    rintro rfl
    rw [wrap64_eq] at hq
    simp only [wIn, Bool.and_eq_false_iff, decide_eq_false_iff_not] at y
    omega
  have e4 : wval (wrap64 (whi (wval h l * 2 ^ n))) (wlo (wval h l * 2 ^ n)) = wval h l * 2 ^ n + q * 2 ^ m * 2 ^ n := by
    have : (2 : Int) ^ m * 2 ^ n = 340282366920938463463374607431768211456 := by rw [← Int.pow_add, hm]; decide
    rw [Int.mul_assoc, this, hq]
    have := wval_of (wval h l * 2 ^ n)
    unfold wval at this ⊢
    omega
  rw [e4, ← Int.add_mul, Int.mul_ediv_cancel _ (Int.ne_of_gt (pw_pos n))] at e3
  have hp := pw_pos m
  have : q * 2 ^ m = 0 := by omega
  rcases Int.mul_eq_zero.1 this with h | h
  · exact hq0 h
  · omega

theorem wback_calls (h l : Int) (n : Nat) (w : World) (k : WOk h l) (hn : n < 128) :
    Calls Try.prog 73 #[.agg #[.int .i64 h, .int .u64 l], .int .i64 (n : Int)] w fun e w' => e = .returned (wideV (wval h l / 2 ^ n)) ∧ Below w.heap.size w w' := by
  by_cases c : 64 ≤ n
  · have c1 : decide ((n : Int) ≥ 64) = true := by simp; omega
    have e1 : IntKind.i64.wrap ((n : Int) - 64) = (n : Int) - 64 := by rw [i64w_eq]; rw [wrap64_eq]; omega
    obtain ⟨x1, x2⟩ := back_hi k c
    have X1 := Lib.hid x1; have X2 := Lib.hid x2; clear x1 x2
    have K := Lib.hid k; clear k
    go_enter Try.func73, Try.ntmps73
    go_wp2_with fail
    go_region
    go_wp2
    have hw0 := Below.refl w.heap.size w
    refine bodyPost_ret (v := .agg #[.int .i64 (h / 9223372036854775808), .int .u64 (IntKind.u64.wrap (h / 2 ^ (n - 64)))]) (by simp [results, Try.results73, go_sem]) rfl ⟨?_, by (repeat (first | exact Below.refl _ _ | exact hw0 | refine Below.setCell ?_ (by first | (simp; done) | (simp; omega)) _ | refine Below.alloc ?_ (by first | (simp; done) | (simp; omega)) _ | refine bl_dN ?_ _ | refine Below.drew ?_))⟩
    rw [X1.out, X2.out]; rfl
  · have c1 : decide ((n : Int) ≥ 64) = false := by simp; omega
    have e1 : IntKind.i64.wrap (64 - (n : Int)) = 64 - (n : Int) := by rw [i64w_eq]; rw [wrap64_eq]; omega
    obtain ⟨x1, x2⟩ := back_lo k c
    have X1 := Lib.hid x1; have X2 := Lib.hid x2; clear x1 x2
    have K := Lib.hid k; clear k
    go_enter Try.func73, Try.ntmps73
    go_wp2_with fail
    go_region
    go_wp2
    have hw0 := Below.refl w.heap.size w
    refine bodyPost_ret (v := .agg #[.int .i64 (h / 2 ^ n), .int .u64 (bits .or .u64 (l / 2 ^ n) (IntKind.u64.wrap (IntKind.u64.wrap h * 2 ^ (64 - n))))]) (by simp [results, Try.results73, go_sem]) rfl ⟨?_, by (repeat (first | exact Below.refl _ _ | exact hw0 | refine Below.setCell ?_ (by first | (simp; done) | (simp; omega)) _ | refine Below.alloc ?_ (by first | (simp; done) | (simp; omega)) _ | refine bl_dN ?_ _ | refine Below.drew ?_))⟩
    rw [X1.out, X2.out]; rfl
def shiftRes (v n : Int) : Value := if 0 ≤ n ∧ n < 128 then wideRes (v * 2 ^ n.toNat) else .tuple #[.agg #[.int .i64 0, .int .u64 0], .bool false]
theorem wshift_neg (h l n : Int) (w : World) (c0 : n < 0) :
    Calls Try.prog 44 #[.agg #[.int .i64 h, .int .u64 l], .int .i64 n] w fun e w' => e = .returned (.tuple #[.agg #[.int .i64 0, .int .u64 0], .bool false]) ∧ Below w.heap.size w w' := by
  have c1 : decide (n < 0) = true := by simpa using c0
  go_enter Try.func44, Try.ntmps44
  go_wp2
  have hw0 := Below.refl w.heap.size w
  refine bodyPost_ret (v := .tuple #[.agg #[.int .i64 0, .int .u64 0], .bool false]) (by simp [results, Try.results44, go_sem]) rfl ⟨rfl, by (repeat (first | exact Below.refl _ _ | exact hw0 | refine Below.setCell ?_ (by first | (simp; done) | (simp; omega)) _ | refine Below.alloc ?_ (by first | (simp; done) | (simp; omega)) _ | refine bl_dN ?_ _ | refine Below.drew ?_))⟩
theorem wshift_big (h l n : Int) (w : World) (c0 : ¬ n < 0) (c2 : 128 ≤ n) :
    Calls Try.prog 44 #[.agg #[.int .i64 h, .int .u64 l], .int .i64 n] w fun e w' => e = .returned (.tuple #[.agg #[.int .i64 0, .int .u64 0], .bool false]) ∧ Below w.heap.size w w' := by
  have c1 : decide (n < 0) = false := by simpa using c0
  have c3 : decide (n ≥ 128) = true := by simp; omega
  go_enter Try.func44, Try.ntmps44
  go_wp2
  have hw0 := Below.refl w.heap.size w
  refine bodyPost_ret (v := .tuple #[.agg #[.int .i64 0, .int .u64 0], .bool false]) (by simp [results, Try.results44, go_sem]) rfl ⟨rfl, by (repeat (first | exact Below.refl _ _ | exact hw0 | refine Below.setCell ?_ (by first | (simp; done) | (simp; omega)) _ | refine Below.alloc ?_ (by first | (simp; done) | (simp; omega)) _ | refine bl_dN ?_ _ | refine Below.drew ?_))⟩
theorem wshift_hi_yes (h l : Int) (m : Nat) (w : World) (c : 64 ≤ m) (c2 : m < 128) (H : Int) (x1 : wrap64 (IntKind.u64.wrap (l * 2 ^ (m - 64))) = H) (kk : WOk H 0) (y2 : wideV (wval H 0 / 2 ^ m) = .agg #[.int .i64 h, .int .u64 l]) :
    Calls Try.prog 44 #[.agg #[.int .i64 h, .int .u64 l], .int .i64 (m : Int)] w fun e w' => e = .returned (.tuple #[.agg #[.int .i64 H, .int .u64 0], .bool true]) ∧ Below w.heap.size w w' := by
  have c1 : decide ((m : Int) < 0) = false := by simp
  have c3 : decide ((m : Int) ≥ 128) = false := by simp; omega
  have c4 : decide ((m : Int) < 64) = false := by simp; omega
  have e1 : IntKind.i64.wrap ((m : Int) - 64) = (m : Int) - 64 := by rw [i64w_eq]; rw [wrap64_eq]; omega
  have X1 := Lib.hid x1; clear x1
  have KK := Lib.hid kk; have Y2 := Lib.hid y2; clear kk y2
  go_enter Try.func44, Try.ntmps44
  go_wp2_with fail
  rw [X1.out]
  first | with_reducible refine name_wp ?_ | with_reducible refine name_calls ?_
  intro W hWeq
  have g0 : W.heap[w.heap.size]? = some (.cells #[.int .i64 h, .int .u64 l] 57) := by rw [hWeq]; repeat (first | (with_reducible exact blk_newAt _ _ (by simp)) | with_reducible refine blk_drew ?_ | with_reducible refine blk_dN ?_ _ | with_reducible refine blk_old ?_ _)
  have g1 : W.heap[w.heap.size + 1]? = some (.cells #[.int .i64 0, .int .u64 0] 57) := by rw [hWeq]; repeat (first | (with_reducible exact blk_newAt _ _ (by simp)) | with_reducible refine blk_drew ?_ | with_reducible refine blk_dN ?_ _ | with_reducible refine blk_old ?_ _)
  have g2 : W.heap[w.heap.size + 2]? = some (.cells #[.int .i64 H, .int .u64 0] 57) := by rw [hWeq]; repeat (first | (with_reducible exact blk_newAt _ _ (by simp)) | with_reducible refine blk_drew ?_ | with_reducible refine blk_dN ?_ _ | with_reducible refine blk_old ?_ _)
  have hw : Below w.heap.size w W := by rw [hWeq]; repeat (first | with_reducible exact Below.refl _ _ | with_reducible refine Below.drew ?_ | with_reducible refine bl_dN ?_ _ | with_reducible refine Below.alloc ?_ (by simp <;> omega) _)
  clear hWeq
  have hz : w.heap.size + 3 ≤ W.heap.size := by have := blk_lt g2; omega
  have c0_0 : W.cell? ⟨w.heap.size, 0, none⟩ = some (.int .i64 h) := blk_cell g0 0
  have c0_1 : W.cell? ⟨w.heap.size, 1, none⟩ = some (.int .u64 l) := blk_cell g0 1
  have f0 : ∀ j, W.frozen? ⟨w.heap.size, j, none⟩ = false := blk_free g0
  have c1_0 : W.cell? ⟨w.heap.size + 1, 0, none⟩ = some (.int .i64 0) := blk_cell g1 0
  have c1_1 : W.cell? ⟨w.heap.size + 1, 1, none⟩ = some (.int .u64 0) := blk_cell g1 1
  have f1 : ∀ j, W.frozen? ⟨w.heap.size + 1, j, none⟩ = false := blk_free g1
  have c2_0 : W.cell? ⟨w.heap.size + 2, 0, none⟩ = some (.int .i64 H) := blk_cell g2 0
  have c2_1 : W.cell? ⟨w.heap.size + 2, 1, none⟩ = some (.int .u64 0) := blk_cell g2 1
  have f2 : ∀ j, W.frozen? ⟨w.heap.size + 2, j, none⟩ = false := blk_free g2
  have hB : Below W.heap.size W W := Below.refl _ _
  have G0 := Lib.hid g0; clear g0
  have F0 := Lib.hid f0; clear f0
  have G1 := Lib.hid g1; clear g1
  have F1 := Lib.hid f1; clear f1
  have G2 := Lib.hid g2; clear g2
  have F2 := Lib.hid f2; clear f2
  have Hw := Lib.hid hw; clear hw
  have hB := hB.drew
  refine region_seq (fun w' => Below W.heap.size W w') [(0, true), (1, true), (3, true), (2, false), (4, true)] (by kernel_rfl) (by kernel_rfl) (fun _ _ _ _ h => h) hB ?_
  try generalize World.drew _ = wS at hB ⊢
  refine seq_take (v := ?_) (a' := ?_) (some 40) rfl rfl (by rfl) ?_ ?_ ?_
  rotate_left; rotate_left
  · intro w' hS; have s0_0 := cb hS c0_0; have s0_1 := cb hS c0_1; have s1_0 := cb hS c1_0; have s1_1 := cb hS c1_1; have s2_0 := cb hS c2_0; have s2_1 := cb hS c2_1; go_simp; with_reducible rfl
  · simp only [Act.put, List.setIfInBounds_toArray, List.set_cons_zero, List.set_cons_succ]; rfl
  refine seq_take (v := ?_) (a' := ?_) (some 41) rfl rfl (by rfl) ?_ ?_ ?_
  rotate_left; rotate_left
  · intro w' hS; go_simp; with_reducible rfl
  · simp only [Act.put, List.setIfInBounds_toArray, List.set_cons_zero, List.set_cons_succ]; rfl
  refine seq_take (v := ?_) (a' := ?_) (some 43) rfl rfl (by rfl) ?_ ?_ ?_
  rotate_left; rotate_left
  · intro w' hS; have s0_0 := cb hS c0_0; have s0_1 := cb hS c0_1; have s1_0 := cb hS c1_0; have s1_1 := cb hS c1_1; have s2_0 := cb hS c2_0; have s2_1 := cb hS c2_1; go_simp; with_reducible rfl
  · simp only [Act.put, List.setIfInBounds_toArray, List.set_cons_zero, List.set_cons_succ]; rfl
  refine seq_call (args := ?_) Try.func73 (by kernel_rfl) rfl (some 42) rfl rfl (by rfl) rfl ?_ ?_
  rotate_left
  · simp only [List.map_toArray, List.map_cons, List.map_nil]; go_simp; rfl
  with_reducible refine (wback_calls _ _ _ _ KK.out c2).mono ?_
  rintro e w' ⟨rfl, hb⟩
  rw [Y2.out]
  refine ⟨_, rfl, bl_next (by repeat (first | with_reducible exact hB | refine Below.alloc ?_ (by have := hB.size; simp; omega) _ | refine bl_dN ?_ _ | refine Below.drew ?_ | refine Below.setCell ?_ (by have := hB.size; simp; omega) _)) hb, ?_⟩
  have hB := bl_next (by repeat (first | with_reducible exact hB | refine Below.alloc ?_ (by have := hB.size; simp; omega) _ | refine bl_dN ?_ _ | refine Below.drew ?_ | refine Below.setCell ?_ (by have := hB.size; simp; omega) _)) hb; clear hb
  simp only [Act.put, List.setIfInBounds_toArray, List.set_cons_zero, List.set_cons_succ]
  refine seq_take (v := ?_) (a' := ?_) (some 44) rfl rfl (by rfl) ?_ ?_ ?_
  rotate_left; rotate_left
  · intro w' hS; go_simp; with_reducible rfl
  · simp only [Act.put, List.setIfInBounds_toArray, List.set_cons_zero, List.set_cons_succ]; rfl
  refine seq_done ?_
  have k0_0 := cb hB c0_0
  have k0_1 := cb hB c0_1
  have k1_0 := cb hB c1_0
  have k1_1 := cb hB c1_1
  have k2_0 := cb hB c2_0
  have k2_1 := cb hB c2_1
  have kz0 : w.heap.size < _ := lt_of_cell k0_0
  have kz1 : w.heap.size + 1 < _ := lt_of_cell k1_0
  have kz2 : w.heap.size + 2 < _ := lt_of_cell k2_0
  have kf0_0 := fb hB (lt_of_cell c0_0) (F0.out 0)
  have kf0_1 := fb hB (lt_of_cell c0_1) (F0.out 1)
  have kf1_0 := fb hB (lt_of_cell c1_0) (F1.out 0)
  have kf1_1 := fb hB (lt_of_cell c1_1) (F1.out 1)
  have kf2_0 := fb hB (lt_of_cell c2_0) (F2.out 0)
  have kf2_1 := fb hB (lt_of_cell c2_1) (F2.out 1)
  go_wp2
  have hw0 := bl_from Hw.out hB
  refine bodyPost_ret (v := .tuple #[.agg #[.int .i64 H, .int .u64 0], .bool true]) (by simp [results, Try.results44, go_sem, k1_0, k1_1]) rfl ⟨rfl, by (repeat (first | exact Below.refl _ _ | exact hw0 | refine Below.setCell ?_ (by first | (simp; done) | (simp; omega)) _ | refine Below.alloc ?_ (by first | (simp; done) | (simp; omega)) _ | refine bl_dN ?_ _ | refine Below.drew ?_))⟩
theorem wshift_hi_no (h l : Int) (m : Nat) (w : World) (c : 64 ≤ m) (c2 : m < 128) (H : Int) (x1 : wrap64 (IntKind.u64.wrap (l * 2 ^ (m - 64))) = H) (V : Int)
    (bk : ∀ w, Calls Try.prog 73 #[.agg #[.int .i64 H, .int .u64 0], .int .i64 (m : Int)] w fun e w' => e = .returned (wideV V) ∧ Below w.heap.size w w') (n1 : ¬ (whi V = h ∧ wlo V = l)) :
    Calls Try.prog 44 #[.agg #[.int .i64 h, .int .u64 l], .int .i64 (m : Int)] w fun e w' => e = .returned (.tuple #[.agg #[.int .i64 0, .int .u64 0], .bool false]) ∧ Below w.heap.size w w' := by
  have c1 : decide ((m : Int) < 0) = false := by simp
  have c3 : decide ((m : Int) ≥ 128) = false := by simp; omega
  have c4 : decide ((m : Int) < 64) = false := by simp; omega
  have e1 : IntKind.i64.wrap ((m : Int) - 64) = (m : Int) - 64 := by rw [i64w_eq]; rw [wrap64_eq]; omega
  have X1 := Lib.hid x1; clear x1
  go_enter Try.func44, Try.ntmps44
  go_wp2_with fail
  rw [X1.out]
  first | with_reducible refine name_wp ?_ | with_reducible refine name_calls ?_
  intro W hWeq
  have g0 : W.heap[w.heap.size]? = some (.cells #[.int .i64 h, .int .u64 l] 57) := by rw [hWeq]; repeat (first | (with_reducible exact blk_newAt _ _ (by simp)) | with_reducible refine blk_drew ?_ | with_reducible refine blk_dN ?_ _ | with_reducible refine blk_old ?_ _)
  have g1 : W.heap[w.heap.size + 1]? = some (.cells #[.int .i64 0, .int .u64 0] 57) := by rw [hWeq]; repeat (first | (with_reducible exact blk_newAt _ _ (by simp)) | with_reducible refine blk_drew ?_ | with_reducible refine blk_dN ?_ _ | with_reducible refine blk_old ?_ _)
  have g2 : W.heap[w.heap.size + 2]? = some (.cells #[.int .i64 H, .int .u64 0] 57) := by rw [hWeq]; repeat (first | (with_reducible exact blk_newAt _ _ (by simp)) | with_reducible refine blk_drew ?_ | with_reducible refine blk_dN ?_ _ | with_reducible refine blk_old ?_ _)
  have hw : Below w.heap.size w W := by rw [hWeq]; repeat (first | with_reducible exact Below.refl _ _ | with_reducible refine Below.drew ?_ | with_reducible refine bl_dN ?_ _ | with_reducible refine Below.alloc ?_ (by simp <;> omega) _)
  clear hWeq
  have hz : w.heap.size + 3 ≤ W.heap.size := by have := blk_lt g2; omega
  have c0_0 : W.cell? ⟨w.heap.size, 0, none⟩ = some (.int .i64 h) := blk_cell g0 0
  have c0_1 : W.cell? ⟨w.heap.size, 1, none⟩ = some (.int .u64 l) := blk_cell g0 1
  have f0 : ∀ j, W.frozen? ⟨w.heap.size, j, none⟩ = false := blk_free g0
  have c1_0 : W.cell? ⟨w.heap.size + 1, 0, none⟩ = some (.int .i64 0) := blk_cell g1 0
  have c1_1 : W.cell? ⟨w.heap.size + 1, 1, none⟩ = some (.int .u64 0) := blk_cell g1 1
  have f1 : ∀ j, W.frozen? ⟨w.heap.size + 1, j, none⟩ = false := blk_free g1
  have c2_0 : W.cell? ⟨w.heap.size + 2, 0, none⟩ = some (.int .i64 H) := blk_cell g2 0
  have c2_1 : W.cell? ⟨w.heap.size + 2, 1, none⟩ = some (.int .u64 0) := blk_cell g2 1
  have f2 : ∀ j, W.frozen? ⟨w.heap.size + 2, j, none⟩ = false := blk_free g2
  have hB : Below W.heap.size W W := Below.refl _ _
  have G0 := Lib.hid g0; clear g0
  have F0 := Lib.hid f0; clear f0
  have G1 := Lib.hid g1; clear g1
  have F1 := Lib.hid f1; clear f1
  have G2 := Lib.hid g2; clear g2
  have F2 := Lib.hid f2; clear f2
  have Hw := Lib.hid hw; clear hw
  by_cases q1 : whi V = h
  · have q2 : ¬ wlo V = l := fun q => n1 ⟨q1, q⟩
    have Q1 := Lib.hid q1; clear q1 n1
    have hB := hB.drew
    refine region_seq (fun w' => Below W.heap.size W w') [(0, true), (1, true), (3, true), (2, false), (4, true)] (by kernel_rfl) (by kernel_rfl) (fun _ _ _ _ h => h) hB ?_
    try generalize World.drew _ = wS at hB ⊢
    refine seq_take (v := ?_) (a' := ?_) (some 40) rfl rfl (by rfl) ?_ ?_ ?_
    rotate_left; rotate_left
    · intro w' hS; have s0_0 := cb hS c0_0; have s0_1 := cb hS c0_1; have s1_0 := cb hS c1_0; have s1_1 := cb hS c1_1; have s2_0 := cb hS c2_0; have s2_1 := cb hS c2_1; go_simp; with_reducible rfl
    · simp only [Act.put, List.setIfInBounds_toArray, List.set_cons_zero, List.set_cons_succ]; rfl
    refine seq_take (v := ?_) (a' := ?_) (some 41) rfl rfl (by rfl) ?_ ?_ ?_
    rotate_left; rotate_left
    · intro w' hS; go_simp; with_reducible rfl
    · simp only [Act.put, List.setIfInBounds_toArray, List.set_cons_zero, List.set_cons_succ]; rfl
    refine seq_take (v := ?_) (a' := ?_) (some 43) rfl rfl (by rfl) ?_ ?_ ?_
    rotate_left; rotate_left
    · intro w' hS; have s0_0 := cb hS c0_0; have s0_1 := cb hS c0_1; have s1_0 := cb hS c1_0; have s1_1 := cb hS c1_1; have s2_0 := cb hS c2_0; have s2_1 := cb hS c2_1; go_simp; with_reducible rfl
    · simp only [Act.put, List.setIfInBounds_toArray, List.set_cons_zero, List.set_cons_succ]; rfl
    refine seq_call (args := ?_) Try.func73 (by kernel_rfl) rfl (some 42) rfl rfl (by rfl) rfl ?_ ?_
    rotate_left
    · simp only [List.map_toArray, List.map_cons, List.map_nil]; go_simp; rfl
    with_reducible refine (bk _).mono ?_
    rintro e w' ⟨rfl, hb⟩
    unfold wideV
    refine ⟨_, rfl, bl_next (by repeat (first | with_reducible exact hB | refine Below.alloc ?_ (by have := hB.size; simp; omega) _ | refine bl_dN ?_ _ | refine Below.drew ?_ | refine Below.setCell ?_ (by have := hB.size; simp; omega) _)) hb, ?_⟩
    have hB := bl_next (by repeat (first | with_reducible exact hB | refine Below.alloc ?_ (by have := hB.size; simp; omega) _ | refine bl_dN ?_ _ | refine Below.drew ?_ | refine Below.setCell ?_ (by have := hB.size; simp; omega) _)) hb; clear hb
    simp only [Act.put, List.setIfInBounds_toArray, List.set_cons_zero, List.set_cons_succ]
    refine seq_take (v := ?_) (a' := ?_) (some 44) rfl rfl (by rfl) ?_ ?_ ?_
    rotate_left; rotate_left
    · intro w' hS; have q1 := Q1.out; go_simp; with_reducible rfl
    · simp only [Act.put, List.setIfInBounds_toArray, List.set_cons_zero, List.set_cons_succ]; rfl
    refine seq_done ?_
    have k0_0 := cb hB c0_0
    have k0_1 := cb hB c0_1
    have k1_0 := cb hB c1_0
    have k1_1 := cb hB c1_1
    have k2_0 := cb hB c2_0
    have k2_1 := cb hB c2_1
    have kz0 : w.heap.size < _ := lt_of_cell k0_0
    have kz1 : w.heap.size + 1 < _ := lt_of_cell k1_0
    have kz2 : w.heap.size + 2 < _ := lt_of_cell k2_0
    have kf0_0 := fb hB (lt_of_cell c0_0) (F0.out 0)
    have kf0_1 := fb hB (lt_of_cell c0_1) (F0.out 1)
    have kf1_0 := fb hB (lt_of_cell c1_0) (F1.out 0)
    have kf1_1 := fb hB (lt_of_cell c1_1) (F1.out 1)
    have kf2_0 := fb hB (lt_of_cell c2_0) (F2.out 0)
    have kf2_1 := fb hB (lt_of_cell c2_1) (F2.out 1)
    go_wp2
    have hw0 := bl_from Hw.out hB
    refine bodyPost_ret (v := .tuple #[.agg #[.int .i64 0, .int .u64 0], .bool false]) (by simp [results, Try.results44, go_sem, k1_0, k1_1]) rfl ⟨rfl, by (repeat (first | exact Below.refl _ _ | exact hw0 | refine Below.setCell ?_ (by first | (simp; done) | (simp; omega)) _ | refine Below.alloc ?_ (by first | (simp; done) | (simp; omega)) _ | refine bl_dN ?_ _ | refine Below.drew ?_))⟩
  · clear n1
    have hB := hB.drew
    refine region_seq (fun w' => Below W.heap.size W w') [(0, true), (1, true), (3, true), (2, false), (4, true)] (by kernel_rfl) (by kernel_rfl) (fun _ _ _ _ h => h) hB ?_
    try generalize World.drew _ = wS at hB ⊢
    refine seq_take (v := ?_) (a' := ?_) (some 40) rfl rfl (by rfl) ?_ ?_ ?_
    rotate_left; rotate_left
    · intro w' hS; have s0_0 := cb hS c0_0; have s0_1 := cb hS c0_1; have s1_0 := cb hS c1_0; have s1_1 := cb hS c1_1; have s2_0 := cb hS c2_0; have s2_1 := cb hS c2_1; go_simp; with_reducible rfl
    · simp only [Act.put, List.setIfInBounds_toArray, List.set_cons_zero, List.set_cons_succ]; rfl
    refine seq_take (v := ?_) (a' := ?_) (some 41) rfl rfl (by rfl) ?_ ?_ ?_
    rotate_left; rotate_left
    · intro w' hS; go_simp; with_reducible rfl
    · simp only [Act.put, List.setIfInBounds_toArray, List.set_cons_zero, List.set_cons_succ]; rfl
    refine seq_take (v := ?_) (a' := ?_) (some 43) rfl rfl (by rfl) ?_ ?_ ?_
    rotate_left; rotate_left
    · intro w' hS; have s0_0 := cb hS c0_0; have s0_1 := cb hS c0_1; have s1_0 := cb hS c1_0; have s1_1 := cb hS c1_1; have s2_0 := cb hS c2_0; have s2_1 := cb hS c2_1; go_simp; with_reducible rfl
    · simp only [Act.put, List.setIfInBounds_toArray, List.set_cons_zero, List.set_cons_succ]; rfl
    refine seq_call (args := ?_) Try.func73 (by kernel_rfl) rfl (some 42) rfl rfl (by rfl) rfl ?_ ?_
    rotate_left
    · simp only [List.map_toArray, List.map_cons, List.map_nil]; go_simp; rfl
    with_reducible refine (bk _).mono ?_
    rintro e w' ⟨rfl, hb⟩
    unfold wideV
    refine ⟨_, rfl, bl_next (by repeat (first | with_reducible exact hB | refine Below.alloc ?_ (by have := hB.size; simp; omega) _ | refine bl_dN ?_ _ | refine Below.drew ?_ | refine Below.setCell ?_ (by have := hB.size; simp; omega) _)) hb, ?_⟩
    have hB := bl_next (by repeat (first | with_reducible exact hB | refine Below.alloc ?_ (by have := hB.size; simp; omega) _ | refine bl_dN ?_ _ | refine Below.drew ?_ | refine Below.setCell ?_ (by have := hB.size; simp; omega) _)) hb; clear hb
    simp only [Act.put, List.setIfInBounds_toArray, List.set_cons_zero, List.set_cons_succ]
    refine seq_take (v := ?_) (a' := ?_) (some 44) rfl rfl (by rfl) ?_ ?_ ?_
    rotate_left; rotate_left
    · intro w' hS; go_simp; with_reducible rfl
    · simp only [Act.put, List.setIfInBounds_toArray, List.set_cons_zero, List.set_cons_succ]; rfl
    refine seq_done ?_
    have k0_0 := cb hB c0_0
    have k0_1 := cb hB c0_1
    have k1_0 := cb hB c1_0
    have k1_1 := cb hB c1_1
    have k2_0 := cb hB c2_0
    have k2_1 := cb hB c2_1
    have kz0 : w.heap.size < _ := lt_of_cell k0_0
    have kz1 : w.heap.size + 1 < _ := lt_of_cell k1_0
    have kz2 : w.heap.size + 2 < _ := lt_of_cell k2_0
    have kf0_0 := fb hB (lt_of_cell c0_0) (F0.out 0)
    have kf0_1 := fb hB (lt_of_cell c0_1) (F0.out 1)
    have kf1_0 := fb hB (lt_of_cell c1_0) (F1.out 0)
    have kf1_1 := fb hB (lt_of_cell c1_1) (F1.out 1)
    have kf2_0 := fb hB (lt_of_cell c2_0) (F2.out 0)
    have kf2_1 := fb hB (lt_of_cell c2_1) (F2.out 1)
    go_wp2
    have hw0 := bl_from Hw.out hB
    refine bodyPost_ret (v := .tuple #[.agg #[.int .i64 0, .int .u64 0], .bool false]) (by simp [results, Try.results44, go_sem, k1_0, k1_1]) rfl ⟨rfl, by (repeat (first | exact Below.refl _ _ | exact hw0 | refine Below.setCell ?_ (by first | (simp; done) | (simp; omega)) _ | refine Below.alloc ?_ (by first | (simp; done) | (simp; omega)) _ | refine bl_dN ?_ _ | refine Below.drew ?_))⟩
end Go.Proofs.Ytdcceaafiammfaa
