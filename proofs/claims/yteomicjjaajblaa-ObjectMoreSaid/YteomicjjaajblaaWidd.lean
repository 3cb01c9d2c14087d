import Derived.Test.YteomicjjaajblaaProg
import Derived.Test.YteomicjjaajblaaPw
import Derived.Test.YteomicjjaajblaaWor
import Derived.Test.YteomicjjaajblaaWida
namespace Go.Proofs.Yteomicjjaajblaa
open Go.RowKit
set_option linter.unusedSimpArgs false
set_option linter.unusedVariables false
set_option maxRecDepth 100000 in
theorem len10_calls (w : World) : Calls Try.prog 96 #[.int .u64 10] w fun e w' => e = .returned (.int .i64 4) ∧ w = w' := by
  go_enter Try.func96, Try.ntmps96
  go_wp2
  go_ret
  refine ⟨?_, rfl⟩
  kernel_rfl
theorem lz10_calls (w : World) : Calls Try.prog 88 #[.int .u64 10] w fun e w' => e = .returned (.int .i64 60) ∧ w = w' := by
  go_enter Try.func88, Try.ntmps88
  go_wp2_with (go_at_call 96; refine (len10_calls _).mono ?_; rintro e w' ⟨rfl, rfl⟩)
  go_ret
  exact ⟨rfl, rfl⟩
theorem div10_big (hi lo U X q1 r1 v q0 : Int) (w : World) (hne : (hi == 0) = false) (h1 : hi < 10) (h0 : 0 < hi)
    (b1 : bits .or .u64 (hi * 1152921504606846976) (lo / 16) = U) (b2 : IntKind.u64.wrap (lo * 1152921504606846976) = X) (b3 : bits .and .u64 X 4294967295 = X % 4294967296)
    (b4 : bits .and .u64 11529215046068469760 4294967295 = 0)
    (d1 : IntKind.u64.wrap (U.tdiv 2684354560) = q1) (g1 : decide (q1 ≥ 4294967296) = false)
    (m1 : IntKind.u64.wrap (q1 * 2684354560) = q1 * 2684354560) (m2 : IntKind.u64.wrap (U - q1 * 2684354560) = r1)
    (m3 : IntKind.u64.wrap (4294967296 * r1) = 4294967296 * r1) (m4 : IntKind.u64.wrap (4294967296 * r1 + X / 4294967296) = 4294967296 * r1 + X / 4294967296)
    (g2 : ¬ (0 > 4294967296 * r1 + X / 4294967296))
    (v1 : IntKind.u64.wrap (IntKind.u64.wrap (IntKind.u64.wrap (U * 4294967296) + X / 4294967296) - IntKind.u64.wrap (q1 * 11529215046068469760)) = v)
    (d2 : IntKind.u64.wrap (v.tdiv 2684354560) = q0) (g3 : decide (q0 ≥ 4294967296) = false)
    (r2 : Int) (m5 : IntKind.u64.wrap (q0 * 2684354560) = q0 * 2684354560) (m6 : IntKind.u64.wrap (v - q0 * 2684354560) = r2)
    (m7 : IntKind.u64.wrap (4294967296 * r2) = 4294967296 * r2) (m8 : IntKind.u64.wrap (4294967296 * r2 + X % 4294967296) = 4294967296 * r2 + X % 4294967296) (g4 : ¬ (0 > 4294967296 * r2 + X % 4294967296))
    (rq rr : Int) (f1 : IntKind.u64.wrap (IntKind.u64.wrap (q1 * 4294967296) + q0) = rq)
    (f2 : IntKind.u64.wrap (IntKind.u64.wrap (IntKind.u64.wrap (v * 4294967296) + X % 4294967296) - IntKind.u64.wrap (q0 * 11529215046068469760)) / 1152921504606846976 = rr) :
    Calls Try.prog 76 #[.int .u64 hi, .int .u64 lo, .int .u64 10] w fun e w' => e = .returned (.tuple #[.int .u64 rq, .int .u64 rr]) ∧ ∃ n, w' = w.drewN n := by
  go_enter Try.func76, Try.ntmps76
  go_wp2_with (go_at_call 88; refine (lz10_calls _).mono ?_; rintro e w' ⟨rfl, rfl⟩)
  refine wp_loop_rounds 1 ?_; rw [rounds_succ]
  go_wp2_with fail
  refine wp_loop_rounds 1 ?_; rw [rounds_succ]
  go_wp2_with fail
  go_ret2
  exact ⟨rfl, 0, rfl⟩
theorem div10_calls (hi lo : Int) (w : World) (h0 : 0 ≤ hi) (h1 : hi < 10) (l0 : 0 ≤ lo) (l1 : lo ≤ 18446744073709551615) :
    Calls Try.prog 76 #[.int .u64 hi, .int .u64 lo, .int .u64 10] w fun e w' => e = .returned (.tuple #[.int .u64 ((hi * 18446744073709551616 + lo) / 10), .int .u64 ((hi * 18446744073709551616 + lo) % 10)]) ∧ ∃ n, w' = w.drewN n := by
  by_cases hz : hi = 0
  · subst hz
    go_enter Try.func76, Try.ntmps76
    go_wp2_with fail
    go_region
    go_wp2
    go_ret2
    refine ⟨ret2 (vint (by omega)) (vint (by omega)), 1, rfl⟩
  · have hne : (hi == 0) = false := by simpa using hz
    have o1 := (or_add (x := lo / 16) (y := hi * 1152921504606846976) (i := 60) (by omega) (by omega) (by omega) (by omega) (by omega) (by simp)).2
    have x0 : 0 ≤ IntKind.u64.wrap (lo * 1152921504606846976) ∧ IntKind.u64.wrap (lo * 1152921504606846976) < 18446744073709551616 := by rw [u64_wrap]; omega
    have o2 : bits .and .u64 (IntKind.u64.wrap (lo * 1152921504606846976)) 4294967295 = IntKind.u64.wrap (lo * 1152921504606846976) % 4294967296 := by
      rw [u64_and _ _ x0.1 x0.2 (by decide) (by decide)]
      generalize IntKind.u64.wrap (lo * 1152921504606846976) = X at x0
      obtain ⟨Y, rfl⟩ := Int.eq_ofNat_of_zero_le x0.1
      have := Nat.and_two_pow_sub_one_eq_mod Y 32
      simp at this ⊢
      omega
    generalize hX : IntKind.u64.wrap (lo * 1152921504606846976) = X at o2 x0
    have hX' : X = (lo * 1152921504606846976) % 18446744073709551616 := by rw [← hX, u64_wrap]
    generalize hU : lo / 16 + hi * 1152921504606846976 = U at o1
    have hUb : 0 ≤ U ∧ U < 11529215046068469760 := by omega
    obtain ⟨q1, hq1⟩ : ∃ q, q = U / 2684354560 := ⟨_, rfl⟩
    obtain ⟨r1, hr1⟩ : ∃ r, r = U % 2684354560 := ⟨_, rfl⟩
    obtain ⟨v, hv⟩ : ∃ v, v = r1 * 4294967296 + X / 4294967296 := ⟨_, rfl⟩
    obtain ⟨q0, hq0⟩ : ∃ q, q = v / 2684354560 := ⟨_, rfl⟩
    obtain ⟨r2, hr2⟩ : ∃ r, r = v % 2684354560 := ⟨_, rfl⟩
    have hb : 0 ≤ q1 ∧ q1 < 4294967296 ∧ 0 ≤ r1 ∧ r1 < 2684354560 ∧ 0 ≤ v ∧ v < 11529215046068469760 ∧ 0 ≤ q0 ∧ q0 < 4294967296 ∧ 0 ≤ r2 ∧ r2 < 2684354560 := by omega
    have t1 : U.tdiv 2684354560 = U / 2684354560 := Int.tdiv_eq_ediv_of_nonneg hUb.1
    have t2 : v.tdiv 2684354560 = v / 2684354560 := Int.tdiv_eq_ediv_of_nonneg hb.2.2.2.2.1
    refine div10_big hi lo U X q1 r1 v q0 w hne h1 (by omega) o1 hX o2 (by decide) (by rw [t1, u64_wrap]; omega) (by simp; omega) (by rw [u64_wrap]; omega) (by rw [u64_wrap]; omega) (by rw [u64_wrap]; omega) (by rw [u64_wrap]; omega) (by omega)
      (by simp only [u64_wrap]; omega) (by rw [t2, u64_wrap]; omega) (by simp; omega) r2 (by rw [u64_wrap]; omega) (by rw [u64_wrap]; omega) (by rw [u64_wrap]; omega) (by rw [u64_wrap]; omega) (by omega) _ _ (by simp only [u64_wrap]; omega) (by simp only [u64_wrap]; omega)
end Go.Proofs.Yteomicjjaajblaa
