import Derived.Test.YtdcceaafiammfaaProg
import Derived.Test.YtdcceaafiammfaaLawf
import Derived.Test.YtdcceaafiammfaaPlan
import Derived.Test.YtdcceaafiammfaaKinds
namespace Go.Proofs.Ytdcceaafiammfaa
open Go.RowKit
set_option linter.unusedSimpArgs false
set_option linter.unusedVariables false
/-! ### Wide numbers in order: the plain law -/
theorem sgn_lt {a b : Int} (h : a < b) : sgn a b = -1 := by simp [sgn, h]
theorem sgn_gt {a b : Int} (h : b < a) : sgn a b = 1 := by unfold sgn; rw [if_neg (by omega), if_pos h]
theorem sgn_eq {a b : Int} (h : a = b) : sgn a b = 0 := by unfold sgn; rw [if_neg (by omega), if_neg (by omega)]
theorem sgn_add (a b c : Int) : sgn (a + c) (b + c) = sgn a b := by
  unfold sgn; split <;> split <;> (try split) <;> (try split) <;> omega
theorem sgn_sub (a b c : Int) : sgn (c - b) (c - a) = sgn a b := by
  unfold sgn; split <;> split <;> (try split) <;> (try split) <;> omega
theorem wval_inj {h l h' l' : Int} (k : WOk h l) (k' : WOk h' l') (e : wval h l = wval h' l') : h = h' ∧ l = l' := by
  obtain ⟨a, b, c, d⟩ := k; obtain ⟨a', b', c', d'⟩ := k'; unfold wval at e; omega
/-- A sum (a difference), by its parts: what the walk wants of it. -/
theorem wide_parts (v : Int) : ∃ h l ok, Hid (wideRes v = .tuple #[.agg #[.int .i64 h, .int .u64 l], .bool ok]) ∧ Hid (WOk h l) ∧ Hid (ok = true → wval h l = v) := by
  refine ⟨oHi (wIn v) v, oLo (wIn v) v, wIn v, Lib.hid (by rw [wideRes_eq]; rfl), Lib.hid (oOk fun h => h), Lib.hid fun h => ?_⟩
  rw [h]; exact oval
theorem fit_of (n : Int) (h1 : -9223372036854775808 ≤ n) (h2 : n ≤ 9223372036854775807) : fitRes (wval (whi n) (wlo n)) = .tuple #[.int .i64 n, .bool true] := by
  rw [wval_of]; unfold fitRes fit64; simp [h1, h2]
theorem WOk.of64 (n : Int) (h1 : -9223372036854775808 ≤ n) (h2 : n ≤ 9223372036854775807) : WOk (whi n) (wlo n) := by
  constructor <;> (simp only [whi, wlo]; omega)
theorem itoa_len (n : Int) (h1 : -9223372036854775808 ≤ n) (h2 : n ≤ 9223372036854775807) : (Lib.itoa n).length ≤ 20 := by
  unfold Lib.itoa
  split
  · have := dec_len 18 n.natAbs (by omega)
    simp; omega
  · have := dec_len 18 n.toNat (by omega)
    omega
end Go.Proofs.Ytdcceaafiammfaa
