import Derived.Test.YteomicjjaajblaaWida
namespace Go.Proofs.Yteomicjjaajblaa
open Go.RowKit
set_option linter.unusedSimpArgs false
theorem pw_pos (n : Nat) : (0 : Int) < 2 ^ n := Int.pow_pos (by decide)
theorem ediv2 {a b c : Int} (h : 0 ≤ b) : a / b / c = a / (b * c) := Int.ediv_ediv_of_nonneg h
/-- A sum (a difference), by its parts: what the walk wants of it. -/
theorem wide_parts (v : Int) : ∃ h l ok, Hid (wideRes v = .tuple #[.agg #[.int .i64 h, .int .u64 l], .bool ok]) ∧ Hid (WOk h l) ∧ Hid (ok = true → wval h l = v) := by
  cases h : wIn v with
  | true => exact ⟨whi v, wlo v, true, Lib.hid (by unfold wideRes; rw [if_pos h]), Lib.hid (WOk.of_in h), Lib.hid fun _ => wval_of v⟩
  | false => exact ⟨0, 0, false, Lib.hid (by unfold wideRes; rw [if_neg (by simp [h])]), Lib.hid ⟨by decide, by decide, by decide, by decide⟩, Lib.hid fun q => by cases q⟩
end Go.Proofs.Yteomicjjaajblaa
