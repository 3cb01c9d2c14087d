import Derived.Test.YteomicjjaajblaaProg
import Derived.Test.YteomicjjaajblaaWida
import Derived.Laws.ShiftsVarLaws
namespace Go.Proofs.Yteomicjjaajblaa
open Go.RowKit
set_option linter.unusedSimpArgs false
set_option linter.unusedVariables false
theorem or_add {x y : Int} {i : Nat} (hi : i ≤ 64) (hx : 0 ≤ x) (hxi : x < 2 ^ i) (hy : 0 ≤ y) (hy2 : y < 18446744073709551616) (hd : y % 2 ^ i = 0) : bits .or .u64 x y = x + y ∧ bits .or .u64 y x = x + y := by
  have hp : (2 : Int) ^ i ≤ 2 ^ 64 := by exact_mod_cast Nat.pow_le_pow_right (n := 2) (by decide) hi
  have hx2 : x < 18446744073709551616 := by omega
  obtain ⟨X, rfl⟩ := Int.eq_ofNat_of_zero_le hx
  obtain ⟨Y, rfl⟩ := Int.eq_ofNat_of_zero_le hy
  have a : X < 2 ^ i := by exact_mod_cast hxi
  have b : Y % 2 ^ i = 0 := by exact_mod_cast hd
  rw [u64_or _ _ (by omega) (by omega) (by omega) (by omega), u64_or _ _ (by omega) (by omega) (by omega) (by omega), Int.toNat_natCast, Int.toNat_natCast, Nat.or_comm X Y, nat_join i Y X b a]
  constructor <;> simp <;> omega
end Go.Proofs.Yteomicjjaajblaa
