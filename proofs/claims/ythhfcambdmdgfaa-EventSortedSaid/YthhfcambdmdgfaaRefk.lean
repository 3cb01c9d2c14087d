import Derived.Test.YthhfcambdmdgfaaProg
import Derived.Test.YthhfcambdmdgfaaBase
import Derived.Test.YthhfcambdmdgfaaPl
import Derived.Test.YthhfcambdmdgfaaLb1
import Derived.Test.YthhfcambdmdgfaaLbk
namespace Go.Proofs.Ythhfcambdmdgfaa
open Go.RowKit
set_option linter.unusedSimpArgs false
set_option linter.unusedVariables false
theorem refKey_calls (k s n : ByteArray) (w : World) (hk : k.size ≤ 1073741824000) (hs : s.size ≤ 1073741824000) (hn : n.size ≤ 1073741824000) :
    Calls Try.prog 62 #[.agg #[.string k, .string s, .string n]] w fun e w' => e = .returned (.bool (keyB k s n)) ∧ Below w.heap.size w w' := by
  go_enter Try.func62, Try.ntmps62
  go_wp2_with (go_at_call 86; refine (refRight_calls _ _ (by assumption)).mono ?_; rintro e w' ⟨rfl, nd, rfl⟩)
  all_goals go_ret
  all_goals exact ⟨ret_bool (by simp_all [keyB]), bl_dN ((Below.refl _ _).alloc (Nat.le_refl _) _) _⟩
theorem refLess_calls (k s n k' s' n' : ByteArray) (w : World) (h : k.size + s.size + n.size ≤ 1073741824) (h' : k'.size + s'.size + n'.size ≤ 1073741824) :
    Calls Try.prog 59 #[.agg #[.string k, .string s, .string n], .agg #[.string k', .string s', .string n']] w fun e w' => e = .returned (.bool (Op.bytesLess (keyText k s n).toList (keyText k' s' n').toList)) ∧ Below w.heap.size w w' := by
  have e1 : (keyText k s n).size ≤ 1073741824000 := by rw [keyText_size]; omega
  have e2 : (keyText k' s' n').size ≤ 1073741824000 := by rw [keyText_size]; omega
  have E1 := Lib.hid e1; have E2 := Lib.hid e2; clear e1 e2
  go_enter Try.func59, Try.ntmps59
  go_wp2_with fail
  refine (before_calls _ _ _ E1.out E2.out).mono ?_; rintro e w' ⟨rfl, nd, rfl⟩
  go_wp2
  go_ret
  exact ⟨rfl, bl_dN (((Below.refl _ _).alloc (Nat.le_refl _) _).alloc (by simp) _) _⟩
end Go.Proofs.Ythhfcambdmdgfaa
