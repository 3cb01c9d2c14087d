import Derived.Test.YteomicjjaajblaaProg
import Derived.Test.YteomicjjaajblaaWida
namespace Go.Proofs.Yteomicjjaajblaa
open Go.RowKit
set_option linter.unusedSimpArgs false
set_option linter.unusedVariables false
theorem rof_calls (n : Int) (w : World) (h1 : -9223372036854775808 ≤ n) (h2 : n ≤ 9223372036854775807) :
    Calls Try.prog 20 #[.int .i64 n] w fun e w' => e = .returned (wideV n) ∧ Below w.heap.size w w' := by
  have H1 := Lib.hid h1; have H2 := Lib.hid h2; clear h1 h2
  go_enter Try.func20, Try.ntmps20
  go_wp2
  all_goals have hw0 := Below.refl w.heap.size w
  · refine bodyPost_ret (v := .agg #[.int .i64 (-1), .int .u64 (IntKind.u64.wrap n)]) (by simp [results, Try.results20, go_sem]) rfl ⟨?_, by (repeat (first | exact Below.refl _ _ | exact hw0 | refine Below.setCell ?_ (by first | (simp; done) | (simp; omega)) _ | refine Below.alloc ?_ (by first | (simp; done) | (simp; omega)) _ | refine bl_dN ?_ _ | refine Below.drew ?_))⟩
    have hn : n < 0 := by assumption
    have h1 := H1.out; have h2 := H2.out
    unfold wideV
    rw [u64_wrap, show whi n = -1 by unfold whi; omega]; rfl
  · refine bodyPost_ret (v := .agg #[.int .i64 0, .int .u64 (IntKind.u64.wrap n)]) (by simp [results, Try.results20, go_sem]) rfl ⟨?_, by (repeat (first | exact Below.refl _ _ | exact hw0 | refine Below.setCell ?_ (by first | (simp; done) | (simp; omega)) _ | refine Below.alloc ?_ (by first | (simp; done) | (simp; omega)) _ | refine bl_dN ?_ _ | refine Below.drew ?_))⟩
    have hn : 0 ≤ n := by assumption
    have h1 := H1.out; have h2 := H2.out
    unfold wideV
    rw [u64_wrap, show whi n = 0 by unfold whi; omega]; rfl
end Go.Proofs.Yteomicjjaajblaa
