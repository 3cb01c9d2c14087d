import Derived.Test.YtdcceaafiammfaaProg
import Derived.Test.YtdcceaafiammfaaBrefb
namespace Go.Proofs.Ytdcceaafiammfaa
open Go.RowKit
set_option linter.unusedSimpArgs false
set_option linter.unusedVariables false
theorem rof_calls (n : Int) (w : World) (h1 : -9223372036854775808 ≤ n) (h2 : n ≤ 9223372036854775807) :
    Calls Try.prog 48 #[.int .i64 n] w fun e w' => e = .returned (wideV n) ∧ Below w.heap.size w w' := by
  have H1 := Lib.hid h1; have H2 := Lib.hid h2; clear h1 h2
  go_enter Try.func48, Try.ntmps48
  go_wp2
  all_goals have hw0 := Below.refl w.heap.size w
  · refine bodyPost_ret (v := .agg #[.int .i64 (-1), .int .u64 (IntKind.u64.wrap n)]) (by simp [results, Try.results48, go_sem]) rfl ⟨?_, by (repeat (first | exact Below.refl _ _ | exact hw0 | refine Below.setCell ?_ (by first | (simp; done) | (simp; omega)) _ | refine Below.alloc ?_ (by first | (simp; done) | (simp; omega)) _ | refine bl_dN ?_ _ | refine Below.drew ?_))⟩
    have hn : n < 0 := by assumption
    have h1 := H1.out; have h2 := H2.out
    unfold wideV
    rw [u64_wrap, show whi n = -1 by unfold whi; omega]; rfl
  · refine bodyPost_ret (v := .agg #[.int .i64 0, .int .u64 (IntKind.u64.wrap n)]) (by simp [results, Try.results48, go_sem]) rfl ⟨?_, by (repeat (first | exact Below.refl _ _ | exact hw0 | refine Below.setCell ?_ (by first | (simp; done) | (simp; omega)) _ | refine Below.alloc ?_ (by first | (simp; done) | (simp; omega)) _ | refine bl_dN ?_ _ | refine Below.drew ?_))⟩
    have hn : 0 ≤ n := by assumption
    have h1 := H1.out; have h2 := H2.out
    unfold wideV
    rw [u64_wrap, show whi n = 0 by unfold whi; omega]; rfl
theorem rcmp_calls (h l h' l' : Int) (w : World) (k : WOk h l) (k' : WOk h' l') :
    Calls Try.prog 50 #[.agg #[.int .i64 h, .int .u64 l], .agg #[.int .i64 h', .int .u64 l']] w fun e w' => e = .returned (.int .i64 (sgn (wval h l) (wval h' l'))) ∧ Below w.heap.size w w' := by
  have K := Lib.hid k; have K' := Lib.hid k'; clear k k'
  go_enter Try.func50, Try.ntmps50
  go_wp2
  all_goals go_ret
  all_goals have hw0 := Below.refl w.heap.size w
  all_goals refine ⟨ret_int ?_, by (repeat (first | exact Below.refl _ _ | exact hw0 | refine Below.setCell ?_ (by first | (simp; done) | (simp; omega)) _ | refine Below.alloc ?_ (by first | (simp; done) | (simp; omega)) _ | refine bl_dN ?_ _ | refine Below.drew ?_))⟩
  all_goals (obtain ⟨a, b, c, d⟩ := K.out; obtain ⟨a', b', c', d'⟩ := K'.out; unfold sgn wval; split <;> (try split) <;> omega)
theorem fitv {v a : Int} {b : Bool} (h : fit64 v = b) (ha : (if b then v else 0) = a) : Ending.returned (.tuple #[.int .i64 a, .bool b]) = .returned (fitRes v) := by
  subst ha; subst h; unfold fitRes; cases fit64 v <;> rfl
theorem fit_t {h l : Int} (h1 : -9223372036854775808 ≤ wval h l) (h2 : wval h l ≤ 9223372036854775807) : fit64 (wval h l) = true := by
  simp only [fit64, Bool.and_eq_true, decide_eq_true_eq]; exact ⟨h1, h2⟩
theorem fit_f {h l : Int} (h1 : ¬ (-9223372036854775808 ≤ wval h l ∧ wval h l ≤ 9223372036854775807)) : fit64 (wval h l) = false := by
  cases hh : fit64 (wval h l) with
  | false => rfl
  | true => simp only [fit64, Bool.and_eq_true, decide_eq_true_eq] at hh; exact absurd hh h1
theorem rfits_calls (h l : Int) (w : World) (k : WOk h l) :
    Calls Try.prog 43 #[.agg #[.int .i64 h, .int .u64 l]] w fun e w' => e = .returned (fitRes (wval h l)) ∧ Below w.heap.size w w' := by
  have K := Lib.hid k; clear k
  go_enter Try.func43, Try.ntmps43
  go_wp2
  all_goals go_ret2
  all_goals have hw0 := Below.refl w.heap.size w
  all_goals refine ⟨?_, by (repeat (first | exact Below.refl _ _ | exact hw0 | refine Below.setCell ?_ (by first | (simp; done) | (simp; omega)) _ | refine Below.alloc ?_ (by first | (simp; done) | (simp; omega)) _ | refine bl_dN ?_ _ | refine Below.drew ?_))⟩
  all_goals (first | (refine fitv (fit_t ?_ ?_) ?_) | (refine fitv (fit_f ?_) ?_))
  all_goals (obtain ⟨a, b, c, d⟩ := K.out; (try rw [if_pos rfl, wrap64_eq]); first | rfl | (unfold wval; omega))
end Go.Proofs.Ytdcceaafiammfaa
