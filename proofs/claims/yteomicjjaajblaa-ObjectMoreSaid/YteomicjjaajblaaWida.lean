import Derived.Test.YteomicjjaajblaaProg
import Derived.Test.YteomicjjaajblaaBase
import Derived.Test.YteomicjjaajblaaSeq
import Derived.Laws.Externs
import Derived.Shelf.Spec.BitsCarry
namespace Go.Proofs.Yteomicjjaajblaa
open Go.RowKit
set_option linter.unusedSimpArgs false
set_option linter.unusedVariables false
/-! ### Whole numbers of 128 bits, plainly -/
structure WOk (h l : Int) : Prop where
  h1 : -9223372036854775808 ≤ h
  h2 : h ≤ 9223372036854775807
  l1 : 0 ≤ l
  l2 : l ≤ 18446744073709551615
def wval (h l : Int) : Int := h * 18446744073709551616 + l
def whi (v : Int) : Int := v / 18446744073709551616
def wlo (v : Int) : Int := v % 18446744073709551616
def wIn (v : Int) : Bool := decide (-9223372036854775808 ≤ whi v) && decide (whi v ≤ 9223372036854775807)
def wideRes (v : Int) : Value := if wIn v then .tuple #[.agg #[.int .i64 (whi v), .int .u64 (wlo v)], .bool true] else .tuple #[.agg #[.int .i64 0, .int .u64 0], .bool false]
theorem WOk.of_in {v : Int} (h : wIn v = true) : WOk (whi v) (wlo v) := by
  simp only [wIn, Bool.and_eq_true, decide_eq_true_eq] at h
  unfold whi wlo at *
  exact ⟨by omega, by omega, by omega, by omega⟩
theorem wval_of (v : Int) : wval (whi v) (wlo v) = v := by unfold wval whi wlo; omega
theorem wIn_val {h l : Int} (k : WOk h l) : wIn (wval h l) = true := by
  obtain ⟨a, b, c, d⟩ := k
  simp only [wIn, Bool.and_eq_true, decide_eq_true_eq]; unfold whi wval; constructor <;> omega
theorem whi_val {h l : Int} (k : WOk h l) : whi (wval h l) = h := by obtain ⟨a, b, c, d⟩ := k; unfold whi wval; omega
theorem wlo_val {h l : Int} (k : WOk h l) : wlo (wval h l) = l := by obtain ⟨a, b, c, d⟩ := k; unfold wlo wval; omega
/-- The halves' sum. -/
def aLo (l l' : Int) : Int := (l + l' + 0) % 18446744073709551616
def aCy (l l' : Int) : Int := (l + l' + 0) / 18446744073709551616
def aHi (h h' c : Int) : Int := (IntKind.u64.wrap h + IntKind.u64.wrap h' + c) % 18446744073709551616
def aC2 (h h' c : Int) : Int := (IntKind.u64.wrap h + IntKind.u64.wrap h' + c) / 18446744073709551616
theorem u64_wrap (h : Int) : IntKind.u64.wrap h = h % 18446744073709551616 := by simp [IntKind.wrap, IntKind.signed, IntKind.bits]
theorem wrap64_eq (n : Int) : wrap64 n = (n + 9223372036854775808) % 18446744073709551616 - 9223372036854775808 := by unfold wrap64; rfl
theorem add_over {h l h' l' : Int} (k : WOk h l) (k' : WOk h' l') (s : h < 0 ↔ h' < 0) (o : (!decide (wrap64 (aHi h h' (aCy l l')) < 0) == decide (h' < 0)) = true) : wIn (wval h l + wval h' l') = false := by
  obtain ⟨a, b, c, d⟩ := k; obtain ⟨a', b', c', d'⟩ := k'
  have o' : ¬ (wrap64 (aHi h h' (aCy l l')) < 0) ↔ h' < 0 := by by_cases x : wrap64 (aHi h h' (aCy l l')) < 0 <;> by_cases y : h' < 0 <;> simp_all <;> omega
  clear o
  rw [wrap64_eq, aHi, aCy, u64_wrap, u64_wrap] at o'
  simp only [wIn, Bool.and_eq_false_iff, decide_eq_false_iff_not]
  unfold whi wval
  omega
theorem add_fine {h l h' l' : Int} (k : WOk h l) (k' : WOk h' l') (s : ¬ (h < 0 ↔ h' < 0) ∨ (!decide (wrap64 (aHi h h' (aCy l l')) < 0) == decide (h' < 0)) = false) :
    wIn (wval h l + wval h' l') = true ∧ whi (wval h l + wval h' l') = wrap64 (aHi h h' (aCy l l')) ∧ wlo (wval h l + wval h' l') = aLo l l' := by
  obtain ⟨a, b, c, d⟩ := k; obtain ⟨a', b', c', d'⟩ := k'
  have o' : ¬ (h < 0 ↔ h' < 0) ∨ (wrap64 (aHi h h' (aCy l l')) < 0 ↔ h' < 0) := by
    rcases s with s | o
    · exact Or.inl s
    · right; by_cases x : wrap64 (aHi h h' (aCy l l')) < 0 <;> by_cases y : h' < 0 <;> simp_all <;> omega
  clear s
  rw [wrap64_eq, aHi, aCy, u64_wrap, u64_wrap] at *
  simp only [wIn, Bool.and_eq_true, decide_eq_true_eq]
  unfold whi wval wlo aLo
  refine ⟨⟨?_, ?_⟩, ?_, ?_⟩ <;> omega
theorem add64_run (x y c : Int) (hx : 0 ≤ x) (hy : 0 ≤ y) (hc0 : 0 ≤ c) (hc : c ≤ 1) (w : World) :
    (callFunc 80 #[.int .u64 x, .int .u64 y, .int .u64 c]).run Try.prog w = .ok (.value (.tuple #[.int .u64 ((x + y + c) % 18446744073709551616), .int .u64 ((x + y + c) / 18446744073709551616)])) w := by
  rw [run_callFunc_extern Try.func80 (by kernel_rfl) (by kernel_rfl) (by kernel_rfl) (e := add64Entry) (by kernel_rfl), run_add64 x y c hx hy hc0 hc]
  rfl
theorem wadd_calls (h l h' l' : Int) (w : World) (k : WOk h l) (k' : WOk h' l') :
    Calls Try.prog 61 #[.agg #[.int .i64 h, .int .u64 l], .agg #[.int .i64 h', .int .u64 l']] w fun e w' => e = .returned (wideRes (wval h l + wval h' l')) ∧ Below w.heap.size w w' := by
  have r1 : ∀ w, (callFunc 80 #[.int .u64 l, .int .u64 l', .int .u64 0]).run Try.prog w = .ok (.value (.tuple #[.int .u64 (aLo l l'), .int .u64 (aCy l l')])) w := fun w => add64_run l l' 0 k.l1 k'.l1 (by decide) (by decide) w
  have hcy : 0 ≤ aCy l l' ∧ aCy l l' ≤ 1 := by obtain ⟨a, b, c, d⟩ := k; obtain ⟨a', b', c', d'⟩ := k'; unfold aCy; omega
  have r2 : ∀ w, (callFunc 80 #[.int .u64 (IntKind.u64.wrap h), .int .u64 (IntKind.u64.wrap h'), .int .u64 (aCy l l')]).run Try.prog w = .ok (.value (.tuple #[.int .u64 (aHi h h' (aCy l l')), .int .u64 (aC2 h h' (aCy l l'))])) w :=
    fun w => add64_run _ _ _ (by rw [u64_wrap]; omega) (by rw [u64_wrap]; omega) hcy.1 hcy.2 w
  have K := Lib.hid k; have K' := Lib.hid k'; have HC := Lib.hid hcy; clear k k' hcy
  go_enter Try.func61, Try.ntmps61
  go_wp2
  all_goals have hw0 := Below.refl w.heap.size w
  · refine bodyPost_ret (v := .tuple #[.agg #[.int .i64 0, .int .u64 0], .bool false]) (by simp [results, Try.results61, go_sem]) rfl ⟨?_, by (repeat (first | exact Below.refl _ _ | exact hw0 | refine Below.setCell ?_ (by first | (simp; done) | (simp; omega)) _ | refine Below.alloc ?_ (by first | (simp; done) | (simp; omega)) _ | refine bl_dN ?_ _ | refine Below.drew ?_))⟩
    rw [wideRes, add_over K.out K'.out ‹_› ‹_›]; rfl
  · refine bodyPost_ret (v := .tuple #[.agg #[.int .i64 (wrap64 (aHi h h' (aCy l l'))), .int .u64 (aLo l l')], .bool true]) (by simp [results, Try.results61, go_sem]) rfl ⟨?_, by (repeat (first | exact Below.refl _ _ | exact hw0 | refine Below.setCell ?_ (by first | (simp; done) | (simp; omega)) _ | refine Below.alloc ?_ (by first | (simp; done) | (simp; omega)) _ | refine bl_dN ?_ _ | refine Below.drew ?_))⟩
    obtain ⟨e1, e2, e3⟩ := add_fine K.out K'.out (Or.inr ‹_›)
    rw [wideRes, e1, e2, e3]; rfl
  · refine bodyPost_ret (v := .tuple #[.agg #[.int .i64 (wrap64 (aHi h h' (aCy l l'))), .int .u64 (aLo l l')], .bool true]) (by simp [results, Try.results61, go_sem]) rfl ⟨?_, by (repeat (first | exact Below.refl _ _ | exact hw0 | refine Below.setCell ?_ (by first | (simp; done) | (simp; omega)) _ | refine Below.alloc ?_ (by first | (simp; done) | (simp; omega)) _ | refine bl_dN ?_ _ | refine Below.drew ?_))⟩
    obtain ⟨e1, e2, e3⟩ := add_fine K.out K'.out (Or.inl ‹_›)
    rw [wideRes, e1, e2, e3]; rfl
def wideV (v : Int) : Value := .agg #[.int .i64 (whi v), .int .u64 (wlo v)]
theorem wof_calls (n : Int) (w : World) (h1 : -9223372036854775808 ≤ n) (h2 : n ≤ 9223372036854775807) :
    Calls Try.prog 62 #[.int .i64 n] w fun e w' => e = .returned (wideV n) ∧ Below w.heap.size w w' := by
  have e1 : n / 9223372036854775808 = whi n := by unfold whi; omega
  have e2 : IntKind.u64.wrap n = wlo n := by rw [u64_wrap]; rfl
  have E1 := Lib.hid e1; have E2 := Lib.hid e2; clear e1 e2
  have H := Lib.hid (And.intro h1 h2); clear h1 h2
  go_enter Try.func62, Try.ntmps62
  go_wp2
  have hw0 := Below.refl w.heap.size w
  refine bodyPost_ret (v := .agg #[.int .i64 (n / 9223372036854775808), .int .u64 (IntKind.u64.wrap n)]) (by simp [results, Try.results62, go_sem]) rfl ⟨?_, by (repeat (first | exact Below.refl _ _ | exact hw0 | refine Below.setCell ?_ (by first | (simp; done) | (simp; omega)) _ | refine Below.alloc ?_ (by first | (simp; done) | (simp; omega)) _ | refine bl_dN ?_ _ | refine Below.drew ?_))⟩
  rw [E1.out, E2.out, wideV]
end Go.Proofs.Yteomicjjaajblaa
