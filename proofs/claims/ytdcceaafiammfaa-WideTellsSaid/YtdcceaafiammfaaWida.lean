import Derived.Test.YtdcceaafiammfaaProg
import Derived.Test.YtdcceaafiammfaaBase
import Derived.Test.YtdcceaafiammfaaSeq
import Derived.Laws.Externs
import Derived.Shelf.Spec.BitsCarry
namespace Go.Proofs.Ytdcceaafiammfaa
open Go.RowKit
set_option linter.unusedSimpArgs false
set_option linter.unusedVariables false
/-! ### Whole numbers of 128 bits, plainly -/
structure WOk (h l : Int) : Prop where
  h1 : -9223372036854775808 ≤ h
  h2 : h ≤ 9223372036854775807
  l1 : 0 ≤ l
  l2 : l ≤ 18446744073709551615
def wval (h l : Int) : Int := h * 18446744073709551616 + l
def whi (v : Int) : Int := v / 18446744073709551616
def wlo (v : Int) : Int := v % 18446744073709551616
def wIn (v : Int) : Bool := decide (-9223372036854775808 ≤ whi v) && decide (whi v ≤ 9223372036854775807)
def wideRes (v : Int) : Value := if wIn v then .tuple #[.agg #[.int .i64 (whi v), .int .u64 (wlo v)], .bool true] else .tuple #[.agg #[.int .i64 0, .int .u64 0], .bool false]
theorem WOk.of_in {v : Int} (h : wIn v = true) : WOk (whi v) (wlo v) := by
  simp only [wIn, Bool.and_eq_true, decide_eq_true_eq] at h
  unfold whi wlo at *
  exact ⟨by omega, by omega, by omega, by omega⟩
theorem wval_of (v : Int) : wval (whi v) (wlo v) = v := by unfold wval whi wlo; omega
theorem wIn_val {h l : Int} (k : WOk h l) : wIn (wval h l) = true := by
  obtain ⟨a, b, c, d⟩ := k
  simp only [wIn, Bool.and_eq_true, decide_eq_true_eq]; unfold whi wval; constructor <;> omega
theorem whi_val {h l : Int} (k : WOk h l) : whi (wval h l) = h := by obtain ⟨a, b, c, d⟩ := k; unfold whi wval; omega
theorem wlo_val {h l : Int} (k : WOk h l) : wlo (wval h l) = l := by obtain ⟨a, b, c, d⟩ := k; unfold wlo wval; omega
/-- The halves' sum. -/
def aLo (l l' : Int) : Int := (l + l' + 0) % 18446744073709551616
def aCy (l l' : Int) : Int := (l + l' + 0) / 18446744073709551616
def aHi (h h' c : Int) : Int := (IntKind.u64.wrap h + IntKind.u64.wrap h' + c) % 18446744073709551616
def aC2 (h h' c : Int) : Int := (IntKind.u64.wrap h + IntKind.u64.wrap h' + c) / 18446744073709551616
theorem u64_wrap (h : Int) : IntKind.u64.wrap h = h % 18446744073709551616 := by simp [IntKind.wrap, IntKind.signed, IntKind.bits]
theorem wrap64_eq (n : Int) : wrap64 n = (n + 9223372036854775808) % 18446744073709551616 - 9223372036854775808 := by unfold wrap64; rfl
theorem add_over {h l h' l' : Int} (k : WOk h l) (k' : WOk h' l') (s : h < 0 ↔ h' < 0) (o : (!decide (wrap64 (aHi h h' (aCy l l')) < 0) == decide (h' < 0)) = true) : wIn (wval h l + wval h' l') = false := by
  obtain ⟨a, b, c, d⟩ := k; obtain ⟨a', b', c', d'⟩ := k'
  have o' : ¬ (wrap64 (aHi h h' (aCy l l')) < 0) ↔ h' < 0 := by by_cases x : wrap64 (aHi h h' (aCy l l')) < 0 <;> by_cases y : h' < 0 <;> simp_all <;> omega
  clear o
  rw [wrap64_eq, aHi, aCy, u64_wrap, u64_wrap] at o'
  simp only [wIn, Bool.and_eq_false_iff, decide_eq_false_iff_not]
  unfold whi wval
  omega
theorem add_fine {h l h' l' : Int} (k : WOk h l) (k' : WOk h' l') (s : ¬ (h < 0 ↔ h' < 0) ∨ (!decide (wrap64 (aHi h h' (aCy l l')) < 0) == decide (h' < 0)) = false) :
    wIn (wval h l + wval h' l') = true ∧ whi (wval h l + wval h' l') = wrap64 (aHi h h' (aCy l l')) ∧ wlo (wval h l + wval h' l') = aLo l l' := by
  obtain ⟨a, b, c, d⟩ := k; obtain ⟨a', b', c', d'⟩ := k'
  have o' : ¬ (h < 0 ↔ h' < 0) ∨ (wrap64 (aHi h h' (aCy l l')) < 0 ↔ h' < 0) := by
    rcases s with s | o
    · exact Or.inl s
    · right; by_cases x : wrap64 (aHi h h' (aCy l l')) < 0 <;> by_cases y : h' < 0 <;> simp_all <;> omega
  clear s
  rw [wrap64_eq, aHi, aCy, u64_wrap, u64_wrap] at *
  simp only [wIn, Bool.and_eq_true, decide_eq_true_eq]
  unfold whi wval wlo aLo
  refine ⟨⟨?_, ?_⟩, ?_, ?_⟩ <;> omega
theorem add64_run (x y c : Int) (hx : 0 ≤ x) (hy : 0 ≤ y) (hc0 : 0 ≤ c) (hc : c ≤ 1) (w : World) :
    (callFunc 68 #[.int .u64 x, .int .u64 y, .int .u64 c]).run Try.prog w = .ok (.value (.tuple #[.int .u64 ((x + y + c) % 18446744073709551616), .int .u64 ((x + y + c) / 18446744073709551616)])) w := by
  rw [run_callFunc_extern Try.func68 (by kernel_rfl) (by kernel_rfl) (by kernel_rfl) (e := add64Entry) (by kernel_rfl), run_add64 x y c hx hy hc0 hc]
  rfl
theorem wadd_calls (h l h' l' : Int) (w : World) (k : WOk h l) (k' : WOk h' l') :
    Calls Try.prog 38 #[.agg #[.int .i64 h, .int .u64 l], .agg #[.int .i64 h', .int .u64 l']] w fun e w' => e = .returned (wideRes (wval h l + wval h' l')) ∧ Below w.heap.size w w' := by
  have r1 : ∀ w, (callFunc 68 #[.int .u64 l, .int .u64 l', .int .u64 0]).run Try.prog w = .ok (.value (.tuple #[.int .u64 (aLo l l'), .int .u64 (aCy l l')])) w := fun w => add64_run l l' 0 k.l1 k'.l1 (by decide) (by decide) w
  have hcy : 0 ≤ aCy l l' ∧ aCy l l' ≤ 1 := by obtain ⟨a, b, c, d⟩ := k; obtain ⟨a', b', c', d'⟩ := k'; unfold aCy; omega
  have r2 : ∀ w, (callFunc 68 #[.int .u64 (IntKind.u64.wrap h), .int .u64 (IntKind.u64.wrap h'), .int .u64 (aCy l l')]).run Try.prog w = .ok (.value (.tuple #[.int .u64 (aHi h h' (aCy l l')), .int .u64 (aC2 h h' (aCy l l'))])) w :=
    fun w => add64_run _ _ _ (by rw [u64_wrap]; omega) (by rw [u64_wrap]; omega) hcy.1 hcy.2 w
  have K := Lib.hid k; have K' := Lib.hid k'; have HC := Lib.hid hcy; clear k k' hcy
  go_enter Try.func38, Try.ntmps38
  go_wp2
  all_goals have hw0 := Below.refl w.heap.size w
  · refine bodyPost_ret (v := .tuple #[.agg #[.int .i64 0, .int .u64 0], .bool false]) (by simp [results, Try.results38, go_sem]) rfl ⟨?_, by (repeat (first | exact Below.refl _ _ | exact hw0 | refine Below.setCell ?_ (by first | (simp; done) | (simp; omega)) _ | refine Below.alloc ?_ (by first | (simp; done) | (simp; omega)) _ | refine bl_dN ?_ _ | refine Below.drew ?_))⟩
    rw [wideRes, add_over K.out K'.out ‹_› ‹_›]; rfl
  · refine bodyPost_ret (v := .tuple #[.agg #[.int .i64 (wrap64 (aHi h h' (aCy l l'))), .int .u64 (aLo l l')], .bool true]) (by simp [results, Try.results38, go_sem]) rfl ⟨?_, by (repeat (first | exact Below.refl _ _ | exact hw0 | refine Below.setCell ?_ (by first | (simp; done) | (simp; omega)) _ | refine Below.alloc ?_ (by first | (simp; done) | (simp; omega)) _ | refine bl_dN ?_ _ | refine Below.drew ?_))⟩
    obtain ⟨e1, e2, e3⟩ := add_fine K.out K'.out (Or.inr ‹_›)
    rw [wideRes, e1, e2, e3]; rfl
  · refine bodyPost_ret (v := .tuple #[.agg #[.int .i64 (wrap64 (aHi h h' (aCy l l'))), .int .u64 (aLo l l')], .bool true]) (by simp [results, Try.results38, go_sem]) rfl ⟨?_, by (repeat (first | exact Below.refl _ _ | exact hw0 | refine Below.setCell ?_ (by first | (simp; done) | (simp; omega)) _ | refine Below.alloc ?_ (by first | (simp; done) | (simp; omega)) _ | refine bl_dN ?_ _ | refine Below.drew ?_))⟩
    obtain ⟨e1, e2, e3⟩ := add_fine K.out K'.out (Or.inl ‹_›)
    rw [wideRes, e1, e2, e3]; rfl
def sLo (l l' : Int) : Int := (l + 18446744073709551616 - l' - 0) % 18446744073709551616
def sBo (l l' : Int) : Int := if l < l' + 0 then 1 else 0
def sHi (h h' b : Int) : Int := (IntKind.u64.wrap h + 18446744073709551616 - IntKind.u64.wrap h' - b) % 18446744073709551616
def sB2 (h h' b : Int) : Int := if IntKind.u64.wrap h < IntKind.u64.wrap h' + b then 1 else 0
theorem sub64_run (x y b : Int) (hx : 0 ≤ x) (hx2 : x ≤ 18446744073709551615) (hy : 0 ≤ y) (hy2 : y ≤ 18446744073709551615) (hb0 : 0 ≤ b) (hb : b ≤ 1) (w : World) :
    (callFunc 72 #[.int .u64 x, .int .u64 y, .int .u64 b]).run Try.prog w = .ok (.value (.tuple #[.int .u64 ((x + 18446744073709551616 - y - b) % 18446744073709551616), .int .u64 (if x < y + b then 1 else 0)])) w := by
  obtain ⟨X, rfl⟩ := Int.eq_ofNat_of_zero_le hx
  obtain ⟨Y, rfl⟩ := Int.eq_ofNat_of_zero_le hy
  obtain ⟨B, rfl⟩ := Int.eq_ofNat_of_zero_le hb0
  rw [run_callFunc_extern Try.func72 (by kernel_rfl) (by kernel_rfl) (by kernel_rfl) (e := sub64Entry) (by kernel_rfl), run_sub64 X Y B (by omega)]
  have e1 : (((X + 18446744073709551616 - Y - B) % 18446744073709551616 : Nat) : Int) = ((X : Int) + 18446744073709551616 - Y - B) % 18446744073709551616 := by omega
  have e2 : ((if X < Y + B then 1 else 0 : Nat) : Int) = if (X : Int) < (Y : Int) + B then 1 else 0 := by split <;> split <;> omega
  rw [e1, e2]
  rfl
theorem sub_over {h l h' l' : Int} (k : WOk h l) (k' : WOk h' l') (s : ¬ (h < 0 ↔ h' < 0)) (o : (!decide (wrap64 (sHi h h' (sBo l l')) < 0) == decide (h < 0)) = true) : wIn (wval h l - wval h' l') = false := by
  obtain ⟨a, b, c, d⟩ := k; obtain ⟨a', b', c', d'⟩ := k'
  have o' : ¬ (wrap64 (sHi h h' (sBo l l')) < 0) ↔ h < 0 := by by_cases x : wrap64 (sHi h h' (sBo l l')) < 0 <;> by_cases y : h < 0 <;> simp_all <;> omega
  clear o
  rw [wrap64_eq, sHi, sBo, u64_wrap, u64_wrap] at o'
  simp only [wIn, Bool.and_eq_false_iff, decide_eq_false_iff_not]
  unfold whi wval
  split at o' <;> omega
theorem sub_fine {h l h' l' : Int} (k : WOk h l) (k' : WOk h' l') (s : (h < 0 ↔ h' < 0) ∨ (!decide (wrap64 (sHi h h' (sBo l l')) < 0) == decide (h < 0)) = false) :
    wIn (wval h l - wval h' l') = true ∧ whi (wval h l - wval h' l') = wrap64 (sHi h h' (sBo l l')) ∧ wlo (wval h l - wval h' l') = sLo l l' := by
  obtain ⟨a, b, c, d⟩ := k; obtain ⟨a', b', c', d'⟩ := k'
  have o' : (h < 0 ↔ h' < 0) ∨ (wrap64 (sHi h h' (sBo l l')) < 0 ↔ h < 0) := by
    rcases s with s | o
    · exact Or.inl s
    · right; by_cases x : wrap64 (sHi h h' (sBo l l')) < 0 <;> by_cases y : h < 0 <;> simp_all <;> omega
  clear s
  rw [wrap64_eq, sHi, sBo, u64_wrap, u64_wrap] at *
  simp only [wIn, Bool.and_eq_true, decide_eq_true_eq]
  unfold whi wval wlo sLo
  split at o' <;> rename_i hh <;> simp only [hh, if_true, if_false] <;> refine ⟨⟨?_, ?_⟩, ?_, ?_⟩ <;> omega
theorem sub_way {a b : Prop} {x : Bool} [Decidable a] [Decidable b] (h : ¬ (a ↔ b)) (o : (!decide a == decide b) = false ∨ x = false) : (a ↔ b) ∨ x = false := by
  rcases o with o | o
  · exfalso; apply h; by_cases a <;> by_cases b <;> simp_all
  · exact Or.inr o
theorem wsub_calls (h l h' l' : Int) (w : World) (k : WOk h l) (k' : WOk h' l') :
    Calls Try.prog 40 #[.agg #[.int .i64 h, .int .u64 l], .agg #[.int .i64 h', .int .u64 l']] w fun e w' => e = .returned (wideRes (wval h l - wval h' l')) ∧ Below w.heap.size w w' := by
  have r1 : ∀ w, (callFunc 72 #[.int .u64 l, .int .u64 l', .int .u64 0]).run Try.prog w = .ok (.value (.tuple #[.int .u64 (sLo l l'), .int .u64 (sBo l l')])) w := fun w => sub64_run l l' 0 k.l1 k.l2 k'.l1 k'.l2 (by decide) (by decide) w
  have hcy : 0 ≤ sBo l l' ∧ sBo l l' ≤ 1 := by unfold sBo; split <;> omega
  have r2 : ∀ w, (callFunc 72 #[.int .u64 (IntKind.u64.wrap h), .int .u64 (IntKind.u64.wrap h'), .int .u64 (sBo l l')]).run Try.prog w = .ok (.value (.tuple #[.int .u64 (sHi h h' (sBo l l')), .int .u64 (sB2 h h' (sBo l l'))])) w :=
    fun w => sub64_run _ _ _ (by rw [u64_wrap]; omega) (by rw [u64_wrap]; omega) (by rw [u64_wrap]; omega) (by rw [u64_wrap]; omega) hcy.1 hcy.2 w
  have K := Lib.hid k; have K' := Lib.hid k'; clear k k' hcy
  go_enter Try.func40, Try.ntmps40
  go_wp2
  all_goals have hw0 := Below.refl w.heap.size w
  · refine bodyPost_ret (v := .tuple #[.agg #[.int .i64 (wrap64 (sHi h h' (sBo l l'))), .int .u64 (sLo l l')], .bool true]) (by simp [results, Try.results40, go_sem]) rfl ⟨?_, by (repeat (first | exact Below.refl _ _ | exact hw0 | refine Below.setCell ?_ (by first | (simp; done) | (simp; omega)) _ | refine Below.alloc ?_ (by first | (simp; done) | (simp; omega)) _ | refine bl_dN ?_ _ | refine Below.drew ?_))⟩
    obtain ⟨e1, e2, e3⟩ := sub_fine K.out K'.out (Or.inl ‹_›)
    rw [wideRes, e1, e2, e3]; rfl
  · refine bodyPost_ret (v := .tuple #[.agg #[.int .i64 0, .int .u64 0], .bool false]) (by simp [results, Try.results40, go_sem]) rfl ⟨?_, by (repeat (first | exact Below.refl _ _ | exact hw0 | refine Below.setCell ?_ (by first | (simp; done) | (simp; omega)) _ | refine Below.alloc ?_ (by first | (simp; done) | (simp; omega)) _ | refine bl_dN ?_ _ | refine Below.drew ?_))⟩
    have hq : (!decide (h < 0) == decide (h' < 0)) = true ∧ (!decide (wrap64 (sHi h h' (sBo l l')) < 0) == decide (h < 0)) = true := by assumption
    rw [wideRes, sub_over K.out K'.out ‹_› hq.2]; rfl
  · refine bodyPost_ret (v := .tuple #[.agg #[.int .i64 (wrap64 (sHi h h' (sBo l l'))), .int .u64 (sLo l l')], .bool true]) (by simp [results, Try.results40, go_sem]) rfl ⟨?_, by (repeat (first | exact Below.refl _ _ | exact hw0 | refine Below.setCell ?_ (by first | (simp; done) | (simp; omega)) _ | refine Below.alloc ?_ (by first | (simp; done) | (simp; omega)) _ | refine bl_dN ?_ _ | refine Below.drew ?_))⟩
    obtain ⟨e1, e2, e3⟩ := sub_fine K.out K'.out (sub_way ‹_› ‹_›)
    rw [wideRes, e1, e2, e3]; rfl
/-! Of, Fits -/
def wideV (v : Int) : Value := .agg #[.int .i64 (whi v), .int .u64 (wlo v)]
theorem wof_calls (n : Int) (w : World) (h1 : -9223372036854775808 ≤ n) (h2 : n ≤ 9223372036854775807) :
    Calls Try.prog 47 #[.int .i64 n] w fun e w' => e = .returned (wideV n) ∧ Below w.heap.size w w' := by
  have e1 : n / 9223372036854775808 = whi n := by unfold whi; omega
  have e2 : IntKind.u64.wrap n = wlo n := by rw [u64_wrap]; rfl
  have E1 := Lib.hid e1; have E2 := Lib.hid e2; clear e1 e2
  have H := Lib.hid (And.intro h1 h2); clear h1 h2
  go_enter Try.func47, Try.ntmps47
  go_wp2
  have hw0 := Below.refl w.heap.size w
  refine bodyPost_ret (v := .agg #[.int .i64 (n / 9223372036854775808), .int .u64 (IntKind.u64.wrap n)]) (by simp [results, Try.results47, go_sem]) rfl ⟨?_, by (repeat (first | exact Below.refl _ _ | exact hw0 | refine Below.setCell ?_ (by first | (simp; done) | (simp; omega)) _ | refine Below.alloc ?_ (by first | (simp; done) | (simp; omega)) _ | refine bl_dN ?_ _ | refine Below.drew ?_))⟩
  rw [E1.out, E2.out, wideV]
def fit64 (v : Int) : Bool := decide (-9223372036854775808 ≤ v) && decide (v ≤ 9223372036854775807)
def fitRes (v : Int) : Value := if fit64 v then .tuple #[.int .i64 v, .bool true] else .tuple #[.int .i64 0, .bool false]
theorem fit_yes {h l : Int} (k : WOk h l) (e1 : whi (wrap64 l) = h) (e2 : wlo (wrap64 l) = l) : fit64 (wval h l) = true ∧ wval h l = wrap64 l := by
  have := wval_of (wrap64 l)
  rw [e1, e2] at this
  refine ⟨?_, this⟩
  rw [this, wrap64_eq]
  simp only [fit64, Bool.and_eq_true, decide_eq_true_eq]; omega
theorem fit_no {h l : Int} (k : WOk h l) (e : ¬ (whi (wrap64 l) = h ∧ wlo (wrap64 l) = l)) : fit64 (wval h l) = false := by
  obtain ⟨a, b, c, d⟩ := k
  simp only [fit64, Bool.and_eq_false_iff, decide_eq_false_iff_not]
  rw [wrap64_eq] at e
  unfold whi wlo at e
  unfold wval
  omega
theorem wfits_calls (h l : Int) (w : World) (k : WOk h l) :
    Calls Try.prog 42 #[.agg #[.int .i64 h, .int .u64 l]] w fun e w' => e = .returned (fitRes (wval h l)) ∧ Below w.heap.size w w' := by
  have hb1 : -9223372036854775808 ≤ wrap64 l ∧ wrap64 l ≤ 9223372036854775807 := by rw [wrap64_eq]; omega
  have HB1 := Lib.hid hb1; have K := Lib.hid k; clear hb1 k
  go_enter Try.func42, Try.ntmps42
  go_wp2_with fail
  first | with_reducible refine name_wp ?_ | with_reducible refine name_calls ?_
  intro W hWeq
  have g0 : W.heap[w.heap.size]? = some (.cells #[.int .i64 h, .int .u64 l] 57) := by rw [hWeq]; repeat (first | (with_reducible exact blk_newAt _ _ (by simp)) | with_reducible refine blk_drew ?_ | with_reducible refine blk_dN ?_ _ | with_reducible refine blk_old ?_ _)
  have hw : Below w.heap.size w W := by rw [hWeq]; repeat (first | with_reducible exact Below.refl _ _ | with_reducible refine Below.drew ?_ | with_reducible refine bl_dN ?_ _ | with_reducible refine Below.alloc ?_ (by simp <;> omega) _)
  clear hWeq
  have hz : w.heap.size + 1 ≤ W.heap.size := by have := blk_lt g0; omega
  have c0_0 : W.cell? ⟨w.heap.size, 0, none⟩ = some (.int .i64 h) := blk_cell g0 0
  have c0_1 : W.cell? ⟨w.heap.size, 1, none⟩ = some (.int .u64 l) := blk_cell g0 1
  have f0 : ∀ j, W.frozen? ⟨w.heap.size, j, none⟩ = false := blk_free g0
  have hB : Below W.heap.size W W := Below.refl _ _
  have G0 := Lib.hid g0; clear g0
  have F0 := Lib.hid f0; clear f0
  have Hw := Lib.hid hw; clear hw
  by_cases e1 : whi (wrap64 l) = h
  · by_cases e2 : wlo (wrap64 l) = l
    · obtain ⟨x1, x2⟩ := fit_yes K.out e1 e2
      have X1 := Lib.hid x1; have X2 := Lib.hid x2; have E1 := Lib.hid e1; have E2 := Lib.hid e2; clear x1 x2 e1 e2
      have hB := hB.drew
      refine region_seq (fun w' => Below W.heap.size W w') [(0, true), (2, true), (1, false), (3, true)] (by kernel_rfl) (by kernel_rfl) (fun _ _ _ _ h => h) hB ?_
      try generalize World.drew _ = wS at hB ⊢
      refine seq_take (v := ?_) (a' := ?_) (some 8) rfl rfl (by rfl) ?_ ?_ ?_
      rotate_left; rotate_left
      · intro w' hS; go_simp; with_reducible rfl
      · simp only [Act.put, List.setIfInBounds_toArray, List.set_cons_zero, List.set_cons_succ]; rfl
      refine seq_take (v := ?_) (a' := ?_) (some 10) rfl rfl (by rfl) ?_ ?_ ?_
      rotate_left; rotate_left
      · intro w' hS; have s0_0 := cb hS c0_0; have s0_1 := cb hS c0_1; go_simp; with_reducible rfl
      · simp only [Act.put, List.setIfInBounds_toArray, List.set_cons_zero, List.set_cons_succ]; rfl
      refine seq_call (args := ?_) Try.func47 (by kernel_rfl) rfl (some 9) rfl rfl (by rfl) rfl ?_ ?_
      rotate_left
      · simp only [List.map_toArray, List.map_cons, List.map_nil]; go_simp; rfl
      with_reducible refine (wof_calls _ _ HB1.out.1 HB1.out.2).mono ?_
      rintro e w' ⟨rfl, hb⟩
      unfold wideV
      refine ⟨_, rfl, bl_next (by repeat (first | with_reducible exact hB | refine Below.alloc ?_ (by have := hB.size; simp; omega) _ | refine bl_dN ?_ _ | refine Below.drew ?_ | refine Below.setCell ?_ (by have := hB.size; simp; omega) _)) hb, ?_⟩
      have hB := bl_next (by repeat (first | with_reducible exact hB | refine Below.alloc ?_ (by have := hB.size; simp; omega) _ | refine bl_dN ?_ _ | refine Below.drew ?_ | refine Below.setCell ?_ (by have := hB.size; simp; omega) _)) hb; clear hb
      simp only [Act.put, List.setIfInBounds_toArray, List.set_cons_zero, List.set_cons_succ]
      refine seq_take (v := ?_) (a' := ?_) (some 11) rfl rfl (by rfl) ?_ ?_ ?_
      rotate_left; rotate_left
      · intro w' hS; have e1 := E1.out; have e2 := E2.out; go_simp; with_reducible rfl
      · simp only [Act.put, List.setIfInBounds_toArray, List.set_cons_zero, List.set_cons_succ]; rfl
      refine seq_done ?_
      go_wp2
      go_ret2
      exact ⟨by rw [fitRes, X1.out, X2.out]; rfl, bl_from Hw.out hB⟩
    · have x1 := fit_no K.out (fun q => e2 q.2)
      have X1 := Lib.hid x1; have E1 := Lib.hid e1; have E2 := Lib.hid e2; clear x1 e1 e2
      have hB := hB.drew
      refine region_seq (fun w' => Below W.heap.size W w') [(0, true), (2, true), (1, false), (3, true)] (by kernel_rfl) (by kernel_rfl) (fun _ _ _ _ h => h) hB ?_
      try generalize World.drew _ = wS at hB ⊢
      refine seq_take (v := ?_) (a' := ?_) (some 8) rfl rfl (by rfl) ?_ ?_ ?_
      rotate_left; rotate_left
      · intro w' hS; go_simp; with_reducible rfl
      · simp only [Act.put, List.setIfInBounds_toArray, List.set_cons_zero, List.set_cons_succ]; rfl
      refine seq_take (v := ?_) (a' := ?_) (some 10) rfl rfl (by rfl) ?_ ?_ ?_
      rotate_left; rotate_left
      · intro w' hS; have s0_0 := cb hS c0_0; have s0_1 := cb hS c0_1; go_simp; with_reducible rfl
      · simp only [Act.put, List.setIfInBounds_toArray, List.set_cons_zero, List.set_cons_succ]; rfl
      refine seq_call (args := ?_) Try.func47 (by kernel_rfl) rfl (some 9) rfl rfl (by rfl) rfl ?_ ?_
      rotate_left
      · simp only [List.map_toArray, List.map_cons, List.map_nil]; go_simp; rfl
      with_reducible refine (wof_calls _ _ HB1.out.1 HB1.out.2).mono ?_
      rintro e w' ⟨rfl, hb⟩
      unfold wideV
      refine ⟨_, rfl, bl_next (by repeat (first | with_reducible exact hB | refine Below.alloc ?_ (by have := hB.size; simp; omega) _ | refine bl_dN ?_ _ | refine Below.drew ?_ | refine Below.setCell ?_ (by have := hB.size; simp; omega) _)) hb, ?_⟩
      have hB := bl_next (by repeat (first | with_reducible exact hB | refine Below.alloc ?_ (by have := hB.size; simp; omega) _ | refine bl_dN ?_ _ | refine Below.drew ?_ | refine Below.setCell ?_ (by have := hB.size; simp; omega) _)) hb; clear hb
      simp only [Act.put, List.setIfInBounds_toArray, List.set_cons_zero, List.set_cons_succ]
      refine seq_take (v := ?_) (a' := ?_) (some 11) rfl rfl (by rfl) ?_ ?_ ?_
      rotate_left; rotate_left
      · intro w' hS; have e1 := E1.out; have e2 := E2.out; go_simp; with_reducible rfl
      · simp only [Act.put, List.setIfInBounds_toArray, List.set_cons_zero, List.set_cons_succ]; rfl
      refine seq_done ?_
      go_wp2
      go_ret2
      exact ⟨by rw [fitRes, X1.out]; rfl, bl_from Hw.out hB⟩
  · have x1 := fit_no K.out (fun q => e1 q.1)
    have X1 := Lib.hid x1; have E1 := Lib.hid e1; clear x1 e1
    have hB := hB.drew
    refine region_seq (fun w' => Below W.heap.size W w') [(0, true), (2, true), (1, false), (3, true)] (by kernel_rfl) (by kernel_rfl) (fun _ _ _ _ h => h) hB ?_
    try generalize World.drew _ = wS at hB ⊢
    refine seq_take (v := ?_) (a' := ?_) (some 8) rfl rfl (by rfl) ?_ ?_ ?_
    rotate_left; rotate_left
    · intro w' hS; go_simp; with_reducible rfl
    · simp only [Act.put, List.setIfInBounds_toArray, List.set_cons_zero, List.set_cons_succ]; rfl
    refine seq_take (v := ?_) (a' := ?_) (some 10) rfl rfl (by rfl) ?_ ?_ ?_
    rotate_left; rotate_left
    · intro w' hS; have s0_0 := cb hS c0_0; have s0_1 := cb hS c0_1; go_simp; with_reducible rfl
    · simp only [Act.put, List.setIfInBounds_toArray, List.set_cons_zero, List.set_cons_succ]; rfl
    refine seq_call (args := ?_) Try.func47 (by kernel_rfl) rfl (some 9) rfl rfl (by rfl) rfl ?_ ?_
    rotate_left
    · simp only [List.map_toArray, List.map_cons, List.map_nil]; go_simp; rfl
    with_reducible refine (wof_calls _ _ HB1.out.1 HB1.out.2).mono ?_
    rintro e w' ⟨rfl, hb⟩
    unfold wideV
    refine ⟨_, rfl, bl_next (by repeat (first | with_reducible exact hB | refine Below.alloc ?_ (by have := hB.size; simp; omega) _ | refine bl_dN ?_ _ | refine Below.drew ?_ | refine Below.setCell ?_ (by have := hB.size; simp; omega) _)) hb, ?_⟩
    have hB := bl_next (by repeat (first | with_reducible exact hB | refine Below.alloc ?_ (by have := hB.size; simp; omega) _ | refine bl_dN ?_ _ | refine Below.drew ?_ | refine Below.setCell ?_ (by have := hB.size; simp; omega) _)) hb; clear hb
    simp only [Act.put, List.setIfInBounds_toArray, List.set_cons_zero, List.set_cons_succ]
    refine seq_take (v := ?_) (a' := ?_) (some 11) rfl rfl (by rfl) ?_ ?_ ?_
    rotate_left; rotate_left
    · intro w' hS; have e1 := E1.out; go_simp; with_reducible rfl
    · simp only [Act.put, List.setIfInBounds_toArray, List.set_cons_zero, List.set_cons_succ]; rfl
    refine seq_done ?_
    go_wp2
    go_ret2
    exact ⟨by rw [fitRes, X1.out]; rfl, bl_from Hw.out hB⟩
/-! Compare -/
def sgn (a b : Int) : Int := if a < b then -1 else if b < a then 1 else 0
theorem cmpI_calls (a b : Int) (w : World) : Calls Try.prog 75 #[.int .i64 a, .int .i64 b] w fun e w' => e = .returned (.int .i64 (sgn a b)) ∧ w = w' := by
  by_cases h1 : a < b
  · go_enter Try.func75, Try.ntmps75
    go_wp2
    go_ret
    exact ⟨ret_int (by unfold sgn; split <;> (try split) <;> omega), rfl⟩
  · by_cases h2 : b < a
    · go_enter Try.func75, Try.ntmps75
      go_wp2
      go_ret
      exact ⟨ret_int (by unfold sgn; split <;> (try split) <;> omega), rfl⟩
    · go_enter Try.func75, Try.ntmps75
      go_wp2
      go_ret
      exact ⟨ret_int (by unfold sgn; split <;> (try split) <;> omega), rfl⟩
theorem cmpU_calls (a b : Int) (w : World) : Calls Try.prog 76 #[.int .u64 a, .int .u64 b] w fun e w' => e = .returned (.int .i64 (sgn a b)) ∧ w = w' := by
  by_cases h1 : a < b
  · go_enter Try.func76, Try.ntmps76
    go_wp2
    go_ret
    exact ⟨ret_int (by unfold sgn; split <;> (try split) <;> omega), rfl⟩
  · by_cases h2 : b < a
    · go_enter Try.func76, Try.ntmps76
      go_wp2
      go_ret
      exact ⟨ret_int (by unfold sgn; split <;> (try split) <;> omega), rfl⟩
    · go_enter Try.func76, Try.ntmps76
      go_wp2
      go_ret
      exact ⟨ret_int (by unfold sgn; split <;> (try split) <;> omega), rfl⟩
theorem or_calls (g : Nat) (a b : Int) (w : World) (h0 : w.cell? ⟨g, 0, none⟩ = some (.int .i64 a)) (h1 : w.cell? ⟨g, 1, none⟩ = some (.int .i64 b)) :
    Calls Try.prog 74 #[.slice (some ⟨g, 0, none⟩) 2 2] w fun e w' => e = .returned (.int .i64 (if a = 0 then b else a)) ∧ w = w' := by
  by_cases ha : a = 0
  · subst ha
    by_cases hb : b = 0
    · subst hb
      go_enter Try.func74, Try.ntmps74
      go_wp2_with fail
      refine wp_loop_rounds 3 ?_; rw [rounds_succ]
      go_wp2
      rw [rounds_succ]
      go_wp2
      rw [rounds_succ]
      go_wp2
      go_ret
      exact ⟨rfl, rfl⟩
    · have hb' : (b != 0) = true := by simpa using hb
      go_enter Try.func74, Try.ntmps74
      go_wp2_with fail
      refine wp_loop_rounds 3 ?_; rw [rounds_succ]
      go_wp2
      rw [rounds_succ]
      go_wp2
      go_ret
      exact ⟨rfl, rfl⟩
  · have ha' : (a != 0) = true := by simpa using ha
    go_enter Try.func74, Try.ntmps74
    go_wp2_with fail
    refine wp_loop_rounds 3 ?_; rw [rounds_succ]
    go_wp2
    go_ret
    exact ⟨rfl, rfl⟩
theorem bl_eq {w a : World} (h : w = a) : Below w.heap.size w a := h ▸ Below.refl _ _
theorem cmpIB_calls (a b : Int) (w : World) : Calls Try.prog 75 #[.int .i64 a, .int .i64 b] w fun e w' => e = .returned (.int .i64 (sgn a b)) ∧ Below w.heap.size w w' := (cmpI_calls a b w).mono fun _ _ h => ⟨h.1, bl_eq h.2⟩
theorem cmpUB_calls (a b : Int) (w : World) : Calls Try.prog 76 #[.int .u64 a, .int .u64 b] w fun e w' => e = .returned (.int .i64 (sgn a b)) ∧ Below w.heap.size w w' := (cmpU_calls a b w).mono fun _ _ h => ⟨h.1, bl_eq h.2⟩
def orI (a b : Int) : Int := if a = 0 then b else a
theorem orB_calls (g : Nat) (a b : Int) (w : World) (h0 : w.cell? ⟨g, 0, none⟩ = some (.int .i64 a)) (h1 : w.cell? ⟨g, 1, none⟩ = some (.int .i64 b)) :
    Calls Try.prog 74 #[.slice (some ⟨g, 0, none⟩) 2 2] w fun e w' => e = .returned (.int .i64 (orI a b)) ∧ Below w.heap.size w w' := (or_calls g a b w h0 h1).mono fun _ _ h => ⟨h.1, bl_eq h.2⟩
theorem sgn_val {h l h' l' : Int} (k : WOk h l) (k' : WOk h' l') : (if sgn h h' = 0 then sgn l l' else sgn h h') = sgn (wval h l) (wval h' l') := by
  obtain ⟨a, b, c, d⟩ := k; obtain ⟨a', b', c', d'⟩ := k'
  have e1 : h < h' → wval h l < wval h' l' := by unfold wval; omega
  have e2 : h' < h → wval h' l' < wval h l := by unfold wval; omega
  have e3 : h = h' → (wval h l < wval h' l' ↔ l < l') ∧ (wval h' l' < wval h l ↔ l' < l) := by unfold wval; omega
  rcases Int.lt_trichotomy h h' with g | g | g
  · have := e1 g
    simp only [sgn, if_pos g, if_pos this]; rfl
  · subst g
    have := e3 rfl
    simp [sgn, this.1, this.2]
  · have := e2 g
    simp only [sgn, if_pos g, if_pos this, if_neg (show ¬ h < h' by omega), if_neg (show ¬ wval h l < wval h' l' by omega)]; rfl
set_option maxHeartbeats 800000 in
theorem wcmp_calls (h l h' l' : Int) (w : World) (k : WOk h l) (k' : WOk h' l') :
    Calls Try.prog 49 #[.agg #[.int .i64 h, .int .u64 l], .agg #[.int .i64 h', .int .u64 l']] w fun e w' => e = .returned (.int .i64 (sgn (wval h l) (wval h' l'))) ∧ Below w.heap.size w w' := by
  have K := Lib.hid k; have K' := Lib.hid k'; clear k k'
  go_enter Try.func49, Try.ntmps49
  go_wp2_with fail
  first | with_reducible refine name_wp ?_ | with_reducible refine name_calls ?_
  intro W hWeq
  have g0 : W.heap[w.heap.size]? = some (.cells #[.int .i64 h, .int .u64 l] 57) := by rw [hWeq]; repeat (first | (with_reducible exact blk_newAt _ _ (by simp)) | with_reducible refine blk_drew ?_ | with_reducible refine blk_dN ?_ _ | with_reducible refine blk_old ?_ _)
  have g1 : W.heap[w.heap.size + 1]? = some (.cells #[.int .i64 h', .int .u64 l'] 57) := by rw [hWeq]; repeat (first | (with_reducible exact blk_newAt _ _ (by simp)) | with_reducible refine blk_drew ?_ | with_reducible refine blk_dN ?_ _ | with_reducible refine blk_old ?_ _)
  have hw : Below w.heap.size w W := by rw [hWeq]; repeat (first | with_reducible exact Below.refl _ _ | with_reducible refine Below.drew ?_ | with_reducible refine bl_dN ?_ _ | with_reducible refine Below.alloc ?_ (by simp <;> omega) _)
  clear hWeq
  have hz : w.heap.size + 2 ≤ W.heap.size := by have := blk_lt g1; omega
  have c0_0 : W.cell? ⟨w.heap.size, 0, none⟩ = some (.int .i64 h) := blk_cell g0 0
  have c0_1 : W.cell? ⟨w.heap.size, 1, none⟩ = some (.int .u64 l) := blk_cell g0 1
  have f0 : ∀ j, W.frozen? ⟨w.heap.size, j, none⟩ = false := blk_free g0
  have c1_0 : W.cell? ⟨w.heap.size + 1, 0, none⟩ = some (.int .i64 h') := blk_cell g1 0
  have c1_1 : W.cell? ⟨w.heap.size + 1, 1, none⟩ = some (.int .u64 l') := blk_cell g1 1
  have f1 : ∀ j, W.frozen? ⟨w.heap.size + 1, j, none⟩ = false := blk_free g1
  have hB : Below W.heap.size W W := Below.refl _ _
  have G0 := Lib.hid g0; clear g0
  have F0 := Lib.hid f0; clear f0
  have G1 := Lib.hid g1; clear g1
  have F1 := Lib.hid f1; clear f1
  have Hw := Lib.hid hw; clear hw
  have hB := hB.drew
  refine region_seq (fun w' => Below W.heap.size W w') [(0, true), (1, true), (2, true), (3, true), (5, true), (6, true), (7, true), (8, true), (4, false), (9, false), (10, false), (11, false), (12, true)] (by kernel_rfl) (by kernel_rfl) (fun _ _ _ _ h => h) hB ?_
  try generalize World.drew _ = wS at hB ⊢
  refine seq_take (v := ?_) (a' := ?_) (some 5) rfl rfl (by rfl) ?_ ?_ ?_
  rotate_left; rotate_left
  · intro w' hS; go_simp; with_reducible rfl
  · simp only [Act.put, List.setIfInBounds_toArray, List.set_cons_zero, List.set_cons_succ]; rfl
  refine seq_take (v := ?_) (a' := ?_) (some 6) rfl rfl (by rfl) ?_ ?_ ?_
  rotate_left; rotate_left
  · intro w' hS; have s0_0 := cb hS c0_0; have s0_1 := cb hS c0_1; have s1_0 := cb hS c1_0; have s1_1 := cb hS c1_1; go_simp; with_reducible rfl
  · simp only [Act.put, List.setIfInBounds_toArray, List.set_cons_zero, List.set_cons_succ]; rfl
  refine seq_take (v := ?_) (a' := ?_) (some 7) rfl rfl (by rfl) ?_ ?_ ?_
  rotate_left; rotate_left
  · intro w' hS; go_simp; with_reducible rfl
  · simp only [Act.put, List.setIfInBounds_toArray, List.set_cons_zero, List.set_cons_succ]; rfl
  refine seq_take (v := ?_) (a' := ?_) (some 8) rfl rfl (by rfl) ?_ ?_ ?_
  rotate_left; rotate_left
  · intro w' hS; have s0_0 := cb hS c0_0; have s0_1 := cb hS c0_1; have s1_0 := cb hS c1_0; have s1_1 := cb hS c1_1; go_simp; with_reducible rfl
  · simp only [Act.put, List.setIfInBounds_toArray, List.set_cons_zero, List.set_cons_succ]; rfl
  refine seq_take (v := ?_) (a' := ?_) (some 10) rfl rfl (by rfl) ?_ ?_ ?_
  rotate_left; rotate_left
  · intro w' hS; go_simp; with_reducible rfl
  · simp only [Act.put, List.setIfInBounds_toArray, List.set_cons_zero, List.set_cons_succ]; rfl
  refine seq_take (v := ?_) (a' := ?_) (some 11) rfl rfl (by rfl) ?_ ?_ ?_
  rotate_left; rotate_left
  · intro w' hS; have s0_0 := cb hS c0_0; have s0_1 := cb hS c0_1; have s1_0 := cb hS c1_0; have s1_1 := cb hS c1_1; go_simp; with_reducible rfl
  · simp only [Act.put, List.setIfInBounds_toArray, List.set_cons_zero, List.set_cons_succ]; rfl
  refine seq_take (v := ?_) (a' := ?_) (some 12) rfl rfl (by rfl) ?_ ?_ ?_
  rotate_left; rotate_left
  · intro w' hS; go_simp; with_reducible rfl
  · simp only [Act.put, List.setIfInBounds_toArray, List.set_cons_zero, List.set_cons_succ]; rfl
  refine seq_take (v := ?_) (a' := ?_) (some 13) rfl rfl (by rfl) ?_ ?_ ?_
  rotate_left; rotate_left
  · intro w' hS; have s0_0 := cb hS c0_0; have s0_1 := cb hS c0_1; have s1_0 := cb hS c1_0; have s1_1 := cb hS c1_1; go_simp; with_reducible rfl
  · simp only [Act.put, List.setIfInBounds_toArray, List.set_cons_zero, List.set_cons_succ]; rfl
  refine seq_call (args := ?_) Try.func75 (by kernel_rfl) rfl (some 9) rfl rfl (by rfl) rfl ?_ ?_
  rotate_left
  · simp only [List.map_toArray, List.map_cons, List.map_nil]; go_simp; rfl
  with_reducible refine (cmpIB_calls _ _ _).mono ?_
  rintro e w' ⟨rfl, hb⟩
  refine ⟨_, rfl, bl_next (by repeat (first | with_reducible exact hB | refine Below.alloc ?_ (by have := hB.size; simp; omega) _ | refine bl_dN ?_ _ | refine Below.drew ?_ | refine Below.setCell ?_ (by have := hB.size; simp; omega) _)) hb, ?_⟩
  have hB := bl_next (by repeat (first | with_reducible exact hB | refine Below.alloc ?_ (by have := hB.size; simp; omega) _ | refine bl_dN ?_ _ | refine Below.drew ?_ | refine Below.setCell ?_ (by have := hB.size; simp; omega) _)) hb; clear hb
  simp only [Act.put, List.setIfInBounds_toArray, List.set_cons_zero, List.set_cons_succ]
  refine seq_call (args := ?_) Try.func76 (by kernel_rfl) rfl (some 14) rfl rfl (by rfl) rfl ?_ ?_
  rotate_left
  · simp only [List.map_toArray, List.map_cons, List.map_nil]; go_simp; rfl
  with_reducible refine (cmpUB_calls _ _ _).mono ?_
  rintro e w' ⟨rfl, hb⟩
  refine ⟨_, rfl, bl_next (by repeat (first | with_reducible exact hB | refine Below.alloc ?_ (by have := hB.size; simp; omega) _ | refine bl_dN ?_ _ | refine Below.drew ?_ | refine Below.setCell ?_ (by have := hB.size; simp; omega) _)) hb, ?_⟩
  have hB := bl_next (by repeat (first | with_reducible exact hB | refine Below.alloc ?_ (by have := hB.size; simp; omega) _ | refine bl_dN ?_ _ | refine Below.drew ?_ | refine Below.setCell ?_ (by have := hB.size; simp; omega) _)) hb; clear hb
  simp only [Act.put, List.setIfInBounds_toArray, List.set_cons_zero, List.set_cons_succ]
  refine seq_op (some 15) rfl rfl (by rfl) ?_
  apply Exists.intro; apply Exists.intro; apply And.intro
  · go_simp; first | exact ⟨rfl, rfl⟩ | rfl
  apply Exists.intro; apply And.intro
  · simp only [Act.put, List.setIfInBounds_toArray, List.set_cons_zero, List.set_cons_succ]; rfl
  apply And.intro
  · exact (by repeat (first | with_reducible exact hB | refine Below.alloc ?_ (by have := hB.size; simp; omega) _ | refine bl_dN ?_ _ | refine Below.drew ?_ | refine Below.setCell ?_ (by have := hB.size; simp; omega) _))
  refine seq_call (args := ?_) Try.func74 (by kernel_rfl) rfl (some 16) rfl rfl (by rfl) rfl ?_ ?_
  rotate_left
  · simp only [List.map_toArray, List.map_cons, List.map_nil]; go_simp; rfl
  with_reducible refine (orB_calls _ _ _ _ (blk_cell (blk_new _ _) 0) (blk_cell (blk_new _ _) 1)).mono ?_
  rintro e w' ⟨rfl, hb⟩
  refine ⟨_, rfl, bl_next (by repeat (first | with_reducible exact hB | refine Below.alloc ?_ (by have := hB.size; simp; omega) _ | refine bl_dN ?_ _ | refine Below.drew ?_ | refine Below.setCell ?_ (by have := hB.size; simp; omega) _)) hb, ?_⟩
  have hB := bl_next (by repeat (first | with_reducible exact hB | refine Below.alloc ?_ (by have := hB.size; simp; omega) _ | refine bl_dN ?_ _ | refine Below.drew ?_ | refine Below.setCell ?_ (by have := hB.size; simp; omega) _)) hb; clear hb
  simp only [Act.put, List.setIfInBounds_toArray, List.set_cons_zero, List.set_cons_succ]
  refine seq_take (v := ?_) (a' := ?_) (some 4) rfl rfl (by rfl) ?_ ?_ ?_
  rotate_left; rotate_left
  · intro w' hS; go_simp; with_reducible rfl
  · simp only [Act.put, List.setIfInBounds_toArray, List.set_cons_zero, List.set_cons_succ]; rfl
  refine seq_done ?_
  go_wp2
  go_ret
  exact ⟨ret_int (by rw [orI, sgn_val K.out K'.out]), bl_from Hw.out hB⟩
end Go.Proofs.Ytdcceaafiammfaa
