import Derived.Test.YtdcceaafiammfaaDoorRows
import Derived.Test.YtdcceaafiammfaaDoorShelf
import Derived.Test.YtdcceaafiammfaaDoorKd
import Derived.Test.YtdcceaafiammfaaDoorTie
import Derived.LaidMore
import Derived.OpenShut
import Derived.WalkSmall
import Derived.Stop.LaidErr
import Derived.Lib.LaidTab
namespace Go.Proofs.YtdcceaafiammfaaDoor
open Go.RowKit
set_option linter.unusedVariables false
set_option linter.unusedSimpArgs false
theorem opStr : Opens Tryd.prog 9 kStr := opens_str Tryd.underlying9 (by kernel_rfl)
theorem opI64 : Opens Tryd.prog 2 (kInt .i64) := opens_int Tryd.underlying2 (by kernel_rfl)
theorem opU32 : Opens Tryd.prog 30 (kInt .u32) := opens_int Tryd.underlying30 (by kernel_rfl)
/-! ### What the package-level variables hold -/
def sufL : List (List UInt8 × Int) := [([], 1), ([107], 1000), ([75, 105], 1024), ([77], 1000000), ([77, 105], 1048576), ([71], 1000000000), ([71, 105], 1073741824), ([84], 1000000000000), ([84, 105], 1099511627776)]
def sufA : Array Value := #[.string ⟨#[]⟩, .int .i64 1, .string ⟨#[107]⟩, .int .i64 1000, .string ⟨#[75, 105]⟩, .int .i64 1024, .string ⟨#[77]⟩, .int .i64 1000000, .string ⟨#[77, 105]⟩, .int .i64 1048576, .string ⟨#[71]⟩, .int .i64 1000000000, .string ⟨#[71, 105]⟩, .int .i64 1073741824, .string ⟨#[84]⟩, .int .i64 1000000000000, .string ⟨#[84, 105]⟩, .int .i64 1099511627776]
structure QV (w : World) : Prop where
  tab : Lib.TabIs Tryd.prog w "internal/strconv.uint64pow10" .u64 Lib.pow10Tab
  err : ∃ tp p, w.var? Tryd.prog "strconv.ErrRange" = some #[.iface tp p]
  suf : w.var? Tryd.prog "scutage/quantity.suffixes" = some sufA
theorem var_lt {P : Program} {w : World} {n : String} {g : Nat} {cs : Array Value} (hg : P.globalNamed n = some g) (h : w.var? P n = some cs) : g < w.heap.size := by
  unfold World.var? at h
  rw [hg] at h
  simp only [Option.bind_some] at h
  rcases Nat.lt_or_ge g w.heap.size with q | q
  · exact q
  · rw [Array.getElem?_eq_none q] at h; cases h
theorem QV.below {w w' : World} (h : QV w) (hb : Below w.heap.size w w') : QV w' := by
  obtain ⟨tab, ⟨tp, p, err⟩, suf⟩ := h
  obtain ⟨g1, h1⟩ := Option.isSome_iff_exists.1 (show (Tryd.prog.globalNamed "internal/strconv.uint64pow10").isSome = true by kernel_rfl)
  obtain ⟨g2, h2⟩ := Option.isSome_iff_exists.1 (show (Tryd.prog.globalNamed "strconv.ErrRange").isSome = true by kernel_rfl)
  obtain ⟨g3, h3⟩ := Option.isSome_iff_exists.1 (show (Tryd.prog.globalNamed "scutage/quantity.suffixes").isSome = true by kernel_rfl)
  exact ⟨var?_below hb h1 (var_lt h1 tab) tab, ⟨tp, p, var?_below hb h2 (var_lt h2 err) err⟩, var?_below hb h3 (var_lt h3 suf) suf⟩
def laidD : List (String × DataW Unit) := [("math/bits.deBruijn32tab", Rows.laid_math_bits_deBruijn32tab), ("math/bits.deBruijn64tab", Rows.laid_math_bits_deBruijn64tab), ("internal/strconv.uint64pow10", Rows.laid_internal_strconv_uint64pow10), ("strconv.ErrRange", Rows.laid_strconv_ErrRange), ("strconv.ErrSyntax", Rows.laid_strconv_ErrSyntax), ("scutage/quantity.suffixes", Rows.laid_scutage_quantity_suffixes)]
theorem suf_elem {H : Type} {enc : TypeId × Value → H} {w : World} {base : Nat} {sp : Nat → Bool} {held : Bool} {fuel : Nat} {cs : List Value} {p : List MemPlace} {l : List UInt8} {f : Int}
    (h : DataW.trod enc Tryd.prog w base sp held fuel 41 cs = some (.agg [.lit (.string l), .lit (.int .i64 f)], p)) : cs = [.string ⟨l.toArray⟩, .int .i64 f] := by
  obtain ⟨xs, n, rfl, hx, hl, hn, hi⟩ := DataW.trod_struct Tryd.underlying41 h
  have hc : Tryd.prog.cellsOf 41 = 2 := by kernel_rfl
  rw [hc] at hl
  have c1 : Tryd.prog.cellsOf 9 = 1 := by kernel_rfl
  have c2 : Tryd.prog.cellsOf 2 = 1 := by kernel_rfl
  have h0 := hi 0 _ rfl
  have h1 := hi 1 _ rfl
  match xs, hn, cs, hl, hx with
  | [x0, x1], _, [a, b], _, hx =>
    have h0 : DataW.trod enc Tryd.prog w base sp held n 9 (List.take (Tryd.prog.cellsOf 9) [a, b]) = some x0 := h0
    have h1 : DataW.trod enc Tryd.prog w base sp held n 2 (List.take (Tryd.prog.cellsOf 2) [b]) = some x1 := h1
    rw [c1] at h0; rw [c2] at h1
    simp only [List.take_succ_cons, List.take_zero] at h0 h1
    simp only [List.map_cons, List.map_nil, Prod.mk.injEq, DataW.agg.injEq, List.cons.injEq, and_true] at hx
    obtain ⟨⟨e0, e1⟩, _⟩ := hx
    obtain ⟨s, k1, k2, _⟩ := DataW.trod_string Tryd.underlying9 h0
    obtain ⟨z, m1, m2, _⟩ := DataW.trod_int Tryd.underlying2 h1
    rw [k2] at e0; rw [m2] at e1
    simp only [List.cons.injEq, and_true, DataW.lit.injEq, Lit.string.injEq, Lit.int.injEq, true_and] at k1 m1 e0 e1
    rw [k1, m1, e0, e1]
theorem take2 {α : Type} {cs : List α} {k n : Nat} (h : k + 2 ≤ cs.length) {a b : α} (hk : (cs.drop k).take 2 = [a, b]) : cs[k]? = some a ∧ cs[k + 1]? = some b := by
  have e0 : ((cs.drop k).take 2)[0]? = some a := by rw [hk]; rfl
  have e1 : ((cs.drop k).take 2)[1]? = some b := by rw [hk]; rfl
  simp only [List.getElem?_take, List.getElem?_drop] at e0 e1
  exact ⟨by simpa using e0, by simpa using e1⟩
theorem suf_all {H : Type} {enc : TypeId × Value → H} {w : World} {base : Nat} {sp : Nat → Bool} {held : Bool} {fuel : Nat} {cs : List Value} {p : List MemPlace}
    (h : DataW.trod enc Tryd.prog w base sp held fuel 42 cs = some (.agg (sufL.map fun x => .agg [.lit (.string x.1), .lit (.int .i64 x.2)]), p)) : cs = sufA.toList := by
  obtain ⟨xs, m, rfl, hx, hl, hn, hel⟩ := DataW.trod_array Tryd.underlying42 h
  have hc : Tryd.prog.cellsOf 42 = 18 := by kernel_rfl
  have he : Tryd.prog.cellsOf 41 = 2 := by kernel_rfl
  rw [hc] at hl
  rw [he] at hel
  simp only [Prod.mk.injEq, DataW.agg.injEq] at hx
  obtain ⟨hx, _⟩ := hx
  have key : ∀ i (hi : i < 9), (cs.drop (i * 2)).take 2 = [.string ⟨((sufL[i]'hi).1).toArray⟩, .int .i64 (sufL[i]'hi).2] := fun i hi => by
    have h0 := hel i hi
    have hxi : i < xs.length := by omega
    rw [List.getElem?_eq_getElem hxi] at h0
    have e : (xs[i]'hxi).1 = .agg [.lit (.string (sufL[i]'hi).1), .lit (.int .i64 (sufL[i]'hi).2)] := by
      have := congrArg (fun l => l[i]?) hx
      simp only [List.getElem?_map, List.getElem?_eq_getElem hxi, List.getElem?_eq_getElem (l := sufL) hi, Option.map_some, Option.some.injEq] at this
      exact this.symm
    exact suf_elem (by rw [h0]; rw [← e])
  have all : ∀ i (hi : i < 9), cs[i * 2]? = some (.string ⟨((sufL[i]'hi).1).toArray⟩) ∧ cs[i * 2 + 1]? = some (.int .i64 (sufL[i]'hi).2) := fun i hi => take2 (n := 0) (by omega) (key i hi)
  apply List.ext_getElem?
  intro j
  by_cases hj : j < 18
  · obtain ⟨i, hi, e⟩ : ∃ i, i < 9 ∧ (j = i * 2 ∨ j = i * 2 + 1) := ⟨j / 2, by omega, by omega⟩
    have := all i hi
    match i, hi with
    | 0, _ | 1, _ | 2, _ | 3, _ | 4, _ | 5, _ | 6, _ | 7, _ | 8, _ => rcases e with rfl | rfl; exact this.1.trans rfl; exact this.2.trans rfl
  · rw [List.getElem?_eq_none (by omega), List.getElem?_eq_none (by show 18 ≤ j; omega)]
theorem gPow : ∃ g, Tryd.prog.globalNamed "internal/strconv.uint64pow10" = some g ∧ (Tryd.prog.globals[g]?).map (·.type) = some 65 := by
  exact ⟨3, by kernel_rfl, by kernel_rfl⟩
theorem gRange : ∃ g, Tryd.prog.globalNamed "strconv.ErrRange" = some g ∧ (Tryd.prog.globals[g]?).map (·.type) = some 35 := by
  exact ⟨2, by kernel_rfl, by kernel_rfl⟩
theorem errStar : "*" ++ "errors.errorString" = "*errors.errorString" := by decide
theorem errRow (u : TypeId) (h : Tryd.prog.typeName? 3 u = some "*errors.errorString") : u = 70 :=
  typeName_ptr_named (nm := "errors.errorString") (by rw [errStar]; kernel_rfl) (by kernel_rfl) (by decide) u (by rw [errStar]; exact h)
theorem qv_of_laid {W : World} (h : laidMetH Tryd.prog laidD W) : QV W := by
  rw [MakeChecks.laidMetH_plain _ _ _ (by kernel_rfl)] at h
  have h2 := h.tail.tail
  have htab : Lib.TabIs Tryd.prog W "internal/strconv.uint64pow10" .u64 Lib.pow10Tab := by
    obtain ⟨g, hg, ht⟩ := gPow
    exact Lib.tabIs_of_head hg ht Tryd.underlying65 Tryd.underlying33 (by kernel_rfl) (by kernel_rfl) h2
  have hsuf : W.var? Tryd.prog "scutage/quantity.suffixes" = some sufA := by
    obtain ⟨ps, ⟨g0, t0, cs0, f0, p0, q0, hg0, ht0, hv0, hd0, _⟩, _, _⟩ := h2.tail.tail.tail
    have hg : Tryd.prog.globalNamed "scutage/quantity.suffixes" = some 0 := by kernel_rfl
    have ht : (Tryd.prog.globals[0]?).map (·.type) = some 42 := by kernel_rfl
    obtain rfl := Option.some.inj (hg.symm.trans hg0)
    obtain rfl := Option.some.inj (ht.symm.trans ht0)
    rw [hv0]
    exact congrArg some (Array.toList_inj.1 (suf_all hd0))
  refine ⟨htab, ?_, hsuf⟩
  obtain ⟨g, hg, ht⟩ := gRange
  obtain ⟨a, s, hv, _⟩ := laid_sentinel h2.tail hg ht Tryd.underlying35 errRow Tryd.underlying70 Tryd.underlying72 rfl rfl Tryd.underlying9 (by kernel_rfl) (by kernel_rfl)
  exact ⟨_, _, hv⟩
end Go.Proofs.YtdcceaafiammfaaDoor
