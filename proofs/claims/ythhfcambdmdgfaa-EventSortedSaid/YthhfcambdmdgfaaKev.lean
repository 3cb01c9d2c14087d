import Derived.Test.YthhfcambdmdgfaaKob
import Derived.Test.YthhfcambdmdgfaaEvh
namespace Go.Proofs.Ythhfcambdmdgfaa
open Go.RowKit Go.Maps
set_option linter.unusedVariables false
set_option linter.unusedSimpArgs false
/-! ### What came in: lists of objects, events -/
theorem obj_cells {w : World} {ok : Nat → Prop} {o : ObjD} {cs : List Value} (h : kObj.K w ok o cs) : ∃ sl, cs = objX (o, sl) ∧ ObjS w sl o := by
  obtain ⟨sl, e, hs⟩ := obj_of h
  refine ⟨sl, ?_, hs⟩
  unfold objV at e
  have := Value.agg.inj e
  have h2 := congrArg Array.toList this
  simpa [objX] using h2
theorem objsS_row {w : World} {ok : Nat → Prop} {A : Option Addr} {c : Nat} {l : List ObjD} (hc : l.length ≤ c) (h : Row kObj w ok A l) : ∃ xs, oxs xs = l ∧ ObjsS w (.slice A l.length c) xs := by
  rcases h with rfl | ⟨b, off, rfl, _, _, hr⟩
  · exact ⟨[], rfl, ⟨rfl, _, _, rfl, hc, .inl rfl⟩, by rintro p ⟨⟩⟩
  · have hy : ∀ i, i < l.length → ∃ sl : Value, ∃ hi : i < l.length, cellsAt w b (off + i * 8) (objX (l[i]'hi, sl)) ∧ ObjS w sl (l[i]'hi) := fun i hi => by
      obtain ⟨cs, h1, h2⟩ := hr i hi
      obtain ⟨sl, rfl, h3⟩ := obj_cells h2
      exact ⟨sl, hi, h1, h3⟩
    have : Inhabited Value := ⟨.nilFunc⟩
    obtain ⟨f, hf⟩ := Go.Deep.choose_lt hy
    obtain ⟨xs, hxs⟩ : ∃ xs : List OX, xs = (List.range l.length).map fun i => (l.getD i zeroO, f i) := ⟨_, rfl⟩
    have hlen : xs.length = l.length := by rw [hxs]; simp
    have hg : ∀ i (hi : i < xs.length), xs[i]'hi = (l[i]'(by omega), f i) := fun i hi => by
      subst hxs
      simp at hi
      simp [List.getD_eq_getElem?_getD, hi]
    refine ⟨xs, ?_, ⟨⟨objC_len xs, _, _, by rw [hlen], by rw [hlen]; exact hc, .inr ⟨b, off, rfl, fun j u hu => ?_⟩⟩, fun p hp => ?_⟩⟩
    · apply List.ext_getElem
      · rw [oxs_len, hlen]
      · intro i h1 h2
        have h3 : i < xs.length := by rw [hlen]; exact h2
        simp only [oxs, List.getElem_map]
        rw [hg i h3]
    · have hj : j < xs.length * 8 := by have := (List.getElem?_eq_some_iff.1 hu).1; rwa [objC_len] at this
      have hi : j / 8 < xs.length := by omega
      obtain ⟨hi2, h1, _⟩ := hf (j / 8) (by omega)
      have e := objC_get xs (j / 8) hi (j % 8) (by omega)
      rw [show j / 8 * 8 + j % 8 = j by omega, hu, hg _ hi] at e
      have := h1 (j % 8) u e.symm
      rwa [show off + j / 8 * 8 + j % 8 = off + j by omega] at this
    · obtain ⟨i, hi, rfl⟩ := List.mem_iff_getElem.1 hp
      rw [hg i hi]
      obtain ⟨_, _, h3⟩ := hf i (by omega)
      exact h3
def kEv : Kd (Int × ObjD × Int × List ObjD) := kPair (kInt .i64) (kPair kObj (kPair (kInt .i64) (kSlice kObj)))
theorem opObjL : Opens Try.prog 28 (kSlice kObj) := opens_slice Try.underlying28 (by kernel_rfl) (by decide) opObj
theorem opKind : Opens Try.prog 22 (kInt .i64) := opens_int Try.underlying22 (by kernel_rfl)
theorem opEv : Opens Try.prog 30 kEv := by
  refine opens_struct Try.underlying30 (by kernel_rfl) ?_
  exact (by refine opensF_cons ?_ ?_ ?_; rfl; exact opKind; refine opensF_cons ?_ ?_ ?_; rfl; exact opObj; refine opensF_cons ?_ ?_ ?_; rfl; exact opI64; refine opensF_one ?_ ?_; rfl; exact opObjL)
theorem objs_of {w : World} {ok : Nat → Prop} {l : List ObjD} {cs : List Value} (h : (kSlice kObj).K w ok l cs) : ∃ v xs, cs = [v] ∧ oxs xs = l ∧ ObjsS w v xs := by
  obtain ⟨A, c, rfl, hc, hr⟩ := h
  obtain ⟨xs, e, hx⟩ := objsS_row hc hr
  exact ⟨_, xs, rfl, e, hx⟩
theorem ev_cells {w : World} {ok : Nat → Prop} {e : Int × ObjD × Int × List ObjD} {cs : List Value} (h : kEv.K w ok e cs) :
    ∃ sl ol xs, cs = [.int .i64 e.1] ++ objX (e.2.1, sl) ++ [.int .i64 e.2.2.1, ol] ∧ ObjS w sl e.2.1 ∧ ObjsS w ol xs ∧ oxs xs = e.2.2.2 ∧ in64 e.1 ∧ in64 e.2.2.1 := by
  obtain ⟨c0, c1, rfl, h0, c2, c3, rfl, h2, c4, c5, rfl, h4, h5⟩ := h
  obtain ⟨sl, rfl, hs⟩ := obj_cells h2
  obtain ⟨v, xs, rfl, hx, hv⟩ := objs_of h5
  rw [show c0 = _ from h0.1, show c4 = _ from h4.1]
  exact ⟨sl, v, xs, by simp, hs, hv, hx, in64_wf h0.2, in64_wf h4.2⟩
theorem ev_of {w : World} {ok : Nat → Prop} {e : Int × ObjD × Int × List ObjD} {cs : List Value} (h : kEv.K w ok e cs) :
    ∃ sl ol xs, Value.agg cs.toArray = evV e.1 e.2.1 sl e.2.2.1 ol ∧ ObjS w sl e.2.1 ∧ ObjsS w ol xs ∧ in64 e.1 ∧ in64 e.2.2.1 := by
  obtain ⟨sl, ol, xs, rfl, h1, h2, _, h3, h4⟩ := ev_cells h
  exact ⟨sl, ol, xs, rfl, h1, h2, h3, h4⟩
end Go.Proofs.Ythhfcambdmdgfaa
