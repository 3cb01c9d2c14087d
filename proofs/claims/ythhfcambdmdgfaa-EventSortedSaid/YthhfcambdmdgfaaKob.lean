import Derived.Test.YthhfcambdmdgfaaObd
import Derived.Test.YthhfcambdmdgfaaKin0
namespace Go.Proofs.Ythhfcambdmdgfaa
open Go.RowKit Go.Maps
set_option linter.unusedVariables false
set_option linter.unusedSimpArgs false
/-! ### What came in -/
theorem opI64 : Opens Try.prog 2 (kInt .i64) := opens_int Try.underlying2 (by kernel_rfl)
theorem opBool : Opens Try.prog 4 kBool := opens_bool Try.underlying4 (by kernel_rfl)
def kKeyD : Kd KeyD := kIso (kPair kStr (kPair kStr kStr)) fun x => (x.kind, x.space, x.name)
theorem opKeyD : Opens Try.prog 24 kKeyD := by
  refine opens_iso (fun x => ⟨x.1, x.2.1, x.2.2⟩) (fun _ => rfl) ?_
  refine opens_struct Try.underlying24 (by kernel_rfl) ?_
  exact (by refine opensF_cons ?_ ?_ ?_; rfl; exact opStr; refine opensF_cons ?_ ?_ ?_; rfl; exact opStr; refine opensF_one ?_ ?_; rfl; exact opStr)
def kRes1 : Kd (ByteArray × Int) := kPair kStr (kInt .i64)
theorem opRes1 : Opens Try.prog 112 kRes1 := by
  refine opens_struct Try.underlying112 (by kernel_rfl) ?_
  exact (by refine opensF_cons ?_ ?_ ?_; rfl; exact opStr; refine opensF_one ?_ ?_; rfl; exact opI64)
theorem opResL : Opens Try.prog 25 (kSlice kRes1) := opens_slice Try.underlying25 (by kernel_rfl) (by decide) opRes1
def kObj : Kd ObjD := kIso (kPair kKeyD (kPair (kInt .i64) (kPair kStr (kPair kBool (kPair kBool (kSlice kRes1)))))) fun o => (o.key, o.ver, o.cls, o.term, o.best, o.charge)
theorem opObj : Opens Try.prog 27 kObj := by
  refine opens_iso (fun x => ⟨x.1, x.2.1, x.2.2.1, x.2.2.2.1, x.2.2.2.2.1, x.2.2.2.2.2⟩) (fun _ => rfl) ?_
  refine opens_struct Try.underlying27 (by kernel_rfl) ?_
  exact (by refine opensF_cons ?_ ?_ ?_; rfl; exact opKeyD; refine opensF_cons ?_ ?_ ?_; rfl; exact opI64; refine opensF_cons ?_ ?_ ?_; rfl; exact opStr; refine opensF_cons ?_ ?_ ?_; rfl; exact opBool; refine opensF_cons ?_ ?_ ?_; rfl; exact opBool; refine opensF_one ?_ ?_; rfl; exact opResL)
theorem in64_wf {n : Int} (h : (Lit.int .i64 n).wf = true) : in64 n := by
  simp [Lit.wf, IntKind.min, IntKind.max, IntKind.signed, IntKind.bits] at h
  exact h
theorem resS_row {w : World} {ok : Nat → Prop} {A : Option Addr} {c : Nat} {l : Res} (hc : l.length ≤ c) (h : Row kRes1 w ok A l) : ResS w (.slice A l.length c) l := by
  rcases h with rfl | ⟨b, off, rfl, _, _, hr⟩
  · exact ⟨⟨rfl, _, _, rfl, hc, .inl rfl⟩, by rintro p ⟨⟩⟩
  · refine ⟨⟨resC_len l, _, _, rfl, hc, .inr ⟨b, off, rfl, fun j u hu => ?_⟩⟩, fun p hp => ?_⟩
    · have hj : j < l.length * 2 := by have := (List.getElem?_eq_some_iff.1 hu).1; rwa [resC_len] at this
      have hi : j / 2 < l.length := by omega
      obtain ⟨cs, hcs, c0, c1, rfl, h0, h1⟩ := hr (j / 2) hi
      have e0 : c0 = [.string (l[j / 2]'hi).1] := h0
      have e1 : c1 = [.int .i64 (l[j / 2]'hi).2] := h1.1
      subst e0; subst e1
      have hz : kRes1.sz = 2 := rfl
      rw [hz] at hcs
      have hg := resC_get l (j / 2) hi (j % 2) (by omega)
      rw [show j / 2 * 2 + j % 2 = j by omega, hu] at hg
      have := hcs (j % 2) u hg.symm
      rwa [show off + j / 2 * 2 + j % 2 = off + j by omega] at this
    · obtain ⟨i, hi, rfl⟩ := List.mem_iff_getElem.1 hp
      obtain ⟨cs, hcs, c0, c1, rfl, h0, h1⟩ := hr i hi
      exact in64_wf h1.2
theorem obj_of {w : World} {ok : Nat → Prop} {o : ObjD} {cs : List Value} (h : kObj.K w ok o cs) : ∃ sl, Value.agg cs.toArray = objV o sl ∧ ObjS w sl o := by
  obtain ⟨k0, k1, rfl, ⟨a0, a1, rfl, h0, a2, a3, rfl, h2, h3⟩, v0, v1, rfl, hv, s0, s1, rfl, hs, t0, t1, rfl, ht, b0, b1, rfl, hb, A, c, rfl, hc, hr⟩ := h
  rw [show a0 = _ from h0, show a2 = _ from h2, show a3 = _ from h3, show v0 = _ from hv.1, show s0 = _ from hs, show t0 = _ from ht, show b0 = _ from hb]
  exact ⟨.slice A o.charge.length c, rfl, resS_row hc hr, in64_wf hv.2⟩
theorem fit_small {o : ObjD} (h : o.key.kind.size ≤ 200 ∧ o.key.space.size ≤ 200 ∧ o.key.name.size ≤ 200 ∧ o.cls.size ≤ 200 ∧ o.charge.length ≤ 40 ∧ ∀ p ∈ o.charge, p.1.size ≤ 200) : objSmall o :=
  ⟨⟨by omega, by omega, by omega⟩, by omega, by omega, fun p hp => Nat.le_trans (h.2.2.2.2.2 p hp) (by omega)⟩
end Go.Proofs.Ythhfcambdmdgfaa
