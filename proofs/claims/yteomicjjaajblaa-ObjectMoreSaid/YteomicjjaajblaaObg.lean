import Derived.Test.YteomicjjaajblaaObf
import Derived.Test.YteomicjjaajblaaKin0
import Derived.Test.YteomicjjaajblaaBrefo
namespace Go.Proofs.Yteomicjjaajblaa
open Go.RowKit Go.Shelf Go.Maps
set_option linter.unusedVariables false
set_option linter.unusedSimpArgs false
/-! ### What came in -/
theorem opI64 : Opens Try.prog 2 (kInt .i64) := opens_int Try.underlying2 (by kernel_rfl)
theorem opBool : Opens Try.prog 4 kBool := opens_bool Try.underlying4 (by kernel_rfl)
def kKeyD : Kd KeyD := kIso (kPair kStr (kPair kStr kStr)) fun x => (x.kind, x.space, x.name)
theorem opKeyD : Opens Try.prog 23 kKeyD := by
  refine opens_iso (fun x => ⟨x.1, x.2.1, x.2.2⟩) (fun _ => rfl) ?_
  refine opens_struct Try.underlying23 (by kernel_rfl) ?_
  exact (by refine opensF_cons ?_ ?_ ?_; rfl; exact opStr; refine opensF_cons ?_ ?_ ?_; rfl; exact opStr; refine opensF_one ?_ ?_; rfl; exact opStr)
def kRes1 : Kd (ByteArray × Int) := kPair kStr (kInt .i64)
theorem opRes1 : Opens Try.prog 43 kRes1 := by
  refine opens_struct Try.underlying43 (by kernel_rfl) ?_
  exact (by refine opensF_cons ?_ ?_ ?_; rfl; exact opStr; refine opensF_one ?_ ?_; rfl; exact opI64)
theorem opResL : Opens Try.prog 24 (kSlice kRes1) := opens_slice Try.underlying24 (by kernel_rfl) (by decide) opRes1
def kObj : Kd ObjD := kIso (kPair kKeyD (kPair (kInt .i64) (kPair kStr (kPair kBool (kPair kBool (kSlice kRes1)))))) fun o => (o.key, o.ver, o.cls, o.term, o.best, o.charge)
theorem opObj : Opens Try.prog 26 kObj := by
  refine opens_iso (fun x => ⟨x.1, x.2.1, x.2.2.1, x.2.2.2.1, x.2.2.2.2.1, x.2.2.2.2.2⟩) (fun _ => rfl) ?_
  refine opens_struct Try.underlying26 (by kernel_rfl) ?_
  exact (by refine opensF_cons ?_ ?_ ?_; rfl; exact opKeyD; refine opensF_cons ?_ ?_ ?_; rfl; exact opI64; refine opensF_cons ?_ ?_ ?_; rfl; exact opStr; refine opensF_cons ?_ ?_ ?_; rfl; exact opBool; refine opensF_cons ?_ ?_ ?_; rfl; exact opBool; refine opensF_one ?_ ?_; rfl; exact opResL)
theorem in64_wf {n : Int} (h : (Lit.int .i64 n).wf = true) : in64 n := by
  simp [Lit.wf, IntKind.min, IntKind.max, IntKind.signed, IntKind.bits] at h
  exact h
theorem resS_row {w : World} {ok : Nat → Prop} {A : Option Addr} {c : Nat} {l : Res} (hc : l.length ≤ c) (h : Row kRes1 w ok A l) : ResS w (.slice A l.length c) l := by
  rcases h with rfl | ⟨b, off, rfl, _, _, hr⟩
  · exact ⟨⟨rfl, _, _, rfl, hc, .inl rfl⟩, by rintro p ⟨⟩⟩
  · refine ⟨⟨resC_len l, _, _, rfl, hc, .inr ⟨b, off, rfl, fun j u hu => ?_⟩⟩, fun p hp => ?_⟩
    · have hj : j < l.length * 2 := by have := (List.getElem?_eq_some_iff.1 hu).1; rwa [resC_len] at this
      have hi : j / 2 < l.length := by omega
      obtain ⟨cs, hcs, c0, c1, rfl, h0, h1⟩ := hr (j / 2) hi
      have e0 : c0 = [.string (l[j / 2]'hi).1] := h0
      have e1 : c1 = [.int .i64 (l[j / 2]'hi).2] := h1.1
      subst e0; subst e1
      have hz : kRes1.sz = 2 := rfl
      rw [hz] at hcs
      have hg := resC_get l (j / 2) hi (j % 2) (by omega)
      rw [show j / 2 * 2 + j % 2 = j by omega, hu] at hg
      have := hcs (j % 2) u hg.symm
      rwa [show off + j / 2 * 2 + j % 2 = off + j by omega] at this
    · obtain ⟨i, hi, rfl⟩ := List.mem_iff_getElem.1 hp
      obtain ⟨cs, hcs, c0, c1, rfl, h0, h1⟩ := hr i hi
      exact in64_wf h1.2
theorem obj_of {w : World} {ok : Nat → Prop} {o : ObjD} {cs : List Value} (h : kObj.K w ok o cs) : ∃ sl, Value.agg cs.toArray = objV o sl ∧ ObjS w sl o := by
  obtain ⟨k0, k1, rfl, ⟨a0, a1, rfl, h0, a2, a3, rfl, h2, h3⟩, v0, v1, rfl, hv, s0, s1, rfl, hs, t0, t1, rfl, ht, b0, b1, rfl, hb, A, c, rfl, hc, hr⟩ := h
  rw [show a0 = _ from h0, show a2 = _ from h2, show a3 = _ from h3, show v0 = _ from hv.1, show s0 = _ from hs, show t0 = _ from ht, show b0 = _ from hb]
  exact ⟨.slice A o.charge.length c, rfl, resS_row hc hr, in64_wf hv.2⟩
theorem fit_small {o : ObjD} (h : o.key.kind.size ≤ 200 ∧ o.key.space.size ≤ 200 ∧ o.key.name.size ≤ 200 ∧ o.cls.size ≤ 200 ∧ o.charge.length ≤ 40 ∧ ∀ p ∈ o.charge, p.1.size ≤ 200) : objSmall o :=
  ⟨⟨by omega, by omega, by omega⟩, by omega, by omega, fun p hp => Nat.le_trans (h.2.2.2.2.2 p hp) (by omega)⟩
/-! ### The law -/
set_option maxRecDepth 100000 in
set_option maxHeartbeats 4000000 in
theorem objectTells_law (w : World) {sa sb : Value} {a b : ObjD} (ha : ObjS w sa a) (hb : ObjS w sb b) :
    Calls Try.prog 3 #[objV a sa, objV b sb] w fun e w' => e = .returned (.bool true) ∧ Below w.heap.size w w' := by
  have HA := Lib.hid ha; have HB := Lib.hid hb
  obtain ⟨aa, ca, rfl⟩ := ha.1.form
  obtain ⟨ab, cb', rfl⟩ := hb.1.form
  clear ha hb
  unfold objV
  go_enter Try.func3, Try.ntmps3
  go_upto_region 1 with fail
  first | with_reducible refine name_wp ?_ | with_reducible refine name_calls ?_
  intro W hWeq
  have g0 : W.heap[w.heap.size]? = some (.cells #[.string a.key.kind, .string a.key.space, .string a.key.name, .int .i64 a.ver, .string a.cls, .bool a.term, .bool a.best, .slice aa a.charge.length ca] 26) := by rw [hWeq]; repeat (first | (with_reducible exact blk_newAt _ _ (by simp)) | with_reducible refine blk_drew ?_ | with_reducible refine blk_dN ?_ _ | with_reducible refine blk_old ?_ _)
  have g1 : W.heap[w.heap.size + 1]? = some (.cells #[.string b.key.kind, .string b.key.space, .string b.key.name, .int .i64 b.ver, .string b.cls, .bool b.term, .bool b.best, .slice ab b.charge.length cb'] 26) := by rw [hWeq]; repeat (first | (with_reducible exact blk_newAt _ _ (by simp)) | with_reducible refine blk_drew ?_ | with_reducible refine blk_dN ?_ _ | with_reducible refine blk_old ?_ _)
  have hw : Below w.heap.size w W := by rw [hWeq]; repeat (first | with_reducible exact Below.refl _ _ | with_reducible refine Below.drew ?_ | with_reducible refine bl_dN ?_ _ | with_reducible refine Below.alloc ?_ (by simp <;> omega) _)
  clear hWeq
  have hz : w.heap.size + 2 ≤ W.heap.size := by have := blk_lt g1; omega
  have c0_0 : W.cell? ⟨w.heap.size, 0, none⟩ = some (.string a.key.kind) := blk_cell g0 0
  have c0_1 : W.cell? ⟨w.heap.size, 1, none⟩ = some (.string a.key.space) := blk_cell g0 1
  have c0_2 : W.cell? ⟨w.heap.size, 2, none⟩ = some (.string a.key.name) := blk_cell g0 2
  have c0_3 : W.cell? ⟨w.heap.size, 3, none⟩ = some (.int .i64 a.ver) := blk_cell g0 3
  have c0_4 : W.cell? ⟨w.heap.size, 4, none⟩ = some (.string a.cls) := blk_cell g0 4
  have c0_5 : W.cell? ⟨w.heap.size, 5, none⟩ = some (.bool a.term) := blk_cell g0 5
  have c0_6 : W.cell? ⟨w.heap.size, 6, none⟩ = some (.bool a.best) := blk_cell g0 6
  have c0_7 : W.cell? ⟨w.heap.size, 7, none⟩ = some (.slice aa a.charge.length ca) := blk_cell g0 7
  have f0 : ∀ j, W.frozen? ⟨w.heap.size, j, none⟩ = false := blk_free g0
  have c1_0 : W.cell? ⟨w.heap.size + 1, 0, none⟩ = some (.string b.key.kind) := blk_cell g1 0
  have c1_1 : W.cell? ⟨w.heap.size + 1, 1, none⟩ = some (.string b.key.space) := blk_cell g1 1
  have c1_2 : W.cell? ⟨w.heap.size + 1, 2, none⟩ = some (.string b.key.name) := blk_cell g1 2
  have c1_3 : W.cell? ⟨w.heap.size + 1, 3, none⟩ = some (.int .i64 b.ver) := blk_cell g1 3
  have c1_4 : W.cell? ⟨w.heap.size + 1, 4, none⟩ = some (.string b.cls) := blk_cell g1 4
  have c1_5 : W.cell? ⟨w.heap.size + 1, 5, none⟩ = some (.bool b.term) := blk_cell g1 5
  have c1_6 : W.cell? ⟨w.heap.size + 1, 6, none⟩ = some (.bool b.best) := blk_cell g1 6
  have c1_7 : W.cell? ⟨w.heap.size + 1, 7, none⟩ = some (.slice ab b.charge.length cb') := blk_cell g1 7
  have f1 : ∀ j, W.frozen? ⟨w.heap.size + 1, j, none⟩ = false := blk_free g1
  have hB : Below W.heap.size W W := Below.refl _ _
  have G0 := Lib.hid g0; clear g0
  have F0 := Lib.hid f0; clear f0
  have G1 := Lib.hid g1; clear g1
  have F1 := Lib.hid f1; clear f1
  have Hw := Lib.hid hw; clear hw
  have HWA := Lib.hid (HA.out.below Hw.out); have HWB := Lib.hid (HB.out.below Hw.out)
  have HFA : Hid (∀ U, Below W.heap.size W U → Calls Try.prog 7 #[.agg #[.string a.key.kind, .string a.key.space, .string a.key.name, .int .i64 a.ver, .string a.cls, .bool a.term, .bool a.best, .slice aa a.charge.length ca]] U (FitOut U a.key.kind a.key.space a.key.name a.cls a.charge)) := Lib.hid fun U h => fits5_calls U (HWA.out.below h)
  have HFB : Hid (∀ U, Below W.heap.size W U → Calls Try.prog 7 #[.agg #[.string b.key.kind, .string b.key.space, .string b.key.name, .int .i64 b.ver, .string b.cls, .bool b.term, .bool b.best, .slice ab b.charge.length cb']] U (FitOut U b.key.kind b.key.space b.key.name b.cls b.charge)) := Lib.hid fun U h => fits5_calls U (HWB.out.below h)
  go_upto_region 3 with (go_at_call 7; (first | ((with_reducible refine (HFA.out _ hB).mono ?_); rintro e w' ⟨f1, rfl, hf1, hb⟩; have HF1 := Lib.hid hf1; clear hf1) | ((with_reducible refine (HFB.out _ hB).mono ?_); rintro e w' ⟨f2, rfl, hf2, hb⟩; have HF2 := Lib.hid hf2; clear hf2)); have hB := bl_next hB hb; have c0_0 := cb hb c0_0; have c0_1 := cb hb c0_1; have c0_2 := cb hb c0_2; have c0_3 := cb hb c0_3; have c0_4 := cb hb c0_4; have c0_5 := cb hb c0_5; have c0_6 := cb hb c0_6; have c0_7 := cb hb c0_7; have c1_0 := cb hb c1_0; have c1_1 := cb hb c1_1; have c1_2 := cb hb c1_2; have c1_3 := cb hb c1_3; have c1_4 := cb hb c1_4; have c1_5 := cb hb c1_5; have c1_6 := cb hb c1_6; have c1_7 := cb hb c1_7; clear hb)
  cases f1 with
  | false =>
    go_wp2_with (go_at_call 8; refine (alive5_calls _).mono ?_; rintro e w' ⟨rfl, hb⟩; have hB := bl_next hB hb; clear hb)
    go_ret
    exact ⟨rfl, bl_from Hw.out hB⟩
  | true =>
  cases f2 with
  | false =>
    go_wp2_with (go_at_call 8; refine (alive5_calls _).mono ?_; rintro e w' ⟨rfl, hb⟩; have hB := bl_next hB hb; clear hb)
    go_ret
    exact ⟨rfl, bl_from Hw.out hB⟩
  | true =>
  have HSA := Lib.hid (fit_small (o := a) (HF1.out rfl)); have HSB := Lib.hid (fit_small (o := b) (HF2.out rfl))
  have hla : a.charge.length ≤ 40 := (HF1.out rfl).2.2.2.2.1
  have hlb : b.charge.length ≤ 40 := (HF2.out rfl).2.2.2.2.1
  clear HF1 HF2 HFA HFB
  have HRI := Lib.hid (chargeR_in (o := a) HWA.out.1.2)
  have HRL : (chargeR a).2.length ≤ 41 := by have := chargeR_len (o := a) HWA.out.1.2; omega
  obtain ⟨r, hr⟩ : ∃ r, chargeR a = r := ⟨_, rfl⟩
  rw [hr] at HRI HRL
  have HCR := Lib.hid hr
  clear hr
  obtain ⟨ra, hra⟩ : ∃ x, rightO a = x := ⟨_, rfl⟩
  obtain ⟨sm, hsm⟩ : ∃ x, sameO a b = x := ⟨_, rfl⟩
  obtain ⟨al, hal⟩ : ∃ x, alikeO a b = x := ⟨_, rfl⟩
  have HC1 : Hid (∀ U, Below W.heap.size W U → Calls Try.prog 9 #[.agg #[.string a.key.kind, .string a.key.space, .string a.key.name, .int .i64 a.ver, .string a.cls, .bool a.term, .bool a.best, .slice aa a.charge.length ca]] U (VecOut U r)) := Lib.hid fun U h => (ocharge_calls U (HWA.out.below h) HSA.out).mono fun e w' q => by rw [HCR.out] at q; exact q
  have HC2 : Hid (∀ U, Below W.heap.size W U → Calls Try.prog 10 #[.agg #[.string a.key.kind, .string a.key.space, .string a.key.name, .int .i64 a.ver, .string a.cls, .bool a.term, .bool a.best, .slice aa a.charge.length ca]] U (VecOut U r)) := Lib.hid fun U h => (rocharge_calls U (HWA.out.below h) HSA.out).mono fun e w' q => by rw [HCR.out] at q; exact q
  have HR1 : Hid (∀ U, Below W.heap.size W U → Calls Try.prog 14 #[.agg #[.string a.key.kind, .string a.key.space, .string a.key.name, .int .i64 a.ver, .string a.cls, .bool a.term, .bool a.best, .slice aa a.charge.length ca]] U (fun e w' => e = .returned (.bool ra) ∧ Below U.heap.size U w')) := Lib.hid fun U h => (oright_calls U (HWA.out.below h) HSA.out).mono fun e w' q => ⟨by rw [q.1, hra], q.2⟩
  have HR2 : Hid (∀ U, Below W.heap.size W U → Calls Try.prog 15 #[.agg #[.string a.key.kind, .string a.key.space, .string a.key.name, .int .i64 a.ver, .string a.cls, .bool a.term, .bool a.best, .slice aa a.charge.length ca]] U (fun e w' => e = .returned (.bool ra) ∧ Below U.heap.size U w')) := Lib.hid fun U h => (roright_calls U (HWA.out.below h) HSA.out).mono fun e w' q => ⟨by rw [q.1, hra], q.2⟩
  have HS1 : Hid (∀ U, Below W.heap.size W U → Calls Try.prog 16 #[.agg #[.string a.key.kind, .string a.key.space, .string a.key.name, .int .i64 a.ver, .string a.cls, .bool a.term, .bool a.best, .slice aa a.charge.length ca], .agg #[.string b.key.kind, .string b.key.space, .string b.key.name, .int .i64 b.ver, .string b.cls, .bool b.term, .bool b.best, .slice ab b.charge.length cb']] U (fun e w' => e = .returned (.bool sm) ∧ Below U.heap.size U w')) := Lib.hid fun U h => (osame_calls U (HWA.out.below h) (HWB.out.below h) ⟨by omega, by omega⟩).mono fun e w' q => ⟨by rw [q.1, hsm], q.2⟩
  have HS2 : Hid (∀ U, Below W.heap.size W U → Calls Try.prog 12 #[.agg #[.string a.key.kind, .string a.key.space, .string a.key.name, .int .i64 a.ver, .string a.cls, .bool a.term, .bool a.best, .slice aa a.charge.length ca], .agg #[.string b.key.kind, .string b.key.space, .string b.key.name, .int .i64 b.ver, .string b.cls, .bool b.term, .bool b.best, .slice ab b.charge.length cb']] U (fun e w' => e = .returned (.bool sm) ∧ Below U.heap.size U w')) := Lib.hid fun U h => (rosame_calls U (HWA.out.below h) (HWB.out.below h) ⟨by omega, by omega⟩).mono fun e w' q => ⟨by rw [q.1, hsm], q.2⟩
  have HA1 : Hid (∀ U, Below W.heap.size W U → Calls Try.prog 17 #[.agg #[.string a.key.kind, .string a.key.space, .string a.key.name, .int .i64 a.ver, .string a.cls, .bool a.term, .bool a.best, .slice aa a.charge.length ca], .agg #[.string b.key.kind, .string b.key.space, .string b.key.name, .int .i64 b.ver, .string b.cls, .bool b.term, .bool b.best, .slice ab b.charge.length cb']] U (fun e w' => e = .returned (.bool al) ∧ Below U.heap.size U w')) := Lib.hid fun U h => (oalike_calls U (HWA.out.below h) (HWB.out.below h) ⟨by omega, by omega⟩).mono fun e w' q => ⟨by rw [q.1, hal], q.2⟩
  have HA2 : Hid (∀ U, Below W.heap.size W U → Calls Try.prog 18 #[.agg #[.string a.key.kind, .string a.key.space, .string a.key.name, .int .i64 a.ver, .string a.cls, .bool a.term, .bool a.best, .slice aa a.charge.length ca], .agg #[.string b.key.kind, .string b.key.space, .string b.key.name, .int .i64 b.ver, .string b.cls, .bool b.term, .bool b.best, .slice ab b.charge.length cb']] U (fun e w' => e = .returned (.bool al) ∧ Below U.heap.size U w')) := Lib.hid fun U h => (roalike_calls U (HWA.out.below h) (HWB.out.below h) ⟨by omega, by omega⟩).mono fun e w' q => ⟨by rw [q.1, hal], q.2⟩
  have HOW : Hid (∀ U, Below W.heap.size W U → Calls Try.prog 13 #[.agg #[.string a.key.kind, .string a.key.space, .string a.key.name, .int .i64 a.ver, .string a.cls, .bool a.term, .bool a.best, .slice aa a.charge.length ca]] U fun e w' => ∃ x, e = .returned (objV a x) ∧ ResF w' U.heap.size x a.charge ∧ Below U.heap.size U w') := Lib.hid fun U h => own_calls U (HWA.out.below h) (by omega)
  clear hra hsm hal
  go_upto_region 7 with (first | (go_at_call 9; (with_reducible refine (HC1.out _ hB).mono ?_); intro e w' hv; obtain ⟨ax, cx, rfl, hvv, hb⟩ := vecOut_use hv HRI.out; have HV1 := Lib.hid hvv; clear hv hvv; have hB := bl_next hB hb; have c0_0 := cb hb c0_0; have c0_1 := cb hb c0_1; have c0_2 := cb hb c0_2; have c0_3 := cb hb c0_3; have c0_4 := cb hb c0_4; have c0_5 := cb hb c0_5; have c0_6 := cb hb c0_6; have c0_7 := cb hb c0_7; have c1_0 := cb hb c1_0; have c1_1 := cb hb c1_1; have c1_2 := cb hb c1_2; have c1_3 := cb hb c1_3; have c1_4 := cb hb c1_4; have c1_5 := cb hb c1_5; have c1_6 := cb hb c1_6; have c1_7 := cb hb c1_7; clear hb) | (go_at_call 10; (with_reducible refine (HC2.out _ hB).mono ?_); intro e w' hv; obtain ⟨ay, cy, rfl, hvv, hb⟩ := vecOut_use hv HRI.out; have HV1 := Lib.hid (HV1.out.below hb); have HV2 := Lib.hid hvv; clear hv hvv; have hB := bl_next hB hb; have c0_0 := cb hb c0_0; have c0_1 := cb hb c0_1; have c0_2 := cb hb c0_2; have c0_3 := cb hb c0_3; have c0_4 := cb hb c0_4; have c0_5 := cb hb c0_5; have c0_6 := cb hb c0_6; have c0_7 := cb hb c0_7; have c1_0 := cb hb c1_0; have c1_1 := cb hb c1_1; have c1_2 := cb hb c1_2; have c1_3 := cb hb c1_3; have c1_4 := cb hb c1_4; have c1_5 := cb hb c1_5; have c1_6 := cb hb c1_6; have c1_7 := cb hb c1_7; clear hb))
  go_upto_region 8 with (go_at_call 11; (with_reducible refine (rvsame_calls _ HV1.out HV2.out (by omega) (by omega)).mono ?_); rintro e w' ⟨rfl, hb⟩; rw [decide_eq_true (rfl : r.2 = r.2)]; have hB := bl_next hB hb; have c0_0 := cb hb c0_0; have c0_1 := cb hb c0_1; have c0_2 := cb hb c0_2; have c0_3 := cb hb c0_3; have c0_4 := cb hb c0_4; have c0_5 := cb hb c0_5; have c0_6 := cb hb c0_6; have c0_7 := cb hb c0_7; have c1_0 := cb hb c1_0; have c1_1 := cb hb c1_1; have c1_2 := cb hb c1_2; have c1_3 := cb hb c1_3; have c1_4 := cb hb c1_4; have c1_5 := cb hb c1_5; have c1_6 := cb hb c1_6; have c1_7 := cb hb c1_7; clear hb)
  obtain ⟨V, rfl⟩ : ∃ V : World, V = w' := ⟨_, rfl⟩
  have HWV := Lib.hid hB
  clear hB
  have hB := Below.refl V.heap.size V
  have hB := hB.drew
  refine region_seq (fun w' => Below V.heap.size V w') [(0, true), (2, true), (1, false), (3, false), (4, true)] (by kernel_rfl) (by kernel_rfl) (fun _ _ _ _ h => h) hB ?_
  try generalize World.drew _ = wS at hB ⊢
  refine seq_take (v := ?_) (a' := ?_) (some 37) rfl rfl (by rfl) ?_ ?_ ?_
  rotate_left; rotate_left
  · intro w' hS; have p0_0 := cb hS c0_0; have p0_1 := cb hS c0_1; have p0_2 := cb hS c0_2; have p0_3 := cb hS c0_3; have p0_4 := cb hS c0_4; have p0_5 := cb hS c0_5; have p0_6 := cb hS c0_6; have p0_7 := cb hS c0_7; have p1_0 := cb hS c1_0; have p1_1 := cb hS c1_1; have p1_2 := cb hS c1_2; have p1_3 := cb hS c1_3; have p1_4 := cb hS c1_4; have p1_5 := cb hS c1_5; have p1_6 := cb hS c1_6; have p1_7 := cb hS c1_7; go_simp; with_reducible rfl
  · simp only [Act.put, List.setIfInBounds_toArray, List.set_cons_zero, List.set_cons_succ]; rfl
  refine seq_take (v := ?_) (a' := ?_) (some 39) rfl rfl (by rfl) ?_ ?_ ?_
  rotate_left; rotate_left
  · intro w' hS; have p0_0 := cb hS c0_0; have p0_1 := cb hS c0_1; have p0_2 := cb hS c0_2; have p0_3 := cb hS c0_3; have p0_4 := cb hS c0_4; have p0_5 := cb hS c0_5; have p0_6 := cb hS c0_6; have p0_7 := cb hS c0_7; have p1_0 := cb hS c1_0; have p1_1 := cb hS c1_1; have p1_2 := cb hS c1_2; have p1_3 := cb hS c1_3; have p1_4 := cb hS c1_4; have p1_5 := cb hS c1_5; have p1_6 := cb hS c1_6; have p1_7 := cb hS c1_7; go_simp; with_reducible rfl
  · simp only [Act.put, List.setIfInBounds_toArray, List.set_cons_zero, List.set_cons_succ]; rfl
  refine seq_call (args := ?_) Try.func13 (by kernel_rfl) rfl (some 38) rfl rfl (by rfl) rfl ?_ ?_
  rotate_left
  · simp only [List.map_toArray, List.map_cons, List.map_nil]; go_simp; rfl
  with_reducible refine (HOW.out _ (bl_next HWV.out hB)).mono ?_
  rintro e w' ⟨x, rfl, hrf, hb⟩
  have HSX := Lib.hid (fun U (hq : Below w'.heap.size w' U) => show Calls Try.prog 12 #[objV a x, .agg #[.string a.key.kind, .string a.key.space, .string a.key.name, .int .i64 a.ver, .string a.cls, .bool a.term, .bool a.best, .slice aa a.charge.length ca]] U fun e w2 => e = .returned (.bool true) ∧ Below U.heap.size U w2 from (rosame_calls U ⟨(hrf.resS HWA.out.1.2).below hq, HWA.out.2⟩ (HWA.out.below (bl_next (bl_next (bl_next HWV.out hB) hb) hq)) ⟨by omega, by omega⟩).mono fun e w2 q => ⟨by rw [q.1, sameO_refl], q.2⟩); clear hrf
  refine ⟨_, rfl, bl_next (by repeat (first | with_reducible exact hB | refine Below.alloc ?_ (by have := hB.size; simp; omega) _ | refine bl_dN ?_ _ | refine Below.drew ?_ | refine Below.setCell ?_ (by have := hB.size; simp; omega) _)) hb, ?_⟩
  have hB := bl_next (by repeat (first | with_reducible exact hB | refine Below.alloc ?_ (by have := hB.size; simp; omega) _ | refine bl_dN ?_ _ | refine Below.drew ?_ | refine Below.setCell ?_ (by have := hB.size; simp; omega) _)) hb; clear hb
  simp only [Act.put, List.setIfInBounds_toArray, List.set_cons_zero, List.set_cons_succ]
  refine seq_call (args := ?_) Try.func12 (by kernel_rfl) rfl (some 40) rfl rfl (by rfl) rfl ?_ ?_
  rotate_left
  · simp only [List.map_toArray, List.map_cons, List.map_nil]; go_simp; rfl
  with_reducible refine (HSX.out _ (Below.refl _ _)).mono ?_
  rintro e w' ⟨rfl, hb⟩
  refine ⟨_, rfl, bl_next (by repeat (first | with_reducible exact hB | refine Below.alloc ?_ (by have := hB.size; simp; omega) _ | refine bl_dN ?_ _ | refine Below.drew ?_ | refine Below.setCell ?_ (by have := hB.size; simp; omega) _)) hb, ?_⟩
  have hB := bl_next (by repeat (first | with_reducible exact hB | refine Below.alloc ?_ (by have := hB.size; simp; omega) _ | refine bl_dN ?_ _ | refine Below.drew ?_ | refine Below.setCell ?_ (by have := hB.size; simp; omega) _)) hb; clear hb
  simp only [Act.put, List.setIfInBounds_toArray, List.set_cons_zero, List.set_cons_succ]
  refine seq_take (v := ?_) (a' := ?_) (some 12) rfl rfl (by rfl) ?_ ?_ ?_
  rotate_left; rotate_left
  · intro w' hS; go_simp; with_reducible rfl
  · simp only [Act.put, List.setIfInBounds_toArray, List.set_cons_zero, List.set_cons_succ]; rfl
  refine seq_done ?_
  go_upto_region 9 with fail
  have hB := hB.drew
  refine region_seq (fun w' => Below V.heap.size V w') [(0, false), (1, true), (2, true), (3, true), (4, true), (5, true), (6, true), (7, true), (8, true), (9, true), (10, true), (11, true), (12, true), (13, true), (15, true), (14, false), (16, false), (17, true), (18, true), (19, true), (20, true), (21, true), (23, true), (24, true), (22, false), (25, false), (26, true), (27, true), (28, true), (29, true), (30, true), (32, true), (33, true), (31, false), (34, false), (35, true), (36, true), (37, true)] (by kernel_rfl) (by kernel_rfl) (fun _ _ _ _ h => h) hB ?_
  try generalize World.drew _ = wS at hB ⊢
  refine seq_call (args := ?_) Try.func8 (by kernel_rfl) rfl (some 41) rfl rfl (by rfl) rfl ?_ ?_
  rotate_left
  · simp only [List.map_toArray, List.map_cons, List.map_nil]; go_simp; rfl
  with_reducible refine (alive5_calls _).mono ?_
  rintro e w' ⟨rfl, hb⟩
  refine ⟨_, rfl, bl_next (by repeat (first | with_reducible exact hB | refine Below.alloc ?_ (by have := hB.size; simp; omega) _ | refine bl_dN ?_ _ | refine Below.drew ?_ | refine Below.setCell ?_ (by have := hB.size; simp; omega) _)) hb, ?_⟩
  have hB := bl_next (by repeat (first | with_reducible exact hB | refine Below.alloc ?_ (by have := hB.size; simp; omega) _ | refine bl_dN ?_ _ | refine Below.drew ?_ | refine Below.setCell ?_ (by have := hB.size; simp; omega) _)) hb; clear hb
  simp only [Act.put, List.setIfInBounds_toArray, List.set_cons_zero, List.set_cons_succ]
  refine seq_take (v := ?_) (a' := ?_) (some 42) rfl rfl (by rfl) ?_ ?_ ?_
  rotate_left; rotate_left
  · intro w' hS; go_simp; with_reducible rfl
  · simp only [Act.put, List.setIfInBounds_toArray, List.set_cons_zero, List.set_cons_succ]; rfl
  refine seq_take (v := ?_) (a' := ?_) (some 43) rfl rfl (by rfl) ?_ ?_ ?_
  rotate_left; rotate_left
  · intro w' hS; go_simp; with_reducible rfl
  · simp only [Act.put, List.setIfInBounds_toArray, List.set_cons_zero, List.set_cons_succ]; rfl
  refine seq_take (v := ?_) (a' := ?_) (some 44) rfl rfl (by rfl) ?_ ?_ ?_
  rotate_left; rotate_left
  · intro w' hS; go_simp; with_reducible rfl
  · simp only [Act.put, List.setIfInBounds_toArray, List.set_cons_zero, List.set_cons_succ]; rfl
  refine seq_take (v := ?_) (a' := ?_) (some 45) rfl rfl (by rfl) ?_ ?_ ?_
  rotate_left; rotate_left
  · intro w' hS; go_simp; with_reducible rfl
  · simp only [Act.put, List.setIfInBounds_toArray, List.set_cons_zero, List.set_cons_succ]; rfl
  refine seq_take (v := ?_) (a' := ?_) (some 46) rfl rfl (by rfl) ?_ ?_ ?_
  rotate_left; rotate_left
  · intro w' hS; go_simp; with_reducible rfl
  · simp only [Act.put, List.setIfInBounds_toArray, List.set_cons_zero, List.set_cons_succ]; rfl
  refine seq_take (v := ?_) (a' := ?_) (some 47) rfl rfl (by rfl) ?_ ?_ ?_
  rotate_left; rotate_left
  · intro w' hS; go_simp; with_reducible rfl
  · simp only [Act.put, List.setIfInBounds_toArray, List.set_cons_zero, List.set_cons_succ]; rfl
  refine seq_take (v := ?_) (a' := ?_) (some 48) rfl rfl (by rfl) ?_ ?_ ?_
  rotate_left; rotate_left
  · intro w' hS; go_simp; with_reducible rfl
  · simp only [Act.put, List.setIfInBounds_toArray, List.set_cons_zero, List.set_cons_succ]; rfl
  refine seq_take (v := ?_) (a' := ?_) (some 49) rfl rfl (by rfl) ?_ ?_ ?_
  rotate_left; rotate_left
  · intro w' hS; go_simp; with_reducible rfl
  · simp only [Act.put, List.setIfInBounds_toArray, List.set_cons_zero, List.set_cons_succ]; rfl
  refine seq_take (v := ?_) (a' := ?_) (some 50) rfl rfl (by rfl) ?_ ?_ ?_
  rotate_left; rotate_left
  · intro w' hS; go_simp; with_reducible rfl
  · simp only [Act.put, List.setIfInBounds_toArray, List.set_cons_zero, List.set_cons_succ]; rfl
  refine seq_take (v := ?_) (a' := ?_) (some 51) rfl rfl (by rfl) ?_ ?_ ?_
  rotate_left; rotate_left
  · intro w' hS; go_simp; with_reducible rfl
  · simp only [Act.put, List.setIfInBounds_toArray, List.set_cons_zero, List.set_cons_succ]; rfl
  refine seq_take (v := ?_) (a' := ?_) (some 52) rfl rfl (by rfl) ?_ ?_ ?_
  rotate_left; rotate_left
  · intro w' hS; go_simp; with_reducible rfl
  · simp only [Act.put, List.setIfInBounds_toArray, List.set_cons_zero, List.set_cons_succ]; rfl
  refine seq_take (v := ?_) (a' := ?_) (some 53) rfl rfl (by rfl) ?_ ?_ ?_
  rotate_left; rotate_left
  · intro w' hS; go_simp; with_reducible rfl
  · simp only [Act.put, List.setIfInBounds_toArray, List.set_cons_zero, List.set_cons_succ]; rfl
  refine seq_take (v := ?_) (a' := ?_) (some 54) rfl rfl (by rfl) ?_ ?_ ?_
  rotate_left; rotate_left
  · intro w' hS; have p0_0 := cb hS c0_0; have p0_1 := cb hS c0_1; have p0_2 := cb hS c0_2; have p0_3 := cb hS c0_3; have p0_4 := cb hS c0_4; have p0_5 := cb hS c0_5; have p0_6 := cb hS c0_6; have p0_7 := cb hS c0_7; have p1_0 := cb hS c1_0; have p1_1 := cb hS c1_1; have p1_2 := cb hS c1_2; have p1_3 := cb hS c1_3; have p1_4 := cb hS c1_4; have p1_5 := cb hS c1_5; have p1_6 := cb hS c1_6; have p1_7 := cb hS c1_7; go_simp; with_reducible rfl
  · simp only [Act.put, List.setIfInBounds_toArray, List.set_cons_zero, List.set_cons_succ]; rfl
  refine seq_take (v := ?_) (a' := ?_) (some 56) rfl rfl (by rfl) ?_ ?_ ?_
  rotate_left; rotate_left
  · intro w' hS; have p0_0 := cb hS c0_0; have p0_1 := cb hS c0_1; have p0_2 := cb hS c0_2; have p0_3 := cb hS c0_3; have p0_4 := cb hS c0_4; have p0_5 := cb hS c0_5; have p0_6 := cb hS c0_6; have p0_7 := cb hS c0_7; have p1_0 := cb hS c1_0; have p1_1 := cb hS c1_1; have p1_2 := cb hS c1_2; have p1_3 := cb hS c1_3; have p1_4 := cb hS c1_4; have p1_5 := cb hS c1_5; have p1_6 := cb hS c1_6; have p1_7 := cb hS c1_7; go_simp; with_reducible rfl
  · simp only [Act.put, List.setIfInBounds_toArray, List.set_cons_zero, List.set_cons_succ]; rfl
  refine seq_call (args := ?_) Try.func14 (by kernel_rfl) rfl (some 55) rfl rfl (by rfl) rfl ?_ ?_
  rotate_left
  · simp only [List.map_toArray, List.map_cons, List.map_nil]; go_simp; rfl
  with_reducible refine (HR1.out _ (bl_next HWV.out hB)).mono ?_
  rintro e w' ⟨rfl, hb⟩
  refine ⟨_, rfl, bl_next (by repeat (first | with_reducible exact hB | refine Below.alloc ?_ (by have := hB.size; simp; omega) _ | refine bl_dN ?_ _ | refine Below.drew ?_ | refine Below.setCell ?_ (by have := hB.size; simp; omega) _)) hb, ?_⟩
  have hB := bl_next (by repeat (first | with_reducible exact hB | refine Below.alloc ?_ (by have := hB.size; simp; omega) _ | refine bl_dN ?_ _ | refine Below.drew ?_ | refine Below.setCell ?_ (by have := hB.size; simp; omega) _)) hb; clear hb
  simp only [Act.put, List.setIfInBounds_toArray, List.set_cons_zero, List.set_cons_succ]
  refine seq_call (args := ?_) Try.func15 (by kernel_rfl) rfl (some 57) rfl rfl (by rfl) rfl ?_ ?_
  rotate_left
  · simp only [List.map_toArray, List.map_cons, List.map_nil]; go_simp; rfl
  with_reducible refine (HR2.out _ (bl_next HWV.out hB)).mono ?_
  rintro e w' ⟨rfl, hb⟩
  refine ⟨_, rfl, bl_next (by repeat (first | with_reducible exact hB | refine Below.alloc ?_ (by have := hB.size; simp; omega) _ | refine bl_dN ?_ _ | refine Below.drew ?_ | refine Below.setCell ?_ (by have := hB.size; simp; omega) _)) hb, ?_⟩
  have hB := bl_next (by repeat (first | with_reducible exact hB | refine Below.alloc ?_ (by have := hB.size; simp; omega) _ | refine bl_dN ?_ _ | refine Below.drew ?_ | refine Below.setCell ?_ (by have := hB.size; simp; omega) _)) hb; clear hb
  simp only [Act.put, List.setIfInBounds_toArray, List.set_cons_zero, List.set_cons_succ]
  refine seq_take (v := ?_) (a' := ?_) (some 58) rfl rfl (by rfl) ?_ ?_ ?_
  rotate_left; rotate_left
  · intro w' hS; go_simp; with_reducible rfl
  · simp only [Act.put, List.setIfInBounds_toArray, List.set_cons_zero, List.set_cons_succ]; rfl
  refine seq_take (v := ?_) (a' := ?_) (some 59) rfl rfl (by rfl) ?_ ?_ ?_
  rotate_left; rotate_left
  · intro w' hS; go_simp; with_reducible rfl
  · simp only [Act.put, List.setIfInBounds_toArray, List.set_cons_zero, List.set_cons_succ]; rfl
  refine seq_take (v := ?_) (a' := ?_) (some 60) rfl rfl (by rfl) ?_ ?_ ?_
  rotate_left; rotate_left
  · intro w' hS; go_simp; with_reducible rfl
  · simp only [Act.put, List.setIfInBounds_toArray, List.set_cons_zero, List.set_cons_succ]; rfl
  refine seq_take (v := ?_) (a' := ?_) (some 61) rfl rfl (by rfl) ?_ ?_ ?_
  rotate_left; rotate_left
  · intro w' hS; have p0_0 := cb hS c0_0; have p0_1 := cb hS c0_1; have p0_2 := cb hS c0_2; have p0_3 := cb hS c0_3; have p0_4 := cb hS c0_4; have p0_5 := cb hS c0_5; have p0_6 := cb hS c0_6; have p0_7 := cb hS c0_7; have p1_0 := cb hS c1_0; have p1_1 := cb hS c1_1; have p1_2 := cb hS c1_2; have p1_3 := cb hS c1_3; have p1_4 := cb hS c1_4; have p1_5 := cb hS c1_5; have p1_6 := cb hS c1_6; have p1_7 := cb hS c1_7; go_simp; with_reducible rfl
  · simp only [Act.put, List.setIfInBounds_toArray, List.set_cons_zero, List.set_cons_succ]; rfl
  refine seq_take (v := ?_) (a' := ?_) (some 62) rfl rfl (by rfl) ?_ ?_ ?_
  rotate_left; rotate_left
  · intro w' hS; have p0_0 := cb hS c0_0; have p0_1 := cb hS c0_1; have p0_2 := cb hS c0_2; have p0_3 := cb hS c0_3; have p0_4 := cb hS c0_4; have p0_5 := cb hS c0_5; have p0_6 := cb hS c0_6; have p0_7 := cb hS c0_7; have p1_0 := cb hS c1_0; have p1_1 := cb hS c1_1; have p1_2 := cb hS c1_2; have p1_3 := cb hS c1_3; have p1_4 := cb hS c1_4; have p1_5 := cb hS c1_5; have p1_6 := cb hS c1_6; have p1_7 := cb hS c1_7; go_simp; with_reducible rfl
  · simp only [Act.put, List.setIfInBounds_toArray, List.set_cons_zero, List.set_cons_succ]; rfl
  refine seq_take (v := ?_) (a' := ?_) (some 64) rfl rfl (by rfl) ?_ ?_ ?_
  rotate_left; rotate_left
  · intro w' hS; have p0_0 := cb hS c0_0; have p0_1 := cb hS c0_1; have p0_2 := cb hS c0_2; have p0_3 := cb hS c0_3; have p0_4 := cb hS c0_4; have p0_5 := cb hS c0_5; have p0_6 := cb hS c0_6; have p0_7 := cb hS c0_7; have p1_0 := cb hS c1_0; have p1_1 := cb hS c1_1; have p1_2 := cb hS c1_2; have p1_3 := cb hS c1_3; have p1_4 := cb hS c1_4; have p1_5 := cb hS c1_5; have p1_6 := cb hS c1_6; have p1_7 := cb hS c1_7; go_simp; with_reducible rfl
  · simp only [Act.put, List.setIfInBounds_toArray, List.set_cons_zero, List.set_cons_succ]; rfl
  refine seq_take (v := ?_) (a' := ?_) (some 65) rfl rfl (by rfl) ?_ ?_ ?_
  rotate_left; rotate_left
  · intro w' hS; have p0_0 := cb hS c0_0; have p0_1 := cb hS c0_1; have p0_2 := cb hS c0_2; have p0_3 := cb hS c0_3; have p0_4 := cb hS c0_4; have p0_5 := cb hS c0_5; have p0_6 := cb hS c0_6; have p0_7 := cb hS c0_7; have p1_0 := cb hS c1_0; have p1_1 := cb hS c1_1; have p1_2 := cb hS c1_2; have p1_3 := cb hS c1_3; have p1_4 := cb hS c1_4; have p1_5 := cb hS c1_5; have p1_6 := cb hS c1_6; have p1_7 := cb hS c1_7; go_simp; with_reducible rfl
  · simp only [Act.put, List.setIfInBounds_toArray, List.set_cons_zero, List.set_cons_succ]; rfl
  refine seq_call (args := ?_) Try.func16 (by kernel_rfl) rfl (some 63) rfl rfl (by rfl) rfl ?_ ?_
  rotate_left
  · simp only [List.map_toArray, List.map_cons, List.map_nil]; go_simp; rfl
  with_reducible refine (HS1.out _ (bl_next HWV.out hB)).mono ?_
  rintro e w' ⟨rfl, hb⟩
  refine ⟨_, rfl, bl_next (by repeat (first | with_reducible exact hB | refine Below.alloc ?_ (by have := hB.size; simp; omega) _ | refine bl_dN ?_ _ | refine Below.drew ?_ | refine Below.setCell ?_ (by have := hB.size; simp; omega) _)) hb, ?_⟩
  have hB := bl_next (by repeat (first | with_reducible exact hB | refine Below.alloc ?_ (by have := hB.size; simp; omega) _ | refine bl_dN ?_ _ | refine Below.drew ?_ | refine Below.setCell ?_ (by have := hB.size; simp; omega) _)) hb; clear hb
  simp only [Act.put, List.setIfInBounds_toArray, List.set_cons_zero, List.set_cons_succ]
  refine seq_call (args := ?_) Try.func12 (by kernel_rfl) rfl (some 66) rfl rfl (by rfl) rfl ?_ ?_
  rotate_left
  · simp only [List.map_toArray, List.map_cons, List.map_nil]; go_simp; rfl
  with_reducible refine (HS2.out _ (bl_next HWV.out hB)).mono ?_
  rintro e w' ⟨rfl, hb⟩
  refine ⟨_, rfl, bl_next (by repeat (first | with_reducible exact hB | refine Below.alloc ?_ (by have := hB.size; simp; omega) _ | refine bl_dN ?_ _ | refine Below.drew ?_ | refine Below.setCell ?_ (by have := hB.size; simp; omega) _)) hb, ?_⟩
  have hB := bl_next (by repeat (first | with_reducible exact hB | refine Below.alloc ?_ (by have := hB.size; simp; omega) _ | refine bl_dN ?_ _ | refine Below.drew ?_ | refine Below.setCell ?_ (by have := hB.size; simp; omega) _)) hb; clear hb
  simp only [Act.put, List.setIfInBounds_toArray, List.set_cons_zero, List.set_cons_succ]
  refine seq_take (v := ?_) (a' := ?_) (some 67) rfl rfl (by rfl) ?_ ?_ ?_
  rotate_left; rotate_left
  · intro w' hS; go_simp; with_reducible rfl
  · simp only [Act.put, List.setIfInBounds_toArray, List.set_cons_zero, List.set_cons_succ]; rfl
  refine seq_take (v := ?_) (a' := ?_) (some 68) rfl rfl (by rfl) ?_ ?_ ?_
  rotate_left; rotate_left
  · intro w' hS; go_simp; with_reducible rfl
  · simp only [Act.put, List.setIfInBounds_toArray, List.set_cons_zero, List.set_cons_succ]; rfl
  refine seq_take (v := ?_) (a' := ?_) (some 69) rfl rfl (by rfl) ?_ ?_ ?_
  rotate_left; rotate_left
  · intro w' hS; go_simp; with_reducible rfl
  · simp only [Act.put, List.setIfInBounds_toArray, List.set_cons_zero, List.set_cons_succ]; rfl
  refine seq_take (v := ?_) (a' := ?_) (some 70) rfl rfl (by rfl) ?_ ?_ ?_
  rotate_left; rotate_left
  · intro w' hS; have p0_0 := cb hS c0_0; have p0_1 := cb hS c0_1; have p0_2 := cb hS c0_2; have p0_3 := cb hS c0_3; have p0_4 := cb hS c0_4; have p0_5 := cb hS c0_5; have p0_6 := cb hS c0_6; have p0_7 := cb hS c0_7; have p1_0 := cb hS c1_0; have p1_1 := cb hS c1_1; have p1_2 := cb hS c1_2; have p1_3 := cb hS c1_3; have p1_4 := cb hS c1_4; have p1_5 := cb hS c1_5; have p1_6 := cb hS c1_6; have p1_7 := cb hS c1_7; go_simp; with_reducible rfl
  · simp only [Act.put, List.setIfInBounds_toArray, List.set_cons_zero, List.set_cons_succ]; rfl
  refine seq_take (v := ?_) (a' := ?_) (some 71) rfl rfl (by rfl) ?_ ?_ ?_
  rotate_left; rotate_left
  · intro w' hS; have p0_0 := cb hS c0_0; have p0_1 := cb hS c0_1; have p0_2 := cb hS c0_2; have p0_3 := cb hS c0_3; have p0_4 := cb hS c0_4; have p0_5 := cb hS c0_5; have p0_6 := cb hS c0_6; have p0_7 := cb hS c0_7; have p1_0 := cb hS c1_0; have p1_1 := cb hS c1_1; have p1_2 := cb hS c1_2; have p1_3 := cb hS c1_3; have p1_4 := cb hS c1_4; have p1_5 := cb hS c1_5; have p1_6 := cb hS c1_6; have p1_7 := cb hS c1_7; go_simp; with_reducible rfl
  · simp only [Act.put, List.setIfInBounds_toArray, List.set_cons_zero, List.set_cons_succ]; rfl
  refine seq_take (v := ?_) (a' := ?_) (some 73) rfl rfl (by rfl) ?_ ?_ ?_
  rotate_left; rotate_left
  · intro w' hS; have p0_0 := cb hS c0_0; have p0_1 := cb hS c0_1; have p0_2 := cb hS c0_2; have p0_3 := cb hS c0_3; have p0_4 := cb hS c0_4; have p0_5 := cb hS c0_5; have p0_6 := cb hS c0_6; have p0_7 := cb hS c0_7; have p1_0 := cb hS c1_0; have p1_1 := cb hS c1_1; have p1_2 := cb hS c1_2; have p1_3 := cb hS c1_3; have p1_4 := cb hS c1_4; have p1_5 := cb hS c1_5; have p1_6 := cb hS c1_6; have p1_7 := cb hS c1_7; go_simp; with_reducible rfl
  · simp only [Act.put, List.setIfInBounds_toArray, List.set_cons_zero, List.set_cons_succ]; rfl
  refine seq_take (v := ?_) (a' := ?_) (some 74) rfl rfl (by rfl) ?_ ?_ ?_
  rotate_left; rotate_left
  · intro w' hS; have p0_0 := cb hS c0_0; have p0_1 := cb hS c0_1; have p0_2 := cb hS c0_2; have p0_3 := cb hS c0_3; have p0_4 := cb hS c0_4; have p0_5 := cb hS c0_5; have p0_6 := cb hS c0_6; have p0_7 := cb hS c0_7; have p1_0 := cb hS c1_0; have p1_1 := cb hS c1_1; have p1_2 := cb hS c1_2; have p1_3 := cb hS c1_3; have p1_4 := cb hS c1_4; have p1_5 := cb hS c1_5; have p1_6 := cb hS c1_6; have p1_7 := cb hS c1_7; go_simp; with_reducible rfl
  · simp only [Act.put, List.setIfInBounds_toArray, List.set_cons_zero, List.set_cons_succ]; rfl
  refine seq_call (args := ?_) Try.func17 (by kernel_rfl) rfl (some 72) rfl rfl (by rfl) rfl ?_ ?_
  rotate_left
  · simp only [List.map_toArray, List.map_cons, List.map_nil]; go_simp; rfl
  with_reducible refine (HA1.out _ (bl_next HWV.out hB)).mono ?_
  rintro e w' ⟨rfl, hb⟩
  refine ⟨_, rfl, bl_next (by repeat (first | with_reducible exact hB | refine Below.alloc ?_ (by have := hB.size; simp; omega) _ | refine bl_dN ?_ _ | refine Below.drew ?_ | refine Below.setCell ?_ (by have := hB.size; simp; omega) _)) hb, ?_⟩
  have hB := bl_next (by repeat (first | with_reducible exact hB | refine Below.alloc ?_ (by have := hB.size; simp; omega) _ | refine bl_dN ?_ _ | refine Below.drew ?_ | refine Below.setCell ?_ (by have := hB.size; simp; omega) _)) hb; clear hb
  simp only [Act.put, List.setIfInBounds_toArray, List.set_cons_zero, List.set_cons_succ]
  refine seq_call (args := ?_) Try.func18 (by kernel_rfl) rfl (some 75) rfl rfl (by rfl) rfl ?_ ?_
  rotate_left
  · simp only [List.map_toArray, List.map_cons, List.map_nil]; go_simp; rfl
  with_reducible refine (HA2.out _ (bl_next HWV.out hB)).mono ?_
  rintro e w' ⟨rfl, hb⟩
  refine ⟨_, rfl, bl_next (by repeat (first | with_reducible exact hB | refine Below.alloc ?_ (by have := hB.size; simp; omega) _ | refine bl_dN ?_ _ | refine Below.drew ?_ | refine Below.setCell ?_ (by have := hB.size; simp; omega) _)) hb, ?_⟩
  have hB := bl_next (by repeat (first | with_reducible exact hB | refine Below.alloc ?_ (by have := hB.size; simp; omega) _ | refine bl_dN ?_ _ | refine Below.drew ?_ | refine Below.setCell ?_ (by have := hB.size; simp; omega) _)) hb; clear hb
  simp only [Act.put, List.setIfInBounds_toArray, List.set_cons_zero, List.set_cons_succ]
  refine seq_take (v := ?_) (a' := ?_) (some 76) rfl rfl (by rfl) ?_ ?_ ?_
  rotate_left; rotate_left
  · intro w' hS; go_simp; with_reducible rfl
  · simp only [Act.put, List.setIfInBounds_toArray, List.set_cons_zero, List.set_cons_succ]; rfl
  refine seq_take (v := ?_) (a' := ?_) (some 77) rfl rfl (by rfl) ?_ ?_ ?_
  rotate_left; rotate_left
  · intro w' hS; go_simp; with_reducible rfl
  · simp only [Act.put, List.setIfInBounds_toArray, List.set_cons_zero, List.set_cons_succ]; rfl
  refine seq_take (v := ?_) (a' := ?_) (some 4) rfl rfl (by rfl) ?_ ?_ ?_
  rotate_left; rotate_left
  · intro w' hS; go_simp; with_reducible rfl
  · simp only [Act.put, List.setIfInBounds_toArray, List.set_cons_zero, List.set_cons_succ]; rfl
  refine seq_done ?_
  go_wp2_with fail
  go_ret
  exact ⟨rfl, bl_from Hw.out (bl_next HWV.out hB)⟩
theorem objectTellsWalk {W : World} (a : ObjD) (c : List Value) (h : kObj.K W anyB a c) (b : ObjD) (d : List Value) (k : kObj.K W anyB b d) : Calls Try.prog 3 #[.agg c.toArray, .agg d.toArray] W fun e W' => e = .returned (.bool true) ∧ Below W.heap.size W W' := by
  obtain ⟨sa, e1, h1⟩ := obj_of h
  obtain ⟨sb, e2, h2⟩ := obj_of k
  rw [e1, e2]
  exact objectTells_law W h1 h2
end Go.Proofs.Yteomicjjaajblaa
namespace Go.Proofs.Yteomicjjaajblaa
open Go.RowKit Go.Shelf Go.Maps
set_option linter.unusedVariables false
set_option linter.unusedSimpArgs false
theorem sumV_succ {l : Res} {k : Nat} (h : k < l.length) (n : ByteArray) : sumV (l.take (k + 1)) n = sumV (l.take k) n + (if (l[k]'h).1 = n then (l[k]'h).2 else 0) := by
  rw [List.take_succ_eq_append_getElem h]
  have : ∀ (m : Res) (p : ByteArray × Int), sumV (m ++ [p]) n = sumV m n + (if p.1 = n then p.2 else 0) := by
    intro m p
    induction m with
    | nil => show (if p.1 = n then p.2 else 0) + 0 = 0 + _; omega
    | cons q r ih =>
      show (if q.1 = n then q.2 else 0) + sumV (r ++ [p]) n = (if q.1 = n then q.2 else 0) + sumV r n + _
      rw [ih]; omega
  exact this _ _
theorem sumV_bound {l : Res} (h : ∀ p ∈ l, 0 ≤ p.2 ∧ p.2 ≤ 9223372036854775807) (n : ByteArray) : 0 ≤ sumV l n ∧ sumV l n ≤ l.length * 9223372036854775807 := by
  induction l with
  | nil => exact ⟨Int.le_refl _, by show (0 : Int) ≤ _; omega⟩
  | cons q r ih =>
    obtain ⟨h1, h2⟩ := ih fun p hp => h p (List.mem_cons_of_mem _ hp)
    obtain ⟨h3, h4⟩ := h q (List.mem_cons_self ..)
    have e : sumV (q :: r) n = (if q.1 = n then q.2 else 0) + sumV r n := rfl
    rw [e, List.length_cons]
    split <;> constructor <;> omega
theorem vecOut_row {w w' : World} {r : Int × Vec} {e : Ending} (h : VecOut w r e w') (hi : ∀ p ∈ r.2, wIn p.2 = true) : ∃ ax cx, e = .returned (.tuple #[.slice ax r.2.length cx, .int .i64 r.1]) ∧ w'.ownsRow w.heap.size 64 3 (.slice ax r.2.length cx) r.2.length (vecC r.2) ∧ VecS w' (.slice ax r.2.length cx) r.2 ∧ Below w.heap.size w w' := by
  obtain ⟨x, rfl, hrow, hb⟩ := h
  obtain ⟨ax, cx, rfl⟩ := rw_form hrow
  exact ⟨ax, cx, rfl, hrow, ⟨sliS_of hrow, hi⟩, hb⟩
def withC (b : ObjD) (l : Res) : ObjD := { b with charge := l }
set_option maxRecDepth 100000 in
set_option maxHeartbeats 4000000 in
theorem objectMore_law (w : World) {sa sb : Value} {a b : ObjD} (ha : ObjS w sa a) (hb : ObjS w sb b) :
    Calls Try.prog 4 #[objV a sa, objV b sb] w fun e w' => e = .returned (.bool true) ∧ Below w.heap.size w w' := by
  have HA := Lib.hid ha; have HB := Lib.hid hb
  obtain ⟨aa, ca, rfl⟩ := ha.1.form
  obtain ⟨ab, cb', rfl⟩ := hb.1.form
  clear ha hb
  unfold objV
  go_enter Try.func4, Try.ntmps4
  go_upto_region 1 with fail
  first | with_reducible refine name_wp ?_ | with_reducible refine name_calls ?_
  intro W hWeq
  have g0 : W.heap[w.heap.size]? = some (.cells #[.string a.key.kind, .string a.key.space, .string a.key.name, .int .i64 a.ver, .string a.cls, .bool a.term, .bool a.best, .slice aa a.charge.length ca] 26) := by rw [hWeq]; repeat (first | (with_reducible exact blk_newAt _ _ (by simp)) | with_reducible refine blk_drew ?_ | with_reducible refine blk_dN ?_ _ | with_reducible refine blk_old ?_ _)
  have g1 : W.heap[w.heap.size + 1]? = some (.cells #[.string b.key.kind, .string b.key.space, .string b.key.name, .int .i64 b.ver, .string b.cls, .bool b.term, .bool b.best, .slice ab b.charge.length cb'] 26) := by rw [hWeq]; repeat (first | (with_reducible exact blk_newAt _ _ (by simp)) | with_reducible refine blk_drew ?_ | with_reducible refine blk_dN ?_ _ | with_reducible refine blk_old ?_ _)
  have hw : Below w.heap.size w W := by rw [hWeq]; repeat (first | with_reducible exact Below.refl _ _ | with_reducible refine Below.drew ?_ | with_reducible refine bl_dN ?_ _ | with_reducible refine Below.alloc ?_ (by simp <;> omega) _)
  clear hWeq
  have hz : w.heap.size + 2 ≤ W.heap.size := by have := blk_lt g1; omega
  have c0_0 : W.cell? ⟨w.heap.size, 0, none⟩ = some (.string a.key.kind) := blk_cell g0 0
  have c0_1 : W.cell? ⟨w.heap.size, 1, none⟩ = some (.string a.key.space) := blk_cell g0 1
  have c0_2 : W.cell? ⟨w.heap.size, 2, none⟩ = some (.string a.key.name) := blk_cell g0 2
  have c0_3 : W.cell? ⟨w.heap.size, 3, none⟩ = some (.int .i64 a.ver) := blk_cell g0 3
  have c0_4 : W.cell? ⟨w.heap.size, 4, none⟩ = some (.string a.cls) := blk_cell g0 4
  have c0_5 : W.cell? ⟨w.heap.size, 5, none⟩ = some (.bool a.term) := blk_cell g0 5
  have c0_6 : W.cell? ⟨w.heap.size, 6, none⟩ = some (.bool a.best) := blk_cell g0 6
  have c0_7 : W.cell? ⟨w.heap.size, 7, none⟩ = some (.slice aa a.charge.length ca) := blk_cell g0 7
  have f0 : ∀ j, W.frozen? ⟨w.heap.size, j, none⟩ = false := blk_free g0
  have c1_0 : W.cell? ⟨w.heap.size + 1, 0, none⟩ = some (.string b.key.kind) := blk_cell g1 0
  have c1_1 : W.cell? ⟨w.heap.size + 1, 1, none⟩ = some (.string b.key.space) := blk_cell g1 1
  have c1_2 : W.cell? ⟨w.heap.size + 1, 2, none⟩ = some (.string b.key.name) := blk_cell g1 2
  have c1_3 : W.cell? ⟨w.heap.size + 1, 3, none⟩ = some (.int .i64 b.ver) := blk_cell g1 3
  have c1_4 : W.cell? ⟨w.heap.size + 1, 4, none⟩ = some (.string b.cls) := blk_cell g1 4
  have c1_5 : W.cell? ⟨w.heap.size + 1, 5, none⟩ = some (.bool b.term) := blk_cell g1 5
  have c1_6 : W.cell? ⟨w.heap.size + 1, 6, none⟩ = some (.bool b.best) := blk_cell g1 6
  have c1_7 : W.cell? ⟨w.heap.size + 1, 7, none⟩ = some (.slice ab b.charge.length cb') := blk_cell g1 7
  have f1 : ∀ j, W.frozen? ⟨w.heap.size + 1, j, none⟩ = false := blk_free g1
  have hB : Below W.heap.size W W := Below.refl _ _
  have G0 := Lib.hid g0; clear g0
  have F0 := Lib.hid f0; clear f0
  have G1 := Lib.hid g1; clear g1
  have F1 := Lib.hid f1; clear f1
  have Hw := Lib.hid hw; clear hw
  have HWA := Lib.hid (HA.out.below Hw.out); have HWB := Lib.hid (HB.out.below Hw.out); have HL1 := Lib.hid (lt_of_cell c1_0)
  have HFA : Hid (∀ U, Below W.heap.size W U → Calls Try.prog 7 #[.agg #[.string a.key.kind, .string a.key.space, .string a.key.name, .int .i64 a.ver, .string a.cls, .bool a.term, .bool a.best, .slice aa a.charge.length ca]] U (FitOut U a.key.kind a.key.space a.key.name a.cls a.charge)) := Lib.hid fun U h => fits5_calls U (HWA.out.below h)
  have HFB : Hid (∀ U, Below W.heap.size W U → Calls Try.prog 7 #[.agg #[.string b.key.kind, .string b.key.space, .string b.key.name, .int .i64 b.ver, .string b.cls, .bool b.term, .bool b.best, .slice ab b.charge.length cb']] U (FitOut U b.key.kind b.key.space b.key.name b.cls b.charge)) := Lib.hid fun U h => fits5_calls U (HWB.out.below h)
  go_upto_region 3 with (go_at_call 7; (first | ((with_reducible refine (HFA.out _ hB).mono ?_); rintro e w' ⟨f1, rfl, hf1, hb⟩; have HF1 := Lib.hid hf1; clear hf1) | ((with_reducible refine (HFB.out _ hB).mono ?_); rintro e w' ⟨f2, rfl, hf2, hb⟩; have HF2 := Lib.hid hf2; clear hf2)); have hB := bl_next hB hb; have c0_0 := cb hb c0_0; have c0_1 := cb hb c0_1; have c0_2 := cb hb c0_2; have c0_3 := cb hb c0_3; have c0_4 := cb hb c0_4; have c0_5 := cb hb c0_5; have c0_6 := cb hb c0_6; have c0_7 := cb hb c0_7; have c1_0 := cb hb c1_0; have c1_1 := cb hb c1_1; have c1_2 := cb hb c1_2; have c1_3 := cb hb c1_3; have c1_4 := cb hb c1_4; have c1_5 := cb hb c1_5; have c1_6 := cb hb c1_6; have c1_7 := cb hb c1_7; clear hb)
  cases f1 with
  | false =>
    go_wp2_with (go_at_call 8; refine (alive5_calls _).mono ?_; rintro e w' ⟨rfl, hb⟩; have hB := bl_next hB hb; clear hb)
    go_ret
    exact ⟨rfl, bl_from Hw.out hB⟩
  | true =>
  cases f2 with
  | false =>
    go_wp2_with (go_at_call 8; refine (alive5_calls _).mono ?_; rintro e w' ⟨rfl, hb⟩; have hB := bl_next hB hb; clear hb)
    go_ret
    exact ⟨rfl, bl_from Hw.out hB⟩
  | true =>
  have HSA := Lib.hid (fit_small (o := a) (HF1.out rfl)); have HSB := Lib.hid (fit_small (o := b) (HF2.out rfl))
  have hla : a.charge.length ≤ 40 := (HF1.out rfl).2.2.2.2.1
  have hlb : b.charge.length ≤ 40 := (HF2.out rfl).2.2.2.2.1
  have HNM := Lib.hid (HF1.out rfl).2.2.2.2.2
  clear HF1 HF2 HFA HFB
  have HRI := Lib.hid (chargeR_in (o := a) HWA.out.1.2)
  have HRLN := chargeR_len (o := a) HWA.out.1.2
  have HRL : (chargeR a).2.length ≤ 41 := by omega
  have HRN := Lib.hid (chargeR_names (o := a) HWA.out.1.2)
  have HRV := Lib.hid (chargeR_rightV (o := a) HWA.out.1.2)
  have HCODE := Lib.hid (chargeR_code (o := a) HWA.out.1.2)
  have HGET := Lib.hid (fun (h : rightO a = true) => chargeR_get h HWA.out.1.2)
  have HWR := Lib.hid (fun (h : rightO a = false) => chargeR_wrong h)
  obtain ⟨ra, hra⟩ : ∃ x, rightO a = x := ⟨_, rfl⟩
  have HRA := Lib.hid hra
  rw [hra] at HCODE HGET HWR
  obtain ⟨⟨rc, rv⟩, hr⟩ : ∃ r, chargeR a = r := ⟨_, rfl⟩
  rw [hr] at HRI HRL HRLN HRN HRV HCODE HGET HWR
  simp only at HRI HRL HRLN HRN HRV HCODE HGET
  have HCR := Lib.hid hr
  clear hr
  have HC1 : Hid (∀ U, Below W.heap.size W U → Calls Try.prog 9 #[.agg #[.string a.key.kind, .string a.key.space, .string a.key.name, .int .i64 a.ver, .string a.cls, .bool a.term, .bool a.best, .slice aa a.charge.length ca]] U (VecOut U (rc, rv))) := Lib.hid fun U h => (ocharge_calls U (HWA.out.below h) HSA.out).mono fun e w' q => by rw [HCR.out] at q; exact q
  have HR1 : Hid (∀ U, Below W.heap.size W U → Calls Try.prog 14 #[.agg #[.string a.key.kind, .string a.key.space, .string a.key.name, .int .i64 a.ver, .string a.cls, .bool a.term, .bool a.best, .slice aa a.charge.length ca]] U (fun e w' => e = .returned (.bool ra) ∧ Below U.heap.size U w')) := Lib.hid fun U h => (oright_calls U (HWA.out.below h) HSA.out).mono fun e w' q => ⟨by rw [q.1, hra], q.2⟩
  clear hra
  cases ra with
  | false =>
    have h1 : rc = 1 := HCODE.out
    have h2 : rv = [] := (Prod.mk.inj (HWR.out rfl)).2
    subst h1; subst h2
    clear HCODE HGET HWR
    go_upto_region 9 with (first | (go_at_call 9; (with_reducible refine (HC1.out _ hB).mono ?_); intro e w' hv; obtain ⟨ax, cx, rfl, hvv, hb⟩ := vecOut_use hv HRI.out; clear hv hvv; have hB := bl_next hB hb; have c0_0 := cb hb c0_0; have c0_1 := cb hb c0_1; have c0_2 := cb hb c0_2; have c0_3 := cb hb c0_3; have c0_4 := cb hb c0_4; have c0_5 := cb hb c0_5; have c0_6 := cb hb c0_6; have c0_7 := cb hb c0_7; have c1_0 := cb hb c1_0; have c1_1 := cb hb c1_1; have c1_2 := cb hb c1_2; have c1_3 := cb hb c1_3; have c1_4 := cb hb c1_4; have c1_5 := cb hb c1_5; have c1_6 := cb hb c1_6; have c1_7 := cb hb c1_7; clear hb) | (go_at_call 14; (with_reducible refine (HR1.out _ hB).mono ?_); rintro e w' ⟨rfl, hb⟩; have hB := bl_next hB hb; have c0_0 := cb hb c0_0; have c0_1 := cb hb c0_1; have c0_2 := cb hb c0_2; have c0_3 := cb hb c0_3; have c0_4 := cb hb c0_4; have c0_5 := cb hb c0_5; have c0_6 := cb hb c0_6; have c0_7 := cb hb c0_7; have c1_0 := cb hb c1_0; have c1_1 := cb hb c1_1; have c1_2 := cb hb c1_2; have c1_3 := cb hb c1_3; have c1_4 := cb hb c1_4; have c1_5 := cb hb c1_5; have c1_6 := cb hb c1_6; have c1_7 := cb hb c1_7; clear hb))
    go_wp2_with (go_at_call 8; refine (alive5_calls _).mono ?_; rintro e w' ⟨rfl, hb⟩; have hB := bl_next hB hb; clear hb)
    go_ret
    exact ⟨rfl, bl_from Hw.out hB⟩
  | true =>
    have h1 : rc = 0 := HCODE.out
    subst h1
    obtain ⟨_, _, _, h16, hcb⟩ := rightO_parts HRA.out
    have HPOS := Lib.hid (show ∀ p ∈ a.charge, 0 ≤ p.2 ∧ p.2 ≤ 9223372036854775807 from fun p hp => ⟨((chargeB_iff.1 hcb).1 p hp).2, (HWA.out.1.2 p hp).2⟩)
    have HRIS := Lib.hid ((chargeB_iff.1 hcb).2)
    have HGT := Lib.hid (HGET.out rfl)
    clear hcb HWR HCODE HGET
    have hw1 : IntKind.i64.wrap ((a.charge.length : Int) + 1) = (a.charge.length : Int) + 1 := IntWalk.i64_in _ (by omega)
    have hw2 : ¬ ((a.charge.length : Int) + 1 < rv.length) := by omega
    have hw3 : decide ((a.charge.length : Int) + 1 < rv.length) = false := decide_eq_false hw2
    go_upto_region 12 with (first | (go_at_call 9; (with_reducible refine (HC1.out _ hB).mono ?_); intro e w' hv; obtain ⟨ax, cx, rfl, hrow, hvv, hb⟩ := vecOut_row hv HRI.out; have HV := Lib.hid hvv; have HROW := Lib.hid (rw_mono hrow hB.size); clear hv hvv hrow; have hB := bl_next hB hb; have c0_0 := cb hb c0_0; have c0_1 := cb hb c0_1; have c0_2 := cb hb c0_2; have c0_3 := cb hb c0_3; have c0_4 := cb hb c0_4; have c0_5 := cb hb c0_5; have c0_6 := cb hb c0_6; have c0_7 := cb hb c0_7; have c1_0 := cb hb c1_0; have c1_1 := cb hb c1_1; have c1_2 := cb hb c1_2; have c1_3 := cb hb c1_3; have c1_4 := cb hb c1_4; have c1_5 := cb hb c1_5; have c1_6 := cb hb c1_6; have c1_7 := cb hb c1_7; clear hb) | (go_at_call 14; (with_reducible refine (HR1.out _ hB).mono ?_); rintro e w' ⟨rfl, hb⟩; have HV := Lib.hid (HV.out.below hb); have HROW := Lib.hid (rw_below HROW.out hb); have hB := bl_next hB hb; have c0_0 := cb hb c0_0; have c0_1 := cb hb c0_1; have c0_2 := cb hb c0_2; have c0_3 := cb hb c0_3; have c0_4 := cb hb c0_4; have c0_5 := cb hb c0_5; have c0_6 := cb hb c0_6; have c0_7 := cb hb c0_7; have c1_0 := cb hb c1_0; have c1_1 := cb hb c1_1; have c1_2 := cb hb c1_2; have c1_3 := cb hb c1_3; have c1_4 := cb hb c1_4; have c1_5 := cb hb c1_5; have c1_6 := cb hb c1_6; have c1_7 := cb hb c1_7; clear hb) | (go_at_call 19; (with_reducible refine (vright_calls _ HV.out (by omega) (fun p hp => Nat.le_trans (HRN.out p hp) (by omega))).mono ?_); rintro e w' ⟨rfl, hb⟩; rw [HRV.out]; have HV := Lib.hid (HV.out.below hb); have HROW := Lib.hid (rw_below HROW.out hb); have hB := bl_next hB hb; have c0_0 := cb hb c0_0; have c0_1 := cb hb c0_1; have c0_2 := cb hb c0_2; have c0_3 := cb hb c0_3; have c0_4 := cb hb c0_4; have c0_5 := cb hb c0_5; have c0_6 := cb hb c0_6; have c0_7 := cb hb c0_7; have c1_0 := cb hb c1_0; have c1_1 := cb hb c1_1; have c1_2 := cb hb c1_2; have c1_3 := cb hb c1_3; have c1_4 := cb hb c1_4; have c1_5 := cb hb c1_5; have c1_6 := cb hb c1_6; have c1_7 := cb hb c1_7; clear hb))
    obtain ⟨X, rfl⟩ : ∃ X : World, X = w' := ⟨_, rfl⟩
    have HWX := Lib.hid hB
    have hXW := hB.size
    clear hB
    have HXA := Lib.hid (HWA.out.below HWX.out)
    have FX1 := Lib.hid (fb HWX.out HL1.out (F1.out 7))
    go_upto_region 13 with fail
    first | with_reducible refine name_wp ?_ | with_reducible refine name_calls ?_
    intro Y hY
    have HXY := Lib.hid (show Below X.heap.size X Y by rw [hY]; exact (Below.refl X.heap.size X).alloc (Nat.le_refl _) _)
    have HOY := Lib.hid (show Y.heap[X.heap.size]? = some (.cells #[.int .i64 (whi (1 + sumV (a.charge.take 0) objectsB)), .int .u64 (wlo (1 + sumV (a.charge.take 0) objectsB))] 40) by rw [hY]; exact blk_new X _)
    clear hY
    go_wp2_with fail
    go_loopw [10] (fun i wr => ∃ k : Nat, i = .int .i64 k ∧ k ≤ a.charge.length ∧ Hid (wr.heap[X.heap.size]? = some (.cells #[.int .i64 (whi (1 + sumV (a.charge.take k) objectsB)), .int .u64 (wlo (1 + sumV (a.charge.take k) objectsB))] 40)) ∧ Hid (Below X.heap.size X wr)) (fun i _ => a.charge.length - (intOf i).toNat)
    case atStart => exact ⟨0, rfl, Nat.zero_le _, HOY, HXY⟩
    case round =>
      obtain ⟨k, rfl, hk, HOB, HBr⟩ := hrel
      have k0_0 := cb HBr.out c0_0; have k0_1 := cb HBr.out c0_1; have k0_2 := cb HBr.out c0_2; have k0_3 := cb HBr.out c0_3; have k0_4 := cb HBr.out c0_4; have k0_5 := cb HBr.out c0_5; have k0_6 := cb HBr.out c0_6; have k0_7 := cb HBr.out c0_7; have k1_0 := cb HBr.out c1_0; have k1_1 := cb HBr.out c1_1; have k1_2 := cb HBr.out c1_2; have k1_3 := cb HBr.out c1_3; have k1_4 := cb HBr.out c1_4; have k1_5 := cb HBr.out c1_5; have k1_6 := cb HBr.out c1_6; have k1_7 := cb HBr.out c1_7
      have o0 : wr.cell? ⟨X.heap.size, 0, none⟩ = some (.int .i64 (whi (1 + sumV (a.charge.take k) objectsB))) := blk_cell HOB.out 0
      have o1 : wr.cell? ⟨X.heap.size, 1, none⟩ = some (.int .u64 (wlo (1 + sumV (a.charge.take k) objectsB))) := blk_cell HOB.out 1
      by_cases hkl : k < a.charge.length
      · have hkI : (k : Int) < a.charge.length := by omega
        obtain ⟨b0, of, c0, he, q0, q1, hin⟩ := HXA.out.1.at' hkl
        cases he
        have q0 := cb HBr.out q0; have q1 := cb HBr.out q1
        unfold in64 at hin
        obtain ⟨hin1, hin2⟩ := hin
        have HSUC := Lib.hid (sumV_succ hkl objectsB)
        have HPK := Lib.hid (HPOS.out _ (List.getElem_mem hkl))
        have HGK := Lib.hid (show getV rv (a.charge[k]'hkl).1 = (a.charge[k]'hkl).2 + (if (a.charge[k]'hkl).1 = objectsB then 1 else 0) from (HGT.out _).trans (congrArg (· + (if (a.charge[k]'hkl).1 = objectsB then (1 : Int) else 0)) (getV_mem HRIS.out (List.getElem_mem hkl))))
        have HBD := Lib.hid (sumV_bound (l := a.charge.take k) (fun p hp => HPOS.out p (List.mem_of_mem_take hp)) objectsB)
        have hlk : (a.charge.take k).length = k := by rw [List.length_take]; omega
        rw [hlk] at HBD
        clear hlk
        have hpz := HNM.out _ (List.getElem_mem hkl)
        obtain ⟨p, hp⟩ : ∃ p, a.charge[k]'hkl = p := ⟨_, rfl⟩
        rw [hp] at q0 q1 hin1 hin2 HSUC HPK HGK hpz
        clear hp
        obtain ⟨s, hs⟩ : ∃ s, 1 + sumV (a.charge.take k) objectsB = s := ⟨_, rfl⟩
        rw [hs] at HOB o0 o1
        have HS := Lib.hid hs
        clear hs
        obtain ⟨V, rfl⟩ : ∃ V : World, V = wr := ⟨_, rfl⟩
        have hB := Below.refl V.heap.size V
        have hXV := HBr.out.size
        have hoz := blk_lt HOB.out
        go_upto_region 17 with (go_at_call 20; refine (rof_calls _ _ hin1 hin2).mono ?_; rintro e w' ⟨rfl, hb⟩; unfold wideV; have hB := bl_next hB hb; have k0_0 := cb hb k0_0; have k0_1 := cb hb k0_1; have k0_2 := cb hb k0_2; have k0_3 := cb hb k0_3; have k0_4 := cb hb k0_4; have k0_5 := cb hb k0_5; have k0_6 := cb hb k0_6; have k0_7 := cb hb k0_7; have k1_0 := cb hb k1_0; have k1_1 := cb hb k1_1; have k1_2 := cb hb k1_2; have k1_3 := cb hb k1_3; have k1_4 := cb hb k1_4; have k1_5 := cb hb k1_5; have k1_6 := cb hb k1_6; have k1_7 := cb hb k1_7; have q0 := cb hb q0; have q1 := cb hb q1; have o0 := cb hb o0; have o1 := cb hb o1; clear hb)
        first | with_reducible refine name_wp ?_ | with_reducible refine name_calls ?_
        intro U hU
        have hUw : Below w'.heap.size w' U := by rw [hU]; exact (Below.refl _ _).alloc (Nat.le_refl _) _
        have n0 : U.cell? ⟨w'.heap.size, 0, none⟩ = some (.int .i64 (whi p.2)) := by rw [hU]; exact blk_cell (blk_new w' _) 0
        have n1 : U.cell? ⟨w'.heap.size, 1, none⟩ = some (.int .u64 (wlo p.2)) := by rw [hU]; exact blk_cell (blk_new w' _) 1
        clear hU
        have hVU : Below V.heap.size V U := bl_next hB hUw
        have k0_0 := cb hUw k0_0; have k0_1 := cb hUw k0_1; have k0_2 := cb hUw k0_2; have k0_3 := cb hUw k0_3; have k0_4 := cb hUw k0_4; have k0_5 := cb hUw k0_5; have k0_6 := cb hUw k0_6; have k0_7 := cb hUw k0_7; have k1_0 := cb hUw k1_0; have k1_1 := cb hUw k1_1; have k1_2 := cb hUw k1_2; have k1_3 := cb hUw k1_3; have k1_4 := cb hUw k1_4; have k1_5 := cb hUw k1_5; have k1_6 := cb hUw k1_6; have k1_7 := cb hUw k1_7; have q0 := cb hUw q0; have q1 := cb hUw q1; have o0 := cb hUw o0; have o1 := cb hUw o1
        have HOU := Lib.hid (blk_below HOB.out hVU)
        have HXU := Lib.hid (bl_next HBr.out hVU)
        clear hB hUw hVU
        have hB := Below.refl U.heap.size U
        have hXU := HXU.out.size
        by_cases hnm : p.1 = objectsB
        · have hq : p.1.toList = (⟨#[111, 98, 106, 101, 99, 116, 115]⟩ : ByteArray).toList := by rw [hnm]; rfl
          have hq2 : p.1.toList = [111, 98, 106, 101, 99, 116, 115] := hq.trans (by rw [Lib.toList_data])
          have HIN := Lib.hid (show wIn (p.2 + s) = true from by have h1 := HBD.out; have h2 := HPK.out; have h3 := HS.out; exact wide_in (by omega) (by omega))
          have HINs := Lib.hid (show wIn s = true from by have h1 := HBD.out; have h3 := HS.out; exact wide_in (by omega) (by omega))
          have HINp := Lib.hid (show wIn p.2 = true from by have h2 := HPK.out; exact wide_in (by omega) (by omega))
          have HNX := Lib.hid (show p.2 + s = 1 + sumV (a.charge.take (k + 1)) objectsB by rw [HSUC.out, if_pos hnm, ← HS.out]; omega)
          clear hnm
          go_upto_region 19 with (go_at_call 21; refine (radd_calls _ _ _ _ _ (WOk.of_in HINp.out) (WOk.of_in HINs.out)).mono ?_; rintro e w2 ⟨rfl, hb⟩; rw [wval_of, wval_of, wres_in HIN.out]; have hB := bl_next hB hb; clear hb)
          first | with_reducible refine name_wp ?_ | with_reducible refine name_calls ?_
          intro Z hZ
          have hZw : Below w2.heap.size w2 Z := by rw [hZ]; exact (Below.refl _ _).alloc (Nat.le_refl _) _
          have m0 : Z.cell? ⟨w2.heap.size, 0, none⟩ = some (.int .i64 (whi (p.2 + s))) := by rw [hZ]; exact blk_cell (blk_new w2 _) 0
          have m1 : Z.cell? ⟨w2.heap.size, 1, none⟩ = some (.int .u64 (wlo (p.2 + s))) := by rw [hZ]; exact blk_cell (blk_new w2 _) 1
          clear hZ
          have hUZ := bl_next hB hZw
          have HOZ := Lib.hid (blk_below HOU.out hUZ)
          have HXZ := Lib.hid (bl_next HXU.out hUZ)
          have kf0 := blk_free HOZ.out 0; have kf1 := blk_free HOZ.out 1
          have z0 := cb hUZ o0; have z1 := cb hUZ o1
          clear hB hUZ hZw
          go_wp2_with fail
          go_roundw
          case rel => exact ⟨k + 1, by simp, by omega, Lib.hid (by rw [← HNX.out]; exact heap_setCell_same _ _ 1 _ _ _ (heap_setCell_same _ _ 0 _ _ _ HOZ.out)), Lib.hid ((HXZ.out.setCell (Nat.le_refl _) _).setCell (Nat.le_refl _) _)⟩
          case measure => simp [intOf]; omega
        · have hq : ¬ p.1.toList = (⟨#[111, 98, 106, 101, 99, 116, 115]⟩ : ByteArray).toList := fun e => hnm (ba_eq.1 e)
          have hqf : (p.1.toList == (⟨#[111, 98, 106, 101, 99, 116, 115]⟩ : ByteArray).toList) = false := by simpa using hq
          have hq2 : ¬ p.1.toList = [111, 98, 106, 101, 99, 116, 115] := fun e => hq (e.trans (by rw [Lib.toList_data]))
          have hq3 : (p.1.toList == [111, 98, 106, 101, 99, 116, 115]) = false := by simpa using hq2
          have HNX := Lib.hid (show s = 1 + sumV (a.charge.take (k + 1)) objectsB by rw [HSUC.out, if_neg hnm, ← HS.out]; omega)
          have HGP := Lib.hid (show getV rv p.1 = p.2 by rw [HGK.out, if_neg hnm]; omega)
          have HVU := Lib.hid (HV.out.below HXU.out)
          clear hnm
          go_upto_region 20 with fail
          have hB := hB.drew
          refine region_seq (fun w' => Below U.heap.size U w') [(0, true), (1, true), (2, true), (3, true), (4, true), (5, true), (6, true), (8, true), (7, false), (9, true)] (by kernel_rfl) (by kernel_rfl) (fun _ _ _ _ h => h) hB ?_
          try generalize World.drew _ = wS at hB ⊢
          refine seq_take (v := ?_) (a' := ?_) (some 86) rfl rfl (by rfl) ?_ ?_ ?_
          rotate_left; rotate_left
          · intro w' hS; go_simp; with_reducible rfl
          · simp only [Act.put, List.setIfInBounds_toArray, List.set_cons_zero, List.set_cons_succ]; rfl
          refine seq_take (v := ?_) (a' := ?_) (some 87) rfl rfl (by rfl) ?_ ?_ ?_
          rotate_left; rotate_left
          · intro w' hS; go_simp; with_reducible rfl
          · simp only [Act.put, List.setIfInBounds_toArray, List.set_cons_zero, List.set_cons_succ]; rfl
          refine seq_take (v := ?_) (a' := ?_) (some 88) rfl rfl (by rfl) ?_ ?_ ?_
          rotate_left; rotate_left
          · intro w' hS; have p0 := cb hS k0_7; have p1 := cb hS q0; have p2 := cb hS n0; have p3 := cb hS n1; go_simp; with_reducible rfl
          · simp only [Act.put, List.setIfInBounds_toArray, List.set_cons_zero, List.set_cons_succ]; rfl
          refine seq_take (v := ?_) (a' := ?_) (some 89) rfl rfl (by rfl) ?_ ?_ ?_
          rotate_left; rotate_left
          · intro w' hS; go_simp; with_reducible rfl
          · simp only [Act.put, List.setIfInBounds_toArray, List.set_cons_zero, List.set_cons_succ]; rfl
          refine seq_take (v := ?_) (a' := ?_) (some 90) rfl rfl (by rfl) ?_ ?_ ?_
          rotate_left; rotate_left
          · intro w' hS; go_simp; with_reducible rfl
          · simp only [Act.put, List.setIfInBounds_toArray, List.set_cons_zero, List.set_cons_succ]; rfl
          refine seq_take (v := ?_) (a' := ?_) (some 91) rfl rfl (by rfl) ?_ ?_ ?_
          rotate_left; rotate_left
          · intro w' hS; go_simp; with_reducible rfl
          · simp only [Act.put, List.setIfInBounds_toArray, List.set_cons_zero, List.set_cons_succ]; rfl
          refine seq_take (v := ?_) (a' := ?_) (some 92) rfl rfl (by rfl) ?_ ?_ ?_
          rotate_left; rotate_left
          · intro w' hS; have p0 := cb hS k0_7; have p1 := cb hS q0; have p2 := cb hS n0; have p3 := cb hS n1; go_simp; with_reducible rfl
          · simp only [Act.put, List.setIfInBounds_toArray, List.set_cons_zero, List.set_cons_succ]; rfl
          refine seq_take (v := ?_) (a' := ?_) (some 94) rfl rfl (by rfl) ?_ ?_ ?_
          rotate_left; rotate_left
          · intro w' hS; have p0 := cb hS k0_7; have p1 := cb hS q0; have p2 := cb hS n0; have p3 := cb hS n1; go_simp; with_reducible rfl
          · simp only [Act.put, List.setIfInBounds_toArray, List.set_cons_zero, List.set_cons_succ]; rfl
          refine seq_call (args := ?_) Try.func22 (by kernel_rfl) rfl (some 93) rfl rfl (by rfl) rfl ?_ ?_
          rotate_left
          · simp only [List.map_toArray, List.map_cons, List.map_nil]; go_simp; rfl
          with_reducible refine (vget_calls _ (HVU.out.below hB) _ (by omega)).mono ?_
          rintro e w' ⟨rfl, hb⟩
          rw [HGP.out]; unfold wideV
          refine ⟨_, rfl, bl_next (by repeat (first | with_reducible exact hB | refine Below.alloc ?_ (by have := hB.size; simp; omega) _ | refine bl_dN ?_ _ | refine Below.drew ?_ | refine Below.setCell ?_ (by have := hB.size; simp; omega) _)) hb, ?_⟩
          have hB := bl_next (by repeat (first | with_reducible exact hB | refine Below.alloc ?_ (by have := hB.size; simp; omega) _ | refine bl_dN ?_ _ | refine Below.drew ?_ | refine Below.setCell ?_ (by have := hB.size; simp; omega) _)) hb; clear hb
          simp only [Act.put, List.setIfInBounds_toArray, List.set_cons_zero, List.set_cons_succ]
          refine seq_take (v := ?_) (a' := ?_) (some 95) rfl rfl (by rfl) ?_ ?_ ?_
          rotate_left; rotate_left
          · intro w' hS; go_simp; with_reducible rfl
          · simp only [Act.put, List.setIfInBounds_toArray, List.set_cons_zero, List.set_cons_succ]; rfl
          refine seq_done ?_
          go_wp2_with fail
          go_roundw
          case rel => exact ⟨k + 1, by simp, by omega, Lib.hid (by rw [← HNX.out]; exact blk_below HOU.out hB), Lib.hid (bl_next HXU.out hB)⟩
          case measure => simp [intOf]; omega
      · obtain rfl : k = a.charge.length := by omega
        have hT := HOB.out
        rw [List.take_length, show 1 + sumV a.charge objectsB = getV rv objectsB by rw [HGT.out, if_pos rfl, sumV_rise HRIS.out]; omega] at hT
        have HT := Lib.hid hT
        obtain ⟨g, hg⟩ : ∃ g, getV rv objectsB = g := ⟨_, rfl⟩
        have HG := Lib.hid (show getV rv ⟨#[111, 98, 106, 101, 99, 116, 115]⟩ = g from hg)
        rw [hg] at HT
        clear hT hg o0 o1
        obtain ⟨V, rfl⟩ : ∃ V : World, V = wr := ⟨_, rfl⟩
        have hXV := HBr.out.size
        have kf := fb HBr.out (by have := HL1.out; show w.heap.size + 1 < _; omega) FX1.out
        have HBO := Lib.hid (blk_below (blk_below G1.out HWX.out) HBr.out)
        have HWV := Lib.hid (HWX.out.trans (HBr.out.mono hXW))
        have hWw := Hw.out.size
        go_upto_region 23 with fail
        first | with_reducible refine name_wp ?_ | with_reducible refine name_calls ?_
        intro Y2 hY2
        have hL1 := HL1.out
        have KP : Kept (fun q => q = w.heap.size + 1) V Y2 := by rw [hY2]; exact (Kept.refl _ _).setCell _ _ (.inl rfl)
        have hwY : Below w.heap.size w Y2 := by rw [hY2]; exact (bl_from Hw.out HWV.out).setCell (by show w.heap.size ≤ w.heap.size + 1; omega) _
        have HRW2 := Lib.hid (rw_kept (rw_below HROW.out HBr.out) KP (fun q hq e => by have := (rw_type HROW.out hq).1; omega))
        have HV2 := Lib.hid (show VecS Y2 (.slice ax rv.length cx) rv from ⟨sliS_of HRW2.out, HRI.out⟩)
        have HT2 := Lib.hid (KP.heap HT.out (by omega))
        have g0 : Y2.cell? ⟨X.heap.size, 0, none⟩ = some (.int .i64 (whi g)) := blk_cell HT2.out 0
        have g1 : Y2.cell? ⟨X.heap.size, 1, none⟩ = some (.int .u64 (wlo g)) := blk_cell HT2.out 1
        have gB : Y2.heap[w.heap.size + 1]? = some (.cells #[.string b.key.kind, .string b.key.space, .string b.key.name, .int .i64 b.ver, .string b.cls, .bool b.term, .bool b.best, .slice aa a.charge.length ca] 26) := by rw [hY2]; exact heap_setCell_same _ _ 7 _ _ _ HBO.out
        have y0 : Y2.cell? ⟨w.heap.size + 1, 0, none⟩ = some (.string b.key.kind) := blk_cell gB 0; have y1 : Y2.cell? ⟨w.heap.size + 1, 1, none⟩ = some (.string b.key.space) := blk_cell gB 1; have y2 : Y2.cell? ⟨w.heap.size + 1, 2, none⟩ = some (.string b.key.name) := blk_cell gB 2; have y3 : Y2.cell? ⟨w.heap.size + 1, 3, none⟩ = some (.int .i64 b.ver) := blk_cell gB 3; have y4 : Y2.cell? ⟨w.heap.size + 1, 4, none⟩ = some (.string b.cls) := blk_cell gB 4; have y5 : Y2.cell? ⟨w.heap.size + 1, 5, none⟩ = some (.bool b.term) := blk_cell gB 5; have y6 : Y2.cell? ⟨w.heap.size + 1, 6, none⟩ = some (.bool b.best) := blk_cell gB 6; have y7 : Y2.cell? ⟨w.heap.size + 1, 7, none⟩ = some (.slice aa a.charge.length ca) := blk_cell gB 7
        have HBX : Hid (ObjS Y2 (.slice aa a.charge.length ca) (withC b a.charge)) := Lib.hid ⟨(HA.out.below hwY).1, HB.out.2⟩
        have HSX : Hid (objSmall (withC b a.charge)) := Lib.hid ⟨HSB.out.1, HSB.out.2.1, HSA.out.2.2.1, HSA.out.2.2.2⟩
        have HwY := Lib.hid hwY
        clear hY2 KP hwY gB kf
        have hB := Below.refl Y2.heap.size Y2
        obtain ⟨rb, hrb⟩ : ∃ x, rightO (withC b a.charge) = x := ⟨_, rfl⟩
        have HRB : Hid (∀ U, Below Y2.heap.size Y2 U → Calls Try.prog 14 #[.agg #[.string b.key.kind, .string b.key.space, .string b.key.name, .int .i64 b.ver, .string b.cls, .bool b.term, .bool b.best, .slice aa a.charge.length ca]] U fun e w' => e = .returned (.bool rb) ∧ Below U.heap.size U w') := Lib.hid fun U h => (oright_calls U (HBX.out.below h) HSX.out).mono fun e w' q => ⟨by rw [q.1, hrb], q.2⟩
        cases rb with
        | false =>
          have HE := Lib.hid (chargeR_wrong hrb)
          have HC3 : Hid (∀ U, Below Y2.heap.size Y2 U → Calls Try.prog 9 #[.agg #[.string b.key.kind, .string b.key.space, .string b.key.name, .int .i64 b.ver, .string b.cls, .bool b.term, .bool b.best, .slice aa a.charge.length ca]] U (VecOut U (1, []))) := Lib.hid fun U h => (ocharge_calls U (HBX.out.below h) HSX.out).mono fun e w' q => by rw [HE.out] at q; exact q
          clear hrb
          go_upto_region 24 with (go_at_call 9; (with_reducible refine (HC3.out _ hB).mono ?_); intro e w' hv; obtain ⟨ay, cy, rfl, hb⟩ := noneOut hv; clear hv; have hB := bl_next hB hb; clear hb)
          have hB := hB.drew
          refine region_seq (fun w' => Below Y2.heap.size Y2 w') [(0, false), (1, true), (2, true), (4, true), (3, false), (5, true), (6, true), (7, true), (8, true), (9, true), (10, true), (11, true), (12, true), (13, false), (14, true), (15, true), (16, true), (17, true), (18, true), (19, true), (20, false), (21, true), (22, true), (23, true)] (by kernel_rfl) (by kernel_rfl) (fun _ _ _ _ h => h) hB ?_
          try generalize World.drew _ = wS at hB ⊢
          refine seq_call (args := ?_) Try.func8 (by kernel_rfl) rfl (some 104) rfl rfl (by rfl) rfl ?_ ?_
          rotate_left
          · simp only [List.map_toArray, List.map_cons, List.map_nil]; go_simp; rfl
          with_reducible refine (alive5_calls _).mono ?_
          rintro e w' ⟨rfl, hb⟩
          refine ⟨_, rfl, bl_next (by repeat (first | with_reducible exact hB | refine Below.alloc ?_ (by have := hB.size; simp; omega) _ | refine bl_dN ?_ _ | refine Below.drew ?_ | refine Below.setCell ?_ (by have := hB.size; simp; omega) _)) hb, ?_⟩
          have hB := bl_next (by repeat (first | with_reducible exact hB | refine Below.alloc ?_ (by have := hB.size; simp; omega) _ | refine bl_dN ?_ _ | refine Below.drew ?_ | refine Below.setCell ?_ (by have := hB.size; simp; omega) _)) hb; clear hb
          simp only [Act.put, List.setIfInBounds_toArray, List.set_cons_zero, List.set_cons_succ]
          refine seq_take (v := ?_) (a' := ?_) (some 105) rfl rfl (by rfl) ?_ ?_ ?_
          rotate_left; rotate_left
          · intro w' hS; go_simp; with_reducible rfl
          · simp only [Act.put, List.setIfInBounds_toArray, List.set_cons_zero, List.set_cons_succ]; rfl
          refine seq_take (v := ?_) (a' := ?_) (some 106) rfl rfl (by rfl) ?_ ?_ ?_
          rotate_left; rotate_left
          · intro w' hS; go_simp; with_reducible rfl
          · simp only [Act.put, List.setIfInBounds_toArray, List.set_cons_zero, List.set_cons_succ]; rfl
          refine seq_take (v := ?_) (a' := ?_) (some 108) rfl rfl (by rfl) ?_ ?_ ?_
          rotate_left; rotate_left
          · intro w' hS; have p0 := cb hS y0; have p1 := cb hS y1; have p2 := cb hS y2; have p3 := cb hS y3; have p4 := cb hS y4; have p5 := cb hS y5; have p6 := cb hS y6; have p7 := cb hS y7; have p8 := cb hS g0; have p9 := cb hS g1; go_simp; with_reducible rfl
          · simp only [Act.put, List.setIfInBounds_toArray, List.set_cons_zero, List.set_cons_succ]; rfl
          refine seq_call (args := ?_) Try.func22 (by kernel_rfl) rfl (some 107) rfl rfl (by rfl) rfl ?_ ?_
          rotate_left
          · simp only [List.map_toArray, List.map_cons, List.map_nil]; go_simp; rfl
          with_reducible refine (vget_calls _ (HV2.out.below hB) ⟨#[111, 98, 106, 101, 99, 116, 115]⟩ (by omega)).mono ?_
          rintro e w' ⟨rfl, hb⟩
          rw [HG.out]; unfold wideV
          refine ⟨_, rfl, bl_next (by repeat (first | with_reducible exact hB | refine Below.alloc ?_ (by have := hB.size; simp; omega) _ | refine bl_dN ?_ _ | refine Below.drew ?_ | refine Below.setCell ?_ (by have := hB.size; simp; omega) _)) hb, ?_⟩
          have hB := bl_next (by repeat (first | with_reducible exact hB | refine Below.alloc ?_ (by have := hB.size; simp; omega) _ | refine bl_dN ?_ _ | refine Below.drew ?_ | refine Below.setCell ?_ (by have := hB.size; simp; omega) _)) hb; clear hb
          simp only [Act.put, List.setIfInBounds_toArray, List.set_cons_zero, List.set_cons_succ]
          refine seq_take (v := ?_) (a' := ?_) (some 109) rfl rfl (by rfl) ?_ ?_ ?_
          rotate_left; rotate_left
          · intro w' hS; go_simp; with_reducible rfl
          · simp only [Act.put, List.setIfInBounds_toArray, List.set_cons_zero, List.set_cons_succ]; rfl
          refine seq_take (v := ?_) (a' := ?_) (some 110) rfl rfl (by rfl) ?_ ?_ ?_
          rotate_left; rotate_left
          · intro w' hS; go_simp; with_reducible rfl
          · simp only [Act.put, List.setIfInBounds_toArray, List.set_cons_zero, List.set_cons_succ]; rfl
          refine seq_take (v := ?_) (a' := ?_) (some 111) rfl rfl (by rfl) ?_ ?_ ?_
          rotate_left; rotate_left
          · intro w' hS; go_simp; with_reducible rfl
          · simp only [Act.put, List.setIfInBounds_toArray, List.set_cons_zero, List.set_cons_succ]; rfl
          refine seq_take (v := ?_) (a' := ?_) (some 112) rfl rfl (by rfl) ?_ ?_ ?_
          rotate_left; rotate_left
          · intro w' hS; go_simp; with_reducible rfl
          · simp only [Act.put, List.setIfInBounds_toArray, List.set_cons_zero, List.set_cons_succ]; rfl
          refine seq_take (v := ?_) (a' := ?_) (some 113) rfl rfl (by rfl) ?_ ?_ ?_
          rotate_left; rotate_left
          · intro w' hS; go_simp; with_reducible rfl
          · simp only [Act.put, List.setIfInBounds_toArray, List.set_cons_zero, List.set_cons_succ]; rfl
          refine seq_take (v := ?_) (a' := ?_) (some 114) rfl rfl (by rfl) ?_ ?_ ?_
          rotate_left; rotate_left
          · intro w' hS; go_simp; with_reducible rfl
          · simp only [Act.put, List.setIfInBounds_toArray, List.set_cons_zero, List.set_cons_succ]; rfl
          refine seq_skip (a' := ?_) (some 115) rfl rfl (by rfl) ?_ ?_
          rotate_left
          · simp only [Act.put, List.setIfInBounds_toArray, List.set_cons_zero, List.set_cons_succ]; rfl
          refine seq_skip (a' := ?_) (some 116) rfl rfl (by rfl) ?_ ?_
          rotate_left
          · simp only [Act.put, List.setIfInBounds_toArray, List.set_cons_zero, List.set_cons_succ]; rfl
          refine seq_skip1 (a' := ?_) (some 117) rfl rfl (by rfl) ?_ hB ?_
          rotate_left
          · simp only [Act.put, List.setIfInBounds_toArray, List.set_cons_zero, List.set_cons_succ]; rfl
          refine seq_take (v := ?_) (a' := ?_) (some 118) rfl rfl (by rfl) ?_ ?_ ?_
          rotate_left; rotate_left
          · intro w' hS; go_simp; with_reducible rfl
          · simp only [Act.put, List.setIfInBounds_toArray, List.set_cons_zero, List.set_cons_succ]; rfl
          refine seq_take (v := ?_) (a' := ?_) (some 119) rfl rfl (by rfl) ?_ ?_ ?_
          rotate_left; rotate_left
          · intro w' hS; go_simp; with_reducible rfl
          · simp only [Act.put, List.setIfInBounds_toArray, List.set_cons_zero, List.set_cons_succ]; rfl
          refine seq_take (v := ?_) (a' := ?_) (some 120) rfl rfl (by rfl) ?_ ?_ ?_
          rotate_left; rotate_left
          · intro w' hS; go_simp; with_reducible rfl
          · simp only [Act.put, List.setIfInBounds_toArray, List.set_cons_zero, List.set_cons_succ]; rfl
          refine seq_take (v := ?_) (a' := ?_) (some 121) rfl rfl (by rfl) ?_ ?_ ?_
          rotate_left; rotate_left
          · intro w' hS; go_simp; with_reducible rfl
          · simp only [Act.put, List.setIfInBounds_toArray, List.set_cons_zero, List.set_cons_succ]; rfl
          refine seq_take (v := ?_) (a' := ?_) (some 122) rfl rfl (by rfl) ?_ ?_ ?_
          rotate_left; rotate_left
          · intro w' hS; go_simp; with_reducible rfl
          · simp only [Act.put, List.setIfInBounds_toArray, List.set_cons_zero, List.set_cons_succ]; rfl
          refine seq_take (v := ?_) (a' := ?_) (some 123) rfl rfl (by rfl) ?_ ?_ ?_
          rotate_left; rotate_left
          · intro w' hS; have p0 := cb hS y0; have p1 := cb hS y1; have p2 := cb hS y2; have p3 := cb hS y3; have p4 := cb hS y4; have p5 := cb hS y5; have p6 := cb hS y6; have p7 := cb hS y7; have p8 := cb hS g0; have p9 := cb hS g1; go_simp; with_reducible rfl
          · simp only [Act.put, List.setIfInBounds_toArray, List.set_cons_zero, List.set_cons_succ]; rfl
          refine seq_call (args := ?_) Try.func14 (by kernel_rfl) rfl (some 124) rfl rfl (by rfl) rfl ?_ ?_
          rotate_left
          · simp only [List.map_toArray, List.map_cons, List.map_nil]; go_simp; rfl
          with_reducible refine (HRB.out _ hB).mono ?_
          rintro e w' ⟨rfl, hb⟩
          refine ⟨_, rfl, bl_next (by repeat (first | with_reducible exact hB | refine Below.alloc ?_ (by have := hB.size; simp; omega) _ | refine bl_dN ?_ _ | refine Below.drew ?_ | refine Below.setCell ?_ (by have := hB.size; simp; omega) _)) hb, ?_⟩
          have hB := bl_next (by repeat (first | with_reducible exact hB | refine Below.alloc ?_ (by have := hB.size; simp; omega) _ | refine bl_dN ?_ _ | refine Below.drew ?_ | refine Below.setCell ?_ (by have := hB.size; simp; omega) _)) hb; clear hb
          simp only [Act.put, List.setIfInBounds_toArray, List.set_cons_zero, List.set_cons_succ]
          refine seq_take (v := ?_) (a' := ?_) (some 125) rfl rfl (by rfl) ?_ ?_ ?_
          rotate_left; rotate_left
          · intro w' hS; go_simp; with_reducible rfl
          · simp only [Act.put, List.setIfInBounds_toArray, List.set_cons_zero, List.set_cons_succ]; rfl
          refine seq_take (v := ?_) (a' := ?_) (some 126) rfl rfl (by rfl) ?_ ?_ ?_
          rotate_left; rotate_left
          · intro w' hS; go_simp; with_reducible rfl
          · simp only [Act.put, List.setIfInBounds_toArray, List.set_cons_zero, List.set_cons_succ]; rfl
          refine seq_take (v := ?_) (a' := ?_) (some 4) rfl rfl (by rfl) ?_ ?_ ?_
          rotate_left; rotate_left
          · intro w' hS; go_simp; with_reducible rfl
          · simp only [Act.put, List.setIfInBounds_toArray, List.set_cons_zero, List.set_cons_succ]; rfl
          refine seq_done ?_
          go_wp2_with fail
          go_ret
          exact ⟨rfl, bl_from HwY.out hB⟩
        | true =>
          have HE := Lib.hid ((chargeR_same HWA.out.1.2 HRA.out hrb rfl).trans HCR.out)
          have HC3 : Hid (∀ U, Below Y2.heap.size Y2 U → Calls Try.prog 9 #[.agg #[.string b.key.kind, .string b.key.space, .string b.key.name, .int .i64 b.ver, .string b.cls, .bool b.term, .bool b.best, .slice aa a.charge.length ca]] U (VecOut U (0, rv))) := Lib.hid fun U h => (ocharge_calls U (HBX.out.below h) HSX.out).mono fun e w' q => by rw [HE.out] at q; exact q
          clear hrb
          go_upto_region 24 with (go_at_call 9; (with_reducible refine (HC3.out _ hB).mono ?_); intro e w' hv; obtain ⟨ay, cy, rfl, hvv, hb⟩ := vecOut_use hv HRI.out; have HVY := Lib.hid hvv; clear hv hvv; have hB := bl_next hB hb; clear hb)
          obtain ⟨Y3, rfl⟩ : ∃ Y3 : World, Y3 = w' := ⟨_, rfl⟩
          have HY3 := Lib.hid hB
          have HV2 := Lib.hid (HV2.out.below hB)
          have y0 := cb hB y0; have y1 := cb hB y1; have y2 := cb hB y2; have y3 := cb hB y3; have y4 := cb hB y4; have y5 := cb hB y5; have y6 := cb hB y6; have y7 := cb hB y7; have g0 := cb hB g0; have g1 := cb hB g1
          clear hB
          have hB := Below.refl Y3.heap.size Y3
          have hB := hB.drew
          refine region_seq (fun w' => Below Y3.heap.size Y3 w') [(0, false), (1, true), (2, true), (4, true), (3, false), (5, true), (6, true), (7, true), (8, true), (9, true), (10, true), (11, true), (12, true), (13, false), (14, true), (15, true), (16, true), (17, true), (18, true), (19, true), (20, false), (21, true), (22, true), (23, true)] (by kernel_rfl) (by kernel_rfl) (fun _ _ _ _ h => h) hB ?_
          try generalize World.drew _ = wS at hB ⊢
          refine seq_call (args := ?_) Try.func8 (by kernel_rfl) rfl (some 104) rfl rfl (by rfl) rfl ?_ ?_
          rotate_left
          · simp only [List.map_toArray, List.map_cons, List.map_nil]; go_simp; rfl
          with_reducible refine (alive5_calls _).mono ?_
          rintro e w' ⟨rfl, hb⟩
          refine ⟨_, rfl, bl_next (by repeat (first | with_reducible exact hB | refine Below.alloc ?_ (by have := hB.size; simp; omega) _ | refine bl_dN ?_ _ | refine Below.drew ?_ | refine Below.setCell ?_ (by have := hB.size; simp; omega) _)) hb, ?_⟩
          have hB := bl_next (by repeat (first | with_reducible exact hB | refine Below.alloc ?_ (by have := hB.size; simp; omega) _ | refine bl_dN ?_ _ | refine Below.drew ?_ | refine Below.setCell ?_ (by have := hB.size; simp; omega) _)) hb; clear hb
          simp only [Act.put, List.setIfInBounds_toArray, List.set_cons_zero, List.set_cons_succ]
          refine seq_take (v := ?_) (a' := ?_) (some 105) rfl rfl (by rfl) ?_ ?_ ?_
          rotate_left; rotate_left
          · intro w' hS; go_simp; with_reducible rfl
          · simp only [Act.put, List.setIfInBounds_toArray, List.set_cons_zero, List.set_cons_succ]; rfl
          refine seq_take (v := ?_) (a' := ?_) (some 106) rfl rfl (by rfl) ?_ ?_ ?_
          rotate_left; rotate_left
          · intro w' hS; go_simp; with_reducible rfl
          · simp only [Act.put, List.setIfInBounds_toArray, List.set_cons_zero, List.set_cons_succ]; rfl
          refine seq_take (v := ?_) (a' := ?_) (some 108) rfl rfl (by rfl) ?_ ?_ ?_
          rotate_left; rotate_left
          · intro w' hS; have p0 := cb hS y0; have p1 := cb hS y1; have p2 := cb hS y2; have p3 := cb hS y3; have p4 := cb hS y4; have p5 := cb hS y5; have p6 := cb hS y6; have p7 := cb hS y7; have p8 := cb hS g0; have p9 := cb hS g1; go_simp; with_reducible rfl
          · simp only [Act.put, List.setIfInBounds_toArray, List.set_cons_zero, List.set_cons_succ]; rfl
          refine seq_call (args := ?_) Try.func22 (by kernel_rfl) rfl (some 107) rfl rfl (by rfl) rfl ?_ ?_
          rotate_left
          · simp only [List.map_toArray, List.map_cons, List.map_nil]; go_simp; rfl
          with_reducible refine (vget_calls _ (HV2.out.below hB) ⟨#[111, 98, 106, 101, 99, 116, 115]⟩ (by omega)).mono ?_
          rintro e w' ⟨rfl, hb⟩
          rw [HG.out]; unfold wideV
          refine ⟨_, rfl, bl_next (by repeat (first | with_reducible exact hB | refine Below.alloc ?_ (by have := hB.size; simp; omega) _ | refine bl_dN ?_ _ | refine Below.drew ?_ | refine Below.setCell ?_ (by have := hB.size; simp; omega) _)) hb, ?_⟩
          have hB := bl_next (by repeat (first | with_reducible exact hB | refine Below.alloc ?_ (by have := hB.size; simp; omega) _ | refine bl_dN ?_ _ | refine Below.drew ?_ | refine Below.setCell ?_ (by have := hB.size; simp; omega) _)) hb; clear hb
          simp only [Act.put, List.setIfInBounds_toArray, List.set_cons_zero, List.set_cons_succ]
          refine seq_take (v := ?_) (a' := ?_) (some 109) rfl rfl (by rfl) ?_ ?_ ?_
          rotate_left; rotate_left
          · intro w' hS; go_simp; with_reducible rfl
          · simp only [Act.put, List.setIfInBounds_toArray, List.set_cons_zero, List.set_cons_succ]; rfl
          refine seq_take (v := ?_) (a' := ?_) (some 110) rfl rfl (by rfl) ?_ ?_ ?_
          rotate_left; rotate_left
          · intro w' hS; go_simp; with_reducible rfl
          · simp only [Act.put, List.setIfInBounds_toArray, List.set_cons_zero, List.set_cons_succ]; rfl
          refine seq_take (v := ?_) (a' := ?_) (some 111) rfl rfl (by rfl) ?_ ?_ ?_
          rotate_left; rotate_left
          · intro w' hS; go_simp; with_reducible rfl
          · simp only [Act.put, List.setIfInBounds_toArray, List.set_cons_zero, List.set_cons_succ]; rfl
          refine seq_take (v := ?_) (a' := ?_) (some 112) rfl rfl (by rfl) ?_ ?_ ?_
          rotate_left; rotate_left
          · intro w' hS; go_simp; with_reducible rfl
          · simp only [Act.put, List.setIfInBounds_toArray, List.set_cons_zero, List.set_cons_succ]; rfl
          refine seq_take (v := ?_) (a' := ?_) (some 113) rfl rfl (by rfl) ?_ ?_ ?_
          rotate_left; rotate_left
          · intro w' hS; go_simp; with_reducible rfl
          · simp only [Act.put, List.setIfInBounds_toArray, List.set_cons_zero, List.set_cons_succ]; rfl
          refine seq_take (v := ?_) (a' := ?_) (some 114) rfl rfl (by rfl) ?_ ?_ ?_
          rotate_left; rotate_left
          · intro w' hS; go_simp; with_reducible rfl
          · simp only [Act.put, List.setIfInBounds_toArray, List.set_cons_zero, List.set_cons_succ]; rfl
          refine seq_take (v := ?_) (a' := ?_) (some 115) rfl rfl (by rfl) ?_ ?_ ?_
          rotate_left; rotate_left
          · intro w' hS; go_simp; with_reducible rfl
          · simp only [Act.put, List.setIfInBounds_toArray, List.set_cons_zero, List.set_cons_succ]; rfl
          refine seq_take (v := ?_) (a' := ?_) (some 116) rfl rfl (by rfl) ?_ ?_ ?_
          rotate_left; rotate_left
          · intro w' hS; go_simp; with_reducible rfl
          · simp only [Act.put, List.setIfInBounds_toArray, List.set_cons_zero, List.set_cons_succ]; rfl
          refine seq_call (args := ?_) Try.func23 (by kernel_rfl) rfl (some 117) rfl rfl (by rfl) rfl ?_ ?_
          rotate_left
          · simp only [List.map_toArray, List.map_cons, List.map_nil]; go_simp; rfl
          with_reducible refine (vsame_calls _ (HV2.out.below hB) (HVY.out.below hB) (by omega) (by omega)).mono ?_
          rintro e w' ⟨rfl, hb⟩
          rw [decide_eq_true (rfl : rv = rv)]
          refine ⟨_, rfl, bl_next (by repeat (first | with_reducible exact hB | refine Below.alloc ?_ (by have := hB.size; simp; omega) _ | refine bl_dN ?_ _ | refine Below.drew ?_ | refine Below.setCell ?_ (by have := hB.size; simp; omega) _)) hb, ?_⟩
          have hB := bl_next (by repeat (first | with_reducible exact hB | refine Below.alloc ?_ (by have := hB.size; simp; omega) _ | refine bl_dN ?_ _ | refine Below.drew ?_ | refine Below.setCell ?_ (by have := hB.size; simp; omega) _)) hb; clear hb
          simp only [Act.put, List.setIfInBounds_toArray, List.set_cons_zero, List.set_cons_succ]
          refine seq_take (v := ?_) (a' := ?_) (some 118) rfl rfl (by rfl) ?_ ?_ ?_
          rotate_left; rotate_left
          · intro w' hS; go_simp; with_reducible rfl
          · simp only [Act.put, List.setIfInBounds_toArray, List.set_cons_zero, List.set_cons_succ]; rfl
          refine seq_take (v := ?_) (a' := ?_) (some 119) rfl rfl (by rfl) ?_ ?_ ?_
          rotate_left; rotate_left
          · intro w' hS; go_simp; with_reducible rfl
          · simp only [Act.put, List.setIfInBounds_toArray, List.set_cons_zero, List.set_cons_succ]; rfl
          refine seq_take (v := ?_) (a' := ?_) (some 120) rfl rfl (by rfl) ?_ ?_ ?_
          rotate_left; rotate_left
          · intro w' hS; go_simp; with_reducible rfl
          · simp only [Act.put, List.setIfInBounds_toArray, List.set_cons_zero, List.set_cons_succ]; rfl
          refine seq_take (v := ?_) (a' := ?_) (some 121) rfl rfl (by rfl) ?_ ?_ ?_
          rotate_left; rotate_left
          · intro w' hS; go_simp; with_reducible rfl
          · simp only [Act.put, List.setIfInBounds_toArray, List.set_cons_zero, List.set_cons_succ]; rfl
          refine seq_take (v := ?_) (a' := ?_) (some 122) rfl rfl (by rfl) ?_ ?_ ?_
          rotate_left; rotate_left
          · intro w' hS; go_simp; with_reducible rfl
          · simp only [Act.put, List.setIfInBounds_toArray, List.set_cons_zero, List.set_cons_succ]; rfl
          refine seq_take (v := ?_) (a' := ?_) (some 123) rfl rfl (by rfl) ?_ ?_ ?_
          rotate_left; rotate_left
          · intro w' hS; have p0 := cb hS y0; have p1 := cb hS y1; have p2 := cb hS y2; have p3 := cb hS y3; have p4 := cb hS y4; have p5 := cb hS y5; have p6 := cb hS y6; have p7 := cb hS y7; have p8 := cb hS g0; have p9 := cb hS g1; go_simp; with_reducible rfl
          · simp only [Act.put, List.setIfInBounds_toArray, List.set_cons_zero, List.set_cons_succ]; rfl
          refine seq_call (args := ?_) Try.func14 (by kernel_rfl) rfl (some 124) rfl rfl (by rfl) rfl ?_ ?_
          rotate_left
          · simp only [List.map_toArray, List.map_cons, List.map_nil]; go_simp; rfl
          with_reducible refine (HRB.out _ (bl_next HY3.out hB)).mono ?_
          rintro e w' ⟨rfl, hb⟩
          refine ⟨_, rfl, bl_next (by repeat (first | with_reducible exact hB | refine Below.alloc ?_ (by have := hB.size; simp; omega) _ | refine bl_dN ?_ _ | refine Below.drew ?_ | refine Below.setCell ?_ (by have := hB.size; simp; omega) _)) hb, ?_⟩
          have hB := bl_next (by repeat (first | with_reducible exact hB | refine Below.alloc ?_ (by have := hB.size; simp; omega) _ | refine bl_dN ?_ _ | refine Below.drew ?_ | refine Below.setCell ?_ (by have := hB.size; simp; omega) _)) hb; clear hb
          simp only [Act.put, List.setIfInBounds_toArray, List.set_cons_zero, List.set_cons_succ]
          refine seq_take (v := ?_) (a' := ?_) (some 125) rfl rfl (by rfl) ?_ ?_ ?_
          rotate_left; rotate_left
          · intro w' hS; go_simp; with_reducible rfl
          · simp only [Act.put, List.setIfInBounds_toArray, List.set_cons_zero, List.set_cons_succ]; rfl
          refine seq_take (v := ?_) (a' := ?_) (some 126) rfl rfl (by rfl) ?_ ?_ ?_
          rotate_left; rotate_left
          · intro w' hS; go_simp; with_reducible rfl
          · simp only [Act.put, List.setIfInBounds_toArray, List.set_cons_zero, List.set_cons_succ]; rfl
          refine seq_take (v := ?_) (a' := ?_) (some 4) rfl rfl (by rfl) ?_ ?_ ?_
          rotate_left; rotate_left
          · intro w' hS; go_simp; with_reducible rfl
          · simp only [Act.put, List.setIfInBounds_toArray, List.set_cons_zero, List.set_cons_succ]; rfl
          refine seq_done ?_
          go_wp2_with fail
          go_ret
          exact ⟨rfl, bl_from HwY.out (bl_next HY3.out hB)⟩
theorem objectMoreWalk {W : World} (a : ObjD) (c : List Value) (h : kObj.K W anyB a c) (b : ObjD) (d : List Value) (k : kObj.K W anyB b d) : Calls Try.prog 4 #[.agg c.toArray, .agg d.toArray] W fun e W' => e = .returned (.bool true) ∧ Below W.heap.size W W' := by
  obtain ⟨sa, e1, h1⟩ := obj_of h
  obtain ⟨sb, e2, h2⟩ := obj_of k
  rw [e1, e2]
  exact objectMore_law W h1 h2
end Go.Proofs.Yteomicjjaajblaa
