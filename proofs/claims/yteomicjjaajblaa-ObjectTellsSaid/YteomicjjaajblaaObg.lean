import Derived.Test.YteomicjjaajblaaObf
import Derived.Test.YteomicjjaajblaaKin0
namespace Go.Proofs.Yteomicjjaajblaa
open Go.RowKit Go.Shelf Go.Maps
set_option linter.unusedVariables false
set_option linter.unusedSimpArgs false
/-! ### What came in -/
theorem opI64 : Opens Try.prog 2 (kInt .i64) := opens_int Try.underlying2 (by kernel_rfl)
theorem opBool : Opens Try.prog 4 kBool := opens_bool Try.underlying4 (by kernel_rfl)
def kKeyD : Kd KeyD := kIso (kPair kStr (kPair kStr kStr)) fun x => (x.kind, x.space, x.name)
theorem opKeyD : Opens Try.prog 23 kKeyD := by
  refine opens_iso (fun x => ⟨x.1, x.2.1, x.2.2⟩) (fun _ => rfl) ?_
  refine opens_struct Try.underlying23 (by kernel_rfl) ?_
  exact (by refine opensF_cons ?_ ?_ ?_; rfl; exact opStr; refine opensF_cons ?_ ?_ ?_; rfl; exact opStr; refine opensF_one ?_ ?_; rfl; exact opStr)
def kRes1 : Kd (ByteArray × Int) := kPair kStr (kInt .i64)
theorem opRes1 : Opens Try.prog 43 kRes1 := by
  refine opens_struct Try.underlying43 (by kernel_rfl) ?_
  exact (by refine opensF_cons ?_ ?_ ?_; rfl; exact opStr; refine opensF_one ?_ ?_; rfl; exact opI64)
theorem opResL : Opens Try.prog 24 (kSlice kRes1) := opens_slice Try.underlying24 (by kernel_rfl) (by decide) opRes1
def kObj : Kd ObjD := kIso (kPair kKeyD (kPair (kInt .i64) (kPair kStr (kPair kBool (kPair kBool (kSlice kRes1)))))) fun o => (o.key, o.ver, o.cls, o.term, o.best, o.charge)
theorem opObj : Opens Try.prog 26 kObj := by
  refine opens_iso (fun x => ⟨x.1, x.2.1, x.2.2.1, x.2.2.2.1, x.2.2.2.2.1, x.2.2.2.2.2⟩) (fun _ => rfl) ?_
  refine opens_struct Try.underlying26 (by kernel_rfl) ?_
  exact (by refine opensF_cons ?_ ?_ ?_; rfl; exact opKeyD; refine opensF_cons ?_ ?_ ?_; rfl; exact opI64; refine opensF_cons ?_ ?_ ?_; rfl; exact opStr; refine opensF_cons ?_ ?_ ?_; rfl; exact opBool; refine opensF_cons ?_ ?_ ?_; rfl; exact opBool; refine opensF_one ?_ ?_; rfl; exact opResL)
theorem in64_wf {n : Int} (h : (Lit.int .i64 n).wf = true) : in64 n := by
  simp [Lit.wf, IntKind.min, IntKind.max, IntKind.signed, IntKind.bits] at h
  exact h
theorem resS_row {w : World} {ok : Nat → Prop} {A : Option Addr} {c : Nat} {l : Res} (hc : l.length ≤ c) (h : Row kRes1 w ok A l) : ResS w (.slice A l.length c) l := by
  rcases h with rfl | ⟨b, off, rfl, _, _, hr⟩
  · exact ⟨⟨rfl, _, _, rfl, hc, .inl rfl⟩, by rintro p ⟨⟩⟩
  · refine ⟨⟨resC_len l, _, _, rfl, hc, .inr ⟨b, off, rfl, fun j u hu => ?_⟩⟩, fun p hp => ?_⟩
    · have hj : j < l.length * 2 := by have := (List.getElem?_eq_some_iff.1 hu).1; rwa [resC_len] at this
      have hi : j / 2 < l.length := by omega
      obtain ⟨cs, hcs, c0, c1, rfl, h0, h1⟩ := hr (j / 2) hi
      have e0 : c0 = [.string (l[j / 2]'hi).1] := h0
      have e1 : c1 = [.int .i64 (l[j / 2]'hi).2] := h1.1
      subst e0; subst e1
      have hz : kRes1.sz = 2 := rfl
      rw [hz] at hcs
      have hg := resC_get l (j / 2) hi (j % 2) (by omega)
      rw [show j / 2 * 2 + j % 2 = j by omega, hu] at hg
      have := hcs (j % 2) u hg.symm
      rwa [show off + j / 2 * 2 + j % 2 = off + j by omega] at this
    · obtain ⟨i, hi, rfl⟩ := List.mem_iff_getElem.1 hp
      obtain ⟨cs, hcs, c0, c1, rfl, h0, h1⟩ := hr i hi
      exact in64_wf h1.2
theorem obj_of {w : World} {ok : Nat → Prop} {o : ObjD} {cs : List Value} (h : kObj.K w ok o cs) : ∃ sl, Value.agg cs.toArray = objV o sl ∧ ObjS w sl o := by
  obtain ⟨k0, k1, rfl, ⟨a0, a1, rfl, h0, a2, a3, rfl, h2, h3⟩, v0, v1, rfl, hv, s0, s1, rfl, hs, t0, t1, rfl, ht, b0, b1, rfl, hb, A, c, rfl, hc, hr⟩ := h
  rw [show a0 = _ from h0, show a2 = _ from h2, show a3 = _ from h3, show v0 = _ from hv.1, show s0 = _ from hs, show t0 = _ from ht, show b0 = _ from hb]
  exact ⟨.slice A o.charge.length c, rfl, resS_row hc hr, in64_wf hv.2⟩
theorem fit_small {o : ObjD} (h : o.key.kind.size ≤ 200 ∧ o.key.space.size ≤ 200 ∧ o.key.name.size ≤ 200 ∧ o.cls.size ≤ 200 ∧ o.charge.length ≤ 40 ∧ ∀ p ∈ o.charge, p.1.size ≤ 200) : objSmall o :=
  ⟨⟨by omega, by omega, by omega⟩, by omega, by omega, fun p hp => Nat.le_trans (h.2.2.2.2.2 p hp) (by omega)⟩
/-! ### The law -/
set_option maxRecDepth 100000 in
set_option maxHeartbeats 4000000 in
theorem objectTells_law (w : World) {sa sb : Value} {a b : ObjD} (ha : ObjS w sa a) (hb : ObjS w sb b) :
    Calls Try.prog 3 #[objV a sa, objV b sb] w fun e w' => e = .returned (.bool true) ∧ Below w.heap.size w w' := by
  have HA := Lib.hid ha; have HB := Lib.hid hb
  obtain ⟨aa, ca, rfl⟩ := ha.1.form
  obtain ⟨ab, cb', rfl⟩ := hb.1.form
  clear ha hb
  unfold objV
  go_enter Try.func3, Try.ntmps3
  go_upto_region 1 with fail
  first | with_reducible refine name_wp ?_ | with_reducible refine name_calls ?_
  intro W hWeq
  have g0 : W.heap[w.heap.size]? = some (.cells #[.string a.key.kind, .string a.key.space, .string a.key.name, .int .i64 a.ver, .string a.cls, .bool a.term, .bool a.best, .slice aa a.charge.length ca] 26) := by rw [hWeq]; repeat (first | (with_reducible exact blk_newAt _ _ (by simp)) | with_reducible refine blk_drew ?_ | with_reducible refine blk_dN ?_ _ | with_reducible refine blk_old ?_ _)
  have g1 : W.heap[w.heap.size + 1]? = some (.cells #[.string b.key.kind, .string b.key.space, .string b.key.name, .int .i64 b.ver, .string b.cls, .bool b.term, .bool b.best, .slice ab b.charge.length cb'] 26) := by rw [hWeq]; repeat (first | (with_reducible exact blk_newAt _ _ (by simp)) | with_reducible refine blk_drew ?_ | with_reducible refine blk_dN ?_ _ | with_reducible refine blk_old ?_ _)
  have hw : Below w.heap.size w W := by rw [hWeq]; repeat (first | with_reducible exact Below.refl _ _ | with_reducible refine Below.drew ?_ | with_reducible refine bl_dN ?_ _ | with_reducible refine Below.alloc ?_ (by simp <;> omega) _)
  clear hWeq
  have hz : w.heap.size + 2 ≤ W.heap.size := by have := blk_lt g1; omega
  have c0_0 : W.cell? ⟨w.heap.size, 0, none⟩ = some (.string a.key.kind) := blk_cell g0 0
  have c0_1 : W.cell? ⟨w.heap.size, 1, none⟩ = some (.string a.key.space) := blk_cell g0 1
  have c0_2 : W.cell? ⟨w.heap.size, 2, none⟩ = some (.string a.key.name) := blk_cell g0 2
  have c0_3 : W.cell? ⟨w.heap.size, 3, none⟩ = some (.int .i64 a.ver) := blk_cell g0 3
  have c0_4 : W.cell? ⟨w.heap.size, 4, none⟩ = some (.string a.cls) := blk_cell g0 4
  have c0_5 : W.cell? ⟨w.heap.size, 5, none⟩ = some (.bool a.term) := blk_cell g0 5
  have c0_6 : W.cell? ⟨w.heap.size, 6, none⟩ = some (.bool a.best) := blk_cell g0 6
  have c0_7 : W.cell? ⟨w.heap.size, 7, none⟩ = some (.slice aa a.charge.length ca) := blk_cell g0 7
  have f0 : ∀ j, W.frozen? ⟨w.heap.size, j, none⟩ = false := blk_free g0
  have c1_0 : W.cell? ⟨w.heap.size + 1, 0, none⟩ = some (.string b.key.kind) := blk_cell g1 0
  have c1_1 : W.cell? ⟨w.heap.size + 1, 1, none⟩ = some (.string b.key.space) := blk_cell g1 1
  have c1_2 : W.cell? ⟨w.heap.size + 1, 2, none⟩ = some (.string b.key.name) := blk_cell g1 2
  have c1_3 : W.cell? ⟨w.heap.size + 1, 3, none⟩ = some (.int .i64 b.ver) := blk_cell g1 3
  have c1_4 : W.cell? ⟨w.heap.size + 1, 4, none⟩ = some (.string b.cls) := blk_cell g1 4
  have c1_5 : W.cell? ⟨w.heap.size + 1, 5, none⟩ = some (.bool b.term) := blk_cell g1 5
  have c1_6 : W.cell? ⟨w.heap.size + 1, 6, none⟩ = some (.bool b.best) := blk_cell g1 6
  have c1_7 : W.cell? ⟨w.heap.size + 1, 7, none⟩ = some (.slice ab b.charge.length cb') := blk_cell g1 7
  have f1 : ∀ j, W.frozen? ⟨w.heap.size + 1, j, none⟩ = false := blk_free g1
  have hB : Below W.heap.size W W := Below.refl _ _
  have G0 := Lib.hid g0; clear g0
  have F0 := Lib.hid f0; clear f0
  have G1 := Lib.hid g1; clear g1
  have F1 := Lib.hid f1; clear f1
  have Hw := Lib.hid hw; clear hw
  have HWA := Lib.hid (HA.out.below Hw.out); have HWB := Lib.hid (HB.out.below Hw.out)
  have HFA : Hid (∀ U, Below W.heap.size W U → Calls Try.prog 7 #[.agg #[.string a.key.kind, .string a.key.space, .string a.key.name, .int .i64 a.ver, .string a.cls, .bool a.term, .bool a.best, .slice aa a.charge.length ca]] U (FitOut U a.key.kind a.key.space a.key.name a.cls a.charge)) := Lib.hid fun U h => fits5_calls U (HWA.out.below h)
  have HFB : Hid (∀ U, Below W.heap.size W U → Calls Try.prog 7 #[.agg #[.string b.key.kind, .string b.key.space, .string b.key.name, .int .i64 b.ver, .string b.cls, .bool b.term, .bool b.best, .slice ab b.charge.length cb']] U (FitOut U b.key.kind b.key.space b.key.name b.cls b.charge)) := Lib.hid fun U h => fits5_calls U (HWB.out.below h)
  go_upto_region 3 with (go_at_call 7; (first | ((with_reducible refine (HFA.out _ hB).mono ?_); rintro e w' ⟨f1, rfl, hf1, hb⟩; have HF1 := Lib.hid hf1; clear hf1) | ((with_reducible refine (HFB.out _ hB).mono ?_); rintro e w' ⟨f2, rfl, hf2, hb⟩; have HF2 := Lib.hid hf2; clear hf2)); have hB := bl_next hB hb; have c0_0 := cb hb c0_0; have c0_1 := cb hb c0_1; have c0_2 := cb hb c0_2; have c0_3 := cb hb c0_3; have c0_4 := cb hb c0_4; have c0_5 := cb hb c0_5; have c0_6 := cb hb c0_6; have c0_7 := cb hb c0_7; have c1_0 := cb hb c1_0; have c1_1 := cb hb c1_1; have c1_2 := cb hb c1_2; have c1_3 := cb hb c1_3; have c1_4 := cb hb c1_4; have c1_5 := cb hb c1_5; have c1_6 := cb hb c1_6; have c1_7 := cb hb c1_7; clear hb)
  cases f1 with
  | false =>
    go_wp2_with (go_at_call 8; refine (alive5_calls _).mono ?_; rintro e w' ⟨rfl, hb⟩; have hB := bl_next hB hb; clear hb)
    go_ret
    exact ⟨rfl, bl_from Hw.out hB⟩
  | true =>
  cases f2 with
  | false =>
    go_wp2_with (go_at_call 8; refine (alive5_calls _).mono ?_; rintro e w' ⟨rfl, hb⟩; have hB := bl_next hB hb; clear hb)
    go_ret
    exact ⟨rfl, bl_from Hw.out hB⟩
  | true =>
  have HSA := Lib.hid (fit_small (o := a) (HF1.out rfl)); have HSB := Lib.hid (fit_small (o := b) (HF2.out rfl))
  have hla : a.charge.length ≤ 40 := (HF1.out rfl).2.2.2.2.1
  have hlb : b.charge.length ≤ 40 := (HF2.out rfl).2.2.2.2.1
  clear HF1 HF2 HFA HFB
  have HRI := Lib.hid (chargeR_in (o := a) HWA.out.1.2)
  have HRL : (chargeR a).2.length ≤ 41 := by have := chargeR_len (o := a) HWA.out.1.2; omega
  obtain ⟨r, hr⟩ : ∃ r, chargeR a = r := ⟨_, rfl⟩
  rw [hr] at HRI HRL
  have HCR := Lib.hid hr
  clear hr
  obtain ⟨ra, hra⟩ : ∃ x, rightO a = x := ⟨_, rfl⟩
  obtain ⟨sm, hsm⟩ : ∃ x, sameO a b = x := ⟨_, rfl⟩
  obtain ⟨al, hal⟩ : ∃ x, alikeO a b = x := ⟨_, rfl⟩
  have HC1 : Hid (∀ U, Below W.heap.size W U → Calls Try.prog 9 #[.agg #[.string a.key.kind, .string a.key.space, .string a.key.name, .int .i64 a.ver, .string a.cls, .bool a.term, .bool a.best, .slice aa a.charge.length ca]] U (VecOut U r)) := Lib.hid fun U h => (ocharge_calls U (HWA.out.below h) HSA.out).mono fun e w' q => by rw [HCR.out] at q; exact q
  have HC2 : Hid (∀ U, Below W.heap.size W U → Calls Try.prog 10 #[.agg #[.string a.key.kind, .string a.key.space, .string a.key.name, .int .i64 a.ver, .string a.cls, .bool a.term, .bool a.best, .slice aa a.charge.length ca]] U (VecOut U r)) := Lib.hid fun U h => (rocharge_calls U (HWA.out.below h) HSA.out).mono fun e w' q => by rw [HCR.out] at q; exact q
  have HR1 : Hid (∀ U, Below W.heap.size W U → Calls Try.prog 14 #[.agg #[.string a.key.kind, .string a.key.space, .string a.key.name, .int .i64 a.ver, .string a.cls, .bool a.term, .bool a.best, .slice aa a.charge.length ca]] U (fun e w' => e = .returned (.bool ra) ∧ Below U.heap.size U w')) := Lib.hid fun U h => (oright_calls U (HWA.out.below h) HSA.out).mono fun e w' q => ⟨by rw [q.1, hra], q.2⟩
  have HR2 : Hid (∀ U, Below W.heap.size W U → Calls Try.prog 15 #[.agg #[.string a.key.kind, .string a.key.space, .string a.key.name, .int .i64 a.ver, .string a.cls, .bool a.term, .bool a.best, .slice aa a.charge.length ca]] U (fun e w' => e = .returned (.bool ra) ∧ Below U.heap.size U w')) := Lib.hid fun U h => (roright_calls U (HWA.out.below h) HSA.out).mono fun e w' q => ⟨by rw [q.1, hra], q.2⟩
  have HS1 : Hid (∀ U, Below W.heap.size W U → Calls Try.prog 16 #[.agg #[.string a.key.kind, .string a.key.space, .string a.key.name, .int .i64 a.ver, .string a.cls, .bool a.term, .bool a.best, .slice aa a.charge.length ca], .agg #[.string b.key.kind, .string b.key.space, .string b.key.name, .int .i64 b.ver, .string b.cls, .bool b.term, .bool b.best, .slice ab b.charge.length cb']] U (fun e w' => e = .returned (.bool sm) ∧ Below U.heap.size U w')) := Lib.hid fun U h => (osame_calls U (HWA.out.below h) (HWB.out.below h) ⟨by omega, by omega⟩).mono fun e w' q => ⟨by rw [q.1, hsm], q.2⟩
  have HS2 : Hid (∀ U, Below W.heap.size W U → Calls Try.prog 12 #[.agg #[.string a.key.kind, .string a.key.space, .string a.key.name, .int .i64 a.ver, .string a.cls, .bool a.term, .bool a.best, .slice aa a.charge.length ca], .agg #[.string b.key.kind, .string b.key.space, .string b.key.name, .int .i64 b.ver, .string b.cls, .bool b.term, .bool b.best, .slice ab b.charge.length cb']] U (fun e w' => e = .returned (.bool sm) ∧ Below U.heap.size U w')) := Lib.hid fun U h => (rosame_calls U (HWA.out.below h) (HWB.out.below h) ⟨by omega, by omega⟩).mono fun e w' q => ⟨by rw [q.1, hsm], q.2⟩
  have HA1 : Hid (∀ U, Below W.heap.size W U → Calls Try.prog 17 #[.agg #[.string a.key.kind, .string a.key.space, .string a.key.name, .int .i64 a.ver, .string a.cls, .bool a.term, .bool a.best, .slice aa a.charge.length ca], .agg #[.string b.key.kind, .string b.key.space, .string b.key.name, .int .i64 b.ver, .string b.cls, .bool b.term, .bool b.best, .slice ab b.charge.length cb']] U (fun e w' => e = .returned (.bool al) ∧ Below U.heap.size U w')) := Lib.hid fun U h => (oalike_calls U (HWA.out.below h) (HWB.out.below h) ⟨by omega, by omega⟩).mono fun e w' q => ⟨by rw [q.1, hal], q.2⟩
  have HA2 : Hid (∀ U, Below W.heap.size W U → Calls Try.prog 18 #[.agg #[.string a.key.kind, .string a.key.space, .string a.key.name, .int .i64 a.ver, .string a.cls, .bool a.term, .bool a.best, .slice aa a.charge.length ca], .agg #[.string b.key.kind, .string b.key.space, .string b.key.name, .int .i64 b.ver, .string b.cls, .bool b.term, .bool b.best, .slice ab b.charge.length cb']] U (fun e w' => e = .returned (.bool al) ∧ Below U.heap.size U w')) := Lib.hid fun U h => (roalike_calls U (HWA.out.below h) (HWB.out.below h) ⟨by omega, by omega⟩).mono fun e w' q => ⟨by rw [q.1, hal], q.2⟩
  have HOW : Hid (∀ U, Below W.heap.size W U → Calls Try.prog 13 #[.agg #[.string a.key.kind, .string a.key.space, .string a.key.name, .int .i64 a.ver, .string a.cls, .bool a.term, .bool a.best, .slice aa a.charge.length ca]] U fun e w' => ∃ x, e = .returned (objV a x) ∧ ResF w' U.heap.size x a.charge ∧ Below U.heap.size U w') := Lib.hid fun U h => own_calls U (HWA.out.below h) (by omega)
  clear hra hsm hal
  go_upto_region 7 with (first | (go_at_call 9; (with_reducible refine (HC1.out _ hB).mono ?_); intro e w' hv; obtain ⟨ax, cx, rfl, hvv, hb⟩ := vecOut_use hv HRI.out; have HV1 := Lib.hid hvv; clear hv hvv; have hB := bl_next hB hb; have c0_0 := cb hb c0_0; have c0_1 := cb hb c0_1; have c0_2 := cb hb c0_2; have c0_3 := cb hb c0_3; have c0_4 := cb hb c0_4; have c0_5 := cb hb c0_5; have c0_6 := cb hb c0_6; have c0_7 := cb hb c0_7; have c1_0 := cb hb c1_0; have c1_1 := cb hb c1_1; have c1_2 := cb hb c1_2; have c1_3 := cb hb c1_3; have c1_4 := cb hb c1_4; have c1_5 := cb hb c1_5; have c1_6 := cb hb c1_6; have c1_7 := cb hb c1_7; clear hb) | (go_at_call 10; (with_reducible refine (HC2.out _ hB).mono ?_); intro e w' hv; obtain ⟨ay, cy, rfl, hvv, hb⟩ := vecOut_use hv HRI.out; have HV1 := Lib.hid (HV1.out.below hb); have HV2 := Lib.hid hvv; clear hv hvv; have hB := bl_next hB hb; have c0_0 := cb hb c0_0; have c0_1 := cb hb c0_1; have c0_2 := cb hb c0_2; have c0_3 := cb hb c0_3; have c0_4 := cb hb c0_4; have c0_5 := cb hb c0_5; have c0_6 := cb hb c0_6; have c0_7 := cb hb c0_7; have c1_0 := cb hb c1_0; have c1_1 := cb hb c1_1; have c1_2 := cb hb c1_2; have c1_3 := cb hb c1_3; have c1_4 := cb hb c1_4; have c1_5 := cb hb c1_5; have c1_6 := cb hb c1_6; have c1_7 := cb hb c1_7; clear hb))
  go_upto_region 8 with (go_at_call 11; (with_reducible refine (rvsame_calls _ HV1.out HV2.out (by omega) (by omega)).mono ?_); rintro e w' ⟨rfl, hb⟩; rw [decide_eq_true (rfl : r.2 = r.2)]; have hB := bl_next hB hb; have c0_0 := cb hb c0_0; have c0_1 := cb hb c0_1; have c0_2 := cb hb c0_2; have c0_3 := cb hb c0_3; have c0_4 := cb hb c0_4; have c0_5 := cb hb c0_5; have c0_6 := cb hb c0_6; have c0_7 := cb hb c0_7; have c1_0 := cb hb c1_0; have c1_1 := cb hb c1_1; have c1_2 := cb hb c1_2; have c1_3 := cb hb c1_3; have c1_4 := cb hb c1_4; have c1_5 := cb hb c1_5; have c1_6 := cb hb c1_6; have c1_7 := cb hb c1_7; clear hb)
  obtain ⟨V, rfl⟩ : ∃ V : World, V = w' := ⟨_, rfl⟩
  have HWV := Lib.hid hB
  clear hB
  have hB := Below.refl V.heap.size V
  have hB := hB.drew
  refine region_seq (fun w' => Below V.heap.size V w') [(0, true), (2, true), (1, false), (3, false), (4, true)] (by kernel_rfl) (by kernel_rfl) (fun _ _ _ _ h => h) hB ?_
  try generalize World.drew _ = wS at hB ⊢
  refine seq_take (v := ?_) (a' := ?_) (some 37) rfl rfl (by rfl) ?_ ?_ ?_
  rotate_left; rotate_left
  · intro w' hS; have p0_0 := cb hS c0_0; have p0_1 := cb hS c0_1; have p0_2 := cb hS c0_2; have p0_3 := cb hS c0_3; have p0_4 := cb hS c0_4; have p0_5 := cb hS c0_5; have p0_6 := cb hS c0_6; have p0_7 := cb hS c0_7; have p1_0 := cb hS c1_0; have p1_1 := cb hS c1_1; have p1_2 := cb hS c1_2; have p1_3 := cb hS c1_3; have p1_4 := cb hS c1_4; have p1_5 := cb hS c1_5; have p1_6 := cb hS c1_6; have p1_7 := cb hS c1_7; go_simp; with_reducible rfl
  · simp only [Act.put, List.setIfInBounds_toArray, List.set_cons_zero, List.set_cons_succ]; rfl
  refine seq_take (v := ?_) (a' := ?_) (some 39) rfl rfl (by rfl) ?_ ?_ ?_
  rotate_left; rotate_left
  · intro w' hS; have p0_0 := cb hS c0_0; have p0_1 := cb hS c0_1; have p0_2 := cb hS c0_2; have p0_3 := cb hS c0_3; have p0_4 := cb hS c0_4; have p0_5 := cb hS c0_5; have p0_6 := cb hS c0_6; have p0_7 := cb hS c0_7; have p1_0 := cb hS c1_0; have p1_1 := cb hS c1_1; have p1_2 := cb hS c1_2; have p1_3 := cb hS c1_3; have p1_4 := cb hS c1_4; have p1_5 := cb hS c1_5; have p1_6 := cb hS c1_6; have p1_7 := cb hS c1_7; go_simp; with_reducible rfl
  · simp only [Act.put, List.setIfInBounds_toArray, List.set_cons_zero, List.set_cons_succ]; rfl
  refine seq_call (args := ?_) Try.func13 (by kernel_rfl) rfl (some 38) rfl rfl (by rfl) rfl ?_ ?_
  rotate_left
  · simp only [List.map_toArray, List.map_cons, List.map_nil]; go_simp; rfl
  with_reducible refine (HOW.out _ (bl_next HWV.out hB)).mono ?_
  rintro e w' ⟨x, rfl, hrf, hb⟩
  have HSX := Lib.hid (fun U (hq : Below w'.heap.size w' U) => show Calls Try.prog 12 #[objV a x, .agg #[.string a.key.kind, .string a.key.space, .string a.key.name, .int .i64 a.ver, .string a.cls, .bool a.term, .bool a.best, .slice aa a.charge.length ca]] U fun e w2 => e = .returned (.bool true) ∧ Below U.heap.size U w2 from (rosame_calls U ⟨(hrf.resS HWA.out.1.2).below hq, HWA.out.2⟩ (HWA.out.below (bl_next (bl_next (bl_next HWV.out hB) hb) hq)) ⟨by omega, by omega⟩).mono fun e w2 q => ⟨by rw [q.1, sameO_refl], q.2⟩); clear hrf
  refine ⟨_, rfl, bl_next (by repeat (first | with_reducible exact hB | refine Below.alloc ?_ (by have := hB.size; simp; omega) _ | refine bl_dN ?_ _ | refine Below.drew ?_ | refine Below.setCell ?_ (by have := hB.size; simp; omega) _)) hb, ?_⟩
  have hB := bl_next (by repeat (first | with_reducible exact hB | refine Below.alloc ?_ (by have := hB.size; simp; omega) _ | refine bl_dN ?_ _ | refine Below.drew ?_ | refine Below.setCell ?_ (by have := hB.size; simp; omega) _)) hb; clear hb
  simp only [Act.put, List.setIfInBounds_toArray, List.set_cons_zero, List.set_cons_succ]
  refine seq_call (args := ?_) Try.func12 (by kernel_rfl) rfl (some 40) rfl rfl (by rfl) rfl ?_ ?_
  rotate_left
  · simp only [List.map_toArray, List.map_cons, List.map_nil]; go_simp; rfl
  with_reducible refine (HSX.out _ (Below.refl _ _)).mono ?_
  rintro e w' ⟨rfl, hb⟩
  refine ⟨_, rfl, bl_next (by repeat (first | with_reducible exact hB | refine Below.alloc ?_ (by have := hB.size; simp; omega) _ | refine bl_dN ?_ _ | refine Below.drew ?_ | refine Below.setCell ?_ (by have := hB.size; simp; omega) _)) hb, ?_⟩
  have hB := bl_next (by repeat (first | with_reducible exact hB | refine Below.alloc ?_ (by have := hB.size; simp; omega) _ | refine bl_dN ?_ _ | refine Below.drew ?_ | refine Below.setCell ?_ (by have := hB.size; simp; omega) _)) hb; clear hb
  simp only [Act.put, List.setIfInBounds_toArray, List.set_cons_zero, List.set_cons_succ]
  refine seq_take (v := ?_) (a' := ?_) (some 12) rfl rfl (by rfl) ?_ ?_ ?_
  rotate_left; rotate_left
  · intro w' hS; go_simp; with_reducible rfl
  · simp only [Act.put, List.setIfInBounds_toArray, List.set_cons_zero, List.set_cons_succ]; rfl
  refine seq_done ?_
  go_upto_region 9 with fail
  have hB := hB.drew
  refine region_seq (fun w' => Below V.heap.size V w') [(0, false), (1, true), (2, true), (3, true), (4, true), (5, true), (6, true), (7, true), (8, true), (9, true), (10, true), (11, true), (12, true), (13, true), (15, true), (14, false), (16, false), (17, true), (18, true), (19, true), (20, true), (21, true), (23, true), (24, true), (22, false), (25, false), (26, true), (27, true), (28, true), (29, true), (30, true), (32, true), (33, true), (31, false), (34, false), (35, true), (36, true), (37, true)] (by kernel_rfl) (by kernel_rfl) (fun _ _ _ _ h => h) hB ?_
  try generalize World.drew _ = wS at hB ⊢
  refine seq_call (args := ?_) Try.func8 (by kernel_rfl) rfl (some 41) rfl rfl (by rfl) rfl ?_ ?_
  rotate_left
  · simp only [List.map_toArray, List.map_cons, List.map_nil]; go_simp; rfl
  with_reducible refine (alive5_calls _).mono ?_
  rintro e w' ⟨rfl, hb⟩
  refine ⟨_, rfl, bl_next (by repeat (first | with_reducible exact hB | refine Below.alloc ?_ (by have := hB.size; simp; omega) _ | refine bl_dN ?_ _ | refine Below.drew ?_ | refine Below.setCell ?_ (by have := hB.size; simp; omega) _)) hb, ?_⟩
  have hB := bl_next (by repeat (first | with_reducible exact hB | refine Below.alloc ?_ (by have := hB.size; simp; omega) _ | refine bl_dN ?_ _ | refine Below.drew ?_ | refine Below.setCell ?_ (by have := hB.size; simp; omega) _)) hb; clear hb
  simp only [Act.put, List.setIfInBounds_toArray, List.set_cons_zero, List.set_cons_succ]
  refine seq_take (v := ?_) (a' := ?_) (some 42) rfl rfl (by rfl) ?_ ?_ ?_
  rotate_left; rotate_left
  · intro w' hS; go_simp; with_reducible rfl
  · simp only [Act.put, List.setIfInBounds_toArray, List.set_cons_zero, List.set_cons_succ]; rfl
  refine seq_take (v := ?_) (a' := ?_) (some 43) rfl rfl (by rfl) ?_ ?_ ?_
  rotate_left; rotate_left
  · intro w' hS; go_simp; with_reducible rfl
  · simp only [Act.put, List.setIfInBounds_toArray, List.set_cons_zero, List.set_cons_succ]; rfl
  refine seq_take (v := ?_) (a' := ?_) (some 44) rfl rfl (by rfl) ?_ ?_ ?_
  rotate_left; rotate_left
  · intro w' hS; go_simp; with_reducible rfl
  · simp only [Act.put, List.setIfInBounds_toArray, List.set_cons_zero, List.set_cons_succ]; rfl
  refine seq_take (v := ?_) (a' := ?_) (some 45) rfl rfl (by rfl) ?_ ?_ ?_
  rotate_left; rotate_left
  · intro w' hS; go_simp; with_reducible rfl
  · simp only [Act.put, List.setIfInBounds_toArray, List.set_cons_zero, List.set_cons_succ]; rfl
  refine seq_take (v := ?_) (a' := ?_) (some 46) rfl rfl (by rfl) ?_ ?_ ?_
  rotate_left; rotate_left
  · intro w' hS; go_simp; with_reducible rfl
  · simp only [Act.put, List.setIfInBounds_toArray, List.set_cons_zero, List.set_cons_succ]; rfl
  refine seq_take (v := ?_) (a' := ?_) (some 47) rfl rfl (by rfl) ?_ ?_ ?_
  rotate_left; rotate_left
  · intro w' hS; go_simp; with_reducible rfl
  · simp only [Act.put, List.setIfInBounds_toArray, List.set_cons_zero, List.set_cons_succ]; rfl
  refine seq_take (v := ?_) (a' := ?_) (some 48) rfl rfl (by rfl) ?_ ?_ ?_
  rotate_left; rotate_left
  · intro w' hS; go_simp; with_reducible rfl
  · simp only [Act.put, List.setIfInBounds_toArray, List.set_cons_zero, List.set_cons_succ]; rfl
  refine seq_take (v := ?_) (a' := ?_) (some 49) rfl rfl (by rfl) ?_ ?_ ?_
  rotate_left; rotate_left
  · intro w' hS; go_simp; with_reducible rfl
  · simp only [Act.put, List.setIfInBounds_toArray, List.set_cons_zero, List.set_cons_succ]; rfl
  refine seq_take (v := ?_) (a' := ?_) (some 50) rfl rfl (by rfl) ?_ ?_ ?_
  rotate_left; rotate_left
  · intro w' hS; go_simp; with_reducible rfl
  · simp only [Act.put, List.setIfInBounds_toArray, List.set_cons_zero, List.set_cons_succ]; rfl
  refine seq_take (v := ?_) (a' := ?_) (some 51) rfl rfl (by rfl) ?_ ?_ ?_
  rotate_left; rotate_left
  · intro w' hS; go_simp; with_reducible rfl
  · simp only [Act.put, List.setIfInBounds_toArray, List.set_cons_zero, List.set_cons_succ]; rfl
  refine seq_take (v := ?_) (a' := ?_) (some 52) rfl rfl (by rfl) ?_ ?_ ?_
  rotate_left; rotate_left
  · intro w' hS; go_simp; with_reducible rfl
  · simp only [Act.put, List.setIfInBounds_toArray, List.set_cons_zero, List.set_cons_succ]; rfl
  refine seq_take (v := ?_) (a' := ?_) (some 53) rfl rfl (by rfl) ?_ ?_ ?_
  rotate_left; rotate_left
  · intro w' hS; go_simp; with_reducible rfl
  · simp only [Act.put, List.setIfInBounds_toArray, List.set_cons_zero, List.set_cons_succ]; rfl
  refine seq_take (v := ?_) (a' := ?_) (some 54) rfl rfl (by rfl) ?_ ?_ ?_
  rotate_left; rotate_left
  · intro w' hS; have p0_0 := cb hS c0_0; have p0_1 := cb hS c0_1; have p0_2 := cb hS c0_2; have p0_3 := cb hS c0_3; have p0_4 := cb hS c0_4; have p0_5 := cb hS c0_5; have p0_6 := cb hS c0_6; have p0_7 := cb hS c0_7; have p1_0 := cb hS c1_0; have p1_1 := cb hS c1_1; have p1_2 := cb hS c1_2; have p1_3 := cb hS c1_3; have p1_4 := cb hS c1_4; have p1_5 := cb hS c1_5; have p1_6 := cb hS c1_6; have p1_7 := cb hS c1_7; go_simp; with_reducible rfl
  · simp only [Act.put, List.setIfInBounds_toArray, List.set_cons_zero, List.set_cons_succ]; rfl
  refine seq_take (v := ?_) (a' := ?_) (some 56) rfl rfl (by rfl) ?_ ?_ ?_
  rotate_left; rotate_left
  · intro w' hS; have p0_0 := cb hS c0_0; have p0_1 := cb hS c0_1; have p0_2 := cb hS c0_2; have p0_3 := cb hS c0_3; have p0_4 := cb hS c0_4; have p0_5 := cb hS c0_5; have p0_6 := cb hS c0_6; have p0_7 := cb hS c0_7; have p1_0 := cb hS c1_0; have p1_1 := cb hS c1_1; have p1_2 := cb hS c1_2; have p1_3 := cb hS c1_3; have p1_4 := cb hS c1_4; have p1_5 := cb hS c1_5; have p1_6 := cb hS c1_6; have p1_7 := cb hS c1_7; go_simp; with_reducible rfl
  · simp only [Act.put, List.setIfInBounds_toArray, List.set_cons_zero, List.set_cons_succ]; rfl
  refine seq_call (args := ?_) Try.func14 (by kernel_rfl) rfl (some 55) rfl rfl (by rfl) rfl ?_ ?_
  rotate_left
  · simp only [List.map_toArray, List.map_cons, List.map_nil]; go_simp; rfl
  with_reducible refine (HR1.out _ (bl_next HWV.out hB)).mono ?_
  rintro e w' ⟨rfl, hb⟩
  refine ⟨_, rfl, bl_next (by repeat (first | with_reducible exact hB | refine Below.alloc ?_ (by have := hB.size; simp; omega) _ | refine bl_dN ?_ _ | refine Below.drew ?_ | refine Below.setCell ?_ (by have := hB.size; simp; omega) _)) hb, ?_⟩
  have hB := bl_next (by repeat (first | with_reducible exact hB | refine Below.alloc ?_ (by have := hB.size; simp; omega) _ | refine bl_dN ?_ _ | refine Below.drew ?_ | refine Below.setCell ?_ (by have := hB.size; simp; omega) _)) hb; clear hb
  simp only [Act.put, List.setIfInBounds_toArray, List.set_cons_zero, List.set_cons_succ]
  refine seq_call (args := ?_) Try.func15 (by kernel_rfl) rfl (some 57) rfl rfl (by rfl) rfl ?_ ?_
  rotate_left
  · simp only [List.map_toArray, List.map_cons, List.map_nil]; go_simp; rfl
  with_reducible refine (HR2.out _ (bl_next HWV.out hB)).mono ?_
  rintro e w' ⟨rfl, hb⟩
  refine ⟨_, rfl, bl_next (by repeat (first | with_reducible exact hB | refine Below.alloc ?_ (by have := hB.size; simp; omega) _ | refine bl_dN ?_ _ | refine Below.drew ?_ | refine Below.setCell ?_ (by have := hB.size; simp; omega) _)) hb, ?_⟩
  have hB := bl_next (by repeat (first | with_reducible exact hB | refine Below.alloc ?_ (by have := hB.size; simp; omega) _ | refine bl_dN ?_ _ | refine Below.drew ?_ | refine Below.setCell ?_ (by have := hB.size; simp; omega) _)) hb; clear hb
  simp only [Act.put, List.setIfInBounds_toArray, List.set_cons_zero, List.set_cons_succ]
  refine seq_take (v := ?_) (a' := ?_) (some 58) rfl rfl (by rfl) ?_ ?_ ?_
  rotate_left; rotate_left
  · intro w' hS; go_simp; with_reducible rfl
  · simp only [Act.put, List.setIfInBounds_toArray, List.set_cons_zero, List.set_cons_succ]; rfl
  refine seq_take (v := ?_) (a' := ?_) (some 59) rfl rfl (by rfl) ?_ ?_ ?_
  rotate_left; rotate_left
  · intro w' hS; go_simp; with_reducible rfl
  · simp only [Act.put, List.setIfInBounds_toArray, List.set_cons_zero, List.set_cons_succ]; rfl
  refine seq_take (v := ?_) (a' := ?_) (some 60) rfl rfl (by rfl) ?_ ?_ ?_
  rotate_left; rotate_left
  · intro w' hS; go_simp; with_reducible rfl
  · simp only [Act.put, List.setIfInBounds_toArray, List.set_cons_zero, List.set_cons_succ]; rfl
  refine seq_take (v := ?_) (a' := ?_) (some 61) rfl rfl (by rfl) ?_ ?_ ?_
  rotate_left; rotate_left
  · intro w' hS; have p0_0 := cb hS c0_0; have p0_1 := cb hS c0_1; have p0_2 := cb hS c0_2; have p0_3 := cb hS c0_3; have p0_4 := cb hS c0_4; have p0_5 := cb hS c0_5; have p0_6 := cb hS c0_6; have p0_7 := cb hS c0_7; have p1_0 := cb hS c1_0; have p1_1 := cb hS c1_1; have p1_2 := cb hS c1_2; have p1_3 := cb hS c1_3; have p1_4 := cb hS c1_4; have p1_5 := cb hS c1_5; have p1_6 := cb hS c1_6; have p1_7 := cb hS c1_7; go_simp; with_reducible rfl
  · simp only [Act.put, List.setIfInBounds_toArray, List.set_cons_zero, List.set_cons_succ]; rfl
  refine seq_take (v := ?_) (a' := ?_) (some 62) rfl rfl (by rfl) ?_ ?_ ?_
  rotate_left; rotate_left
  · intro w' hS; have p0_0 := cb hS c0_0; have p0_1 := cb hS c0_1; have p0_2 := cb hS c0_2; have p0_3 := cb hS c0_3; have p0_4 := cb hS c0_4; have p0_5 := cb hS c0_5; have p0_6 := cb hS c0_6; have p0_7 := cb hS c0_7; have p1_0 := cb hS c1_0; have p1_1 := cb hS c1_1; have p1_2 := cb hS c1_2; have p1_3 := cb hS c1_3; have p1_4 := cb hS c1_4; have p1_5 := cb hS c1_5; have p1_6 := cb hS c1_6; have p1_7 := cb hS c1_7; go_simp; with_reducible rfl
  · simp only [Act.put, List.setIfInBounds_toArray, List.set_cons_zero, List.set_cons_succ]; rfl
  refine seq_take (v := ?_) (a' := ?_) (some 64) rfl rfl (by rfl) ?_ ?_ ?_
  rotate_left; rotate_left
  · intro w' hS; have p0_0 := cb hS c0_0; have p0_1 := cb hS c0_1; have p0_2 := cb hS c0_2; have p0_3 := cb hS c0_3; have p0_4 := cb hS c0_4; have p0_5 := cb hS c0_5; have p0_6 := cb hS c0_6; have p0_7 := cb hS c0_7; have p1_0 := cb hS c1_0; have p1_1 := cb hS c1_1; have p1_2 := cb hS c1_2; have p1_3 := cb hS c1_3; have p1_4 := cb hS c1_4; have p1_5 := cb hS c1_5; have p1_6 := cb hS c1_6; have p1_7 := cb hS c1_7; go_simp; with_reducible rfl
  · simp only [Act.put, List.setIfInBounds_toArray, List.set_cons_zero, List.set_cons_succ]; rfl
  refine seq_take (v := ?_) (a' := ?_) (some 65) rfl rfl (by rfl) ?_ ?_ ?_
  rotate_left; rotate_left
  · intro w' hS; have p0_0 := cb hS c0_0; have p0_1 := cb hS c0_1; have p0_2 := cb hS c0_2; have p0_3 := cb hS c0_3; have p0_4 := cb hS c0_4; have p0_5 := cb hS c0_5; have p0_6 := cb hS c0_6; have p0_7 := cb hS c0_7; have p1_0 := cb hS c1_0; have p1_1 := cb hS c1_1; have p1_2 := cb hS c1_2; have p1_3 := cb hS c1_3; have p1_4 := cb hS c1_4; have p1_5 := cb hS c1_5; have p1_6 := cb hS c1_6; have p1_7 := cb hS c1_7; go_simp; with_reducible rfl
  · simp only [Act.put, List.setIfInBounds_toArray, List.set_cons_zero, List.set_cons_succ]; rfl
  refine seq_call (args := ?_) Try.func16 (by kernel_rfl) rfl (some 63) rfl rfl (by rfl) rfl ?_ ?_
  rotate_left
  · simp only [List.map_toArray, List.map_cons, List.map_nil]; go_simp; rfl
  with_reducible refine (HS1.out _ (bl_next HWV.out hB)).mono ?_
  rintro e w' ⟨rfl, hb⟩
  refine ⟨_, rfl, bl_next (by repeat (first | with_reducible exact hB | refine Below.alloc ?_ (by have := hB.size; simp; omega) _ | refine bl_dN ?_ _ | refine Below.drew ?_ | refine Below.setCell ?_ (by have := hB.size; simp; omega) _)) hb, ?_⟩
  have hB := bl_next (by repeat (first | with_reducible exact hB | refine Below.alloc ?_ (by have := hB.size; simp; omega) _ | refine bl_dN ?_ _ | refine Below.drew ?_ | refine Below.setCell ?_ (by have := hB.size; simp; omega) _)) hb; clear hb
  simp only [Act.put, List.setIfInBounds_toArray, List.set_cons_zero, List.set_cons_succ]
  refine seq_call (args := ?_) Try.func12 (by kernel_rfl) rfl (some 66) rfl rfl (by rfl) rfl ?_ ?_
  rotate_left
  · simp only [List.map_toArray, List.map_cons, List.map_nil]; go_simp; rfl
  with_reducible refine (HS2.out _ (bl_next HWV.out hB)).mono ?_
  rintro e w' ⟨rfl, hb⟩
  refine ⟨_, rfl, bl_next (by repeat (first | with_reducible exact hB | refine Below.alloc ?_ (by have := hB.size; simp; omega) _ | refine bl_dN ?_ _ | refine Below.drew ?_ | refine Below.setCell ?_ (by have := hB.size; simp; omega) _)) hb, ?_⟩
  have hB := bl_next (by repeat (first | with_reducible exact hB | refine Below.alloc ?_ (by have := hB.size; simp; omega) _ | refine bl_dN ?_ _ | refine Below.drew ?_ | refine Below.setCell ?_ (by have := hB.size; simp; omega) _)) hb; clear hb
  simp only [Act.put, List.setIfInBounds_toArray, List.set_cons_zero, List.set_cons_succ]
  refine seq_take (v := ?_) (a' := ?_) (some 67) rfl rfl (by rfl) ?_ ?_ ?_
  rotate_left; rotate_left
  · intro w' hS; go_simp; with_reducible rfl
  · simp only [Act.put, List.setIfInBounds_toArray, List.set_cons_zero, List.set_cons_succ]; rfl
  refine seq_take (v := ?_) (a' := ?_) (some 68) rfl rfl (by rfl) ?_ ?_ ?_
  rotate_left; rotate_left
  · intro w' hS; go_simp; with_reducible rfl
  · simp only [Act.put, List.setIfInBounds_toArray, List.set_cons_zero, List.set_cons_succ]; rfl
  refine seq_take (v := ?_) (a' := ?_) (some 69) rfl rfl (by rfl) ?_ ?_ ?_
  rotate_left; rotate_left
  · intro w' hS; go_simp; with_reducible rfl
  · simp only [Act.put, List.setIfInBounds_toArray, List.set_cons_zero, List.set_cons_succ]; rfl
  refine seq_take (v := ?_) (a' := ?_) (some 70) rfl rfl (by rfl) ?_ ?_ ?_
  rotate_left; rotate_left
  · intro w' hS; have p0_0 := cb hS c0_0; have p0_1 := cb hS c0_1; have p0_2 := cb hS c0_2; have p0_3 := cb hS c0_3; have p0_4 := cb hS c0_4; have p0_5 := cb hS c0_5; have p0_6 := cb hS c0_6; have p0_7 := cb hS c0_7; have p1_0 := cb hS c1_0; have p1_1 := cb hS c1_1; have p1_2 := cb hS c1_2; have p1_3 := cb hS c1_3; have p1_4 := cb hS c1_4; have p1_5 := cb hS c1_5; have p1_6 := cb hS c1_6; have p1_7 := cb hS c1_7; go_simp; with_reducible rfl
  · simp only [Act.put, List.setIfInBounds_toArray, List.set_cons_zero, List.set_cons_succ]; rfl
  refine seq_take (v := ?_) (a' := ?_) (some 71) rfl rfl (by rfl) ?_ ?_ ?_
  rotate_left; rotate_left
  · intro w' hS; have p0_0 := cb hS c0_0; have p0_1 := cb hS c0_1; have p0_2 := cb hS c0_2; have p0_3 := cb hS c0_3; have p0_4 := cb hS c0_4; have p0_5 := cb hS c0_5; have p0_6 := cb hS c0_6; have p0_7 := cb hS c0_7; have p1_0 := cb hS c1_0; have p1_1 := cb hS c1_1; have p1_2 := cb hS c1_2; have p1_3 := cb hS c1_3; have p1_4 := cb hS c1_4; have p1_5 := cb hS c1_5; have p1_6 := cb hS c1_6; have p1_7 := cb hS c1_7; go_simp; with_reducible rfl
  · simp only [Act.put, List.setIfInBounds_toArray, List.set_cons_zero, List.set_cons_succ]; rfl
  refine seq_take (v := ?_) (a' := ?_) (some 73) rfl rfl (by rfl) ?_ ?_ ?_
  rotate_left; rotate_left
  · intro w' hS; have p0_0 := cb hS c0_0; have p0_1 := cb hS c0_1; have p0_2 := cb hS c0_2; have p0_3 := cb hS c0_3; have p0_4 := cb hS c0_4; have p0_5 := cb hS c0_5; have p0_6 := cb hS c0_6; have p0_7 := cb hS c0_7; have p1_0 := cb hS c1_0; have p1_1 := cb hS c1_1; have p1_2 := cb hS c1_2; have p1_3 := cb hS c1_3; have p1_4 := cb hS c1_4; have p1_5 := cb hS c1_5; have p1_6 := cb hS c1_6; have p1_7 := cb hS c1_7; go_simp; with_reducible rfl
  · simp only [Act.put, List.setIfInBounds_toArray, List.set_cons_zero, List.set_cons_succ]; rfl
  refine seq_take (v := ?_) (a' := ?_) (some 74) rfl rfl (by rfl) ?_ ?_ ?_
  rotate_left; rotate_left
  · intro w' hS; have p0_0 := cb hS c0_0; have p0_1 := cb hS c0_1; have p0_2 := cb hS c0_2; have p0_3 := cb hS c0_3; have p0_4 := cb hS c0_4; have p0_5 := cb hS c0_5; have p0_6 := cb hS c0_6; have p0_7 := cb hS c0_7; have p1_0 := cb hS c1_0; have p1_1 := cb hS c1_1; have p1_2 := cb hS c1_2; have p1_3 := cb hS c1_3; have p1_4 := cb hS c1_4; have p1_5 := cb hS c1_5; have p1_6 := cb hS c1_6; have p1_7 := cb hS c1_7; go_simp; with_reducible rfl
  · simp only [Act.put, List.setIfInBounds_toArray, List.set_cons_zero, List.set_cons_succ]; rfl
  refine seq_call (args := ?_) Try.func17 (by kernel_rfl) rfl (some 72) rfl rfl (by rfl) rfl ?_ ?_
  rotate_left
  · simp only [List.map_toArray, List.map_cons, List.map_nil]; go_simp; rfl
  with_reducible refine (HA1.out _ (bl_next HWV.out hB)).mono ?_
  rintro e w' ⟨rfl, hb⟩
  refine ⟨_, rfl, bl_next (by repeat (first | with_reducible exact hB | refine Below.alloc ?_ (by have := hB.size; simp; omega) _ | refine bl_dN ?_ _ | refine Below.drew ?_ | refine Below.setCell ?_ (by have := hB.size; simp; omega) _)) hb, ?_⟩
  have hB := bl_next (by repeat (first | with_reducible exact hB | refine Below.alloc ?_ (by have := hB.size; simp; omega) _ | refine bl_dN ?_ _ | refine Below.drew ?_ | refine Below.setCell ?_ (by have := hB.size; simp; omega) _)) hb; clear hb
  simp only [Act.put, List.setIfInBounds_toArray, List.set_cons_zero, List.set_cons_succ]
  refine seq_call (args := ?_) Try.func18 (by kernel_rfl) rfl (some 75) rfl rfl (by rfl) rfl ?_ ?_
  rotate_left
  · simp only [List.map_toArray, List.map_cons, List.map_nil]; go_simp; rfl
  with_reducible refine (HA2.out _ (bl_next HWV.out hB)).mono ?_
  rintro e w' ⟨rfl, hb⟩
  refine ⟨_, rfl, bl_next (by repeat (first | with_reducible exact hB | refine Below.alloc ?_ (by have := hB.size; simp; omega) _ | refine bl_dN ?_ _ | refine Below.drew ?_ | refine Below.setCell ?_ (by have := hB.size; simp; omega) _)) hb, ?_⟩
  have hB := bl_next (by repeat (first | with_reducible exact hB | refine Below.alloc ?_ (by have := hB.size; simp; omega) _ | refine bl_dN ?_ _ | refine Below.drew ?_ | refine Below.setCell ?_ (by have := hB.size; simp; omega) _)) hb; clear hb
  simp only [Act.put, List.setIfInBounds_toArray, List.set_cons_zero, List.set_cons_succ]
  refine seq_take (v := ?_) (a' := ?_) (some 76) rfl rfl (by rfl) ?_ ?_ ?_
  rotate_left; rotate_left
  · intro w' hS; go_simp; with_reducible rfl
  · simp only [Act.put, List.setIfInBounds_toArray, List.set_cons_zero, List.set_cons_succ]; rfl
  refine seq_take (v := ?_) (a' := ?_) (some 77) rfl rfl (by rfl) ?_ ?_ ?_
  rotate_left; rotate_left
  · intro w' hS; go_simp; with_reducible rfl
  · simp only [Act.put, List.setIfInBounds_toArray, List.set_cons_zero, List.set_cons_succ]; rfl
  refine seq_take (v := ?_) (a' := ?_) (some 4) rfl rfl (by rfl) ?_ ?_ ?_
  rotate_left; rotate_left
  · intro w' hS; go_simp; with_reducible rfl
  · simp only [Act.put, List.setIfInBounds_toArray, List.set_cons_zero, List.set_cons_succ]; rfl
  refine seq_done ?_
  go_wp2_with fail
  go_ret
  exact ⟨rfl, bl_from Hw.out (bl_next HWV.out hB)⟩
theorem objectTellsWalk {W : World} (a : ObjD) (c : List Value) (h : kObj.K W anyB a c) (b : ObjD) (d : List Value) (k : kObj.K W anyB b d) : Calls Try.prog 3 #[.agg c.toArray, .agg d.toArray] W fun e W' => e = .returned (.bool true) ∧ Below W.heap.size W W' := by
  obtain ⟨sa, e1, h1⟩ := obj_of h
  obtain ⟨sb, e2, h2⟩ := obj_of k
  rw [e1, e2]
  exact objectTells_law W h1 h2
end Go.Proofs.Yteomicjjaajblaa
