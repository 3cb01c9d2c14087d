import Derived.Test.YthhfcambdmdgfaaKspah
import Derived.Test.YthhfcambdmdgfaaKspad
import Derived.Test.YthhfcambdmdgfaaKspab
import Derived.Shelf.SlGeneric
import Derived.Shelf.SlMaps.Clone
import Derived.Shelf.SlSortCmp.WholeK
import Derived.Shelf.Small.Bits
import Derived.Shelf.Strconv.Itoa0
import Derived.Test.YthhfcambdmdgfaaProg
import Derived.Test.YthhfcambdmdgfaaKspag
import Derived.Shelf.SlSortCmp.QuietGrown
import Derived.RangeFuncNested
import Derived.RangeFuncBound
import Derived.RangeFuncCalls
import Derived.RangeFuncLeaves
import Derived.RangeFuncBox
import Derived.Shelf.Abstract
import Derived.Shelf.RegionOpen
import Derived.WalkKit
import Derived.Sort.MapsRangeIn
import Derived.OwnWalkIn
import Derived.TacticsInMore
import Derived.LoopNIn
import Derived.LoopIn
import Derived.Shelf.SlSortCmp.NoneTotal
import Derived.Test.YthhfcambdmdgfaaKspaa
import Derived.OrdersHeld
import Derived.OrdersIn
import Derived.WideKeyEntry
namespace Go.Proofs.Ythhfcambdmdgfaa
open Go.RowKit Go.Maps Srt
set_option linter.unusedVariables false
set_option linter.unusedSimpArgs false
def SnapO (w : World) (ver : Int) (l : List ObjD) (e : Ending) (w' : World) : Prop := ∃ v zs, e = .returned (evV 2 zeroO (.slice none 0 0) ver v) ∧ ObjsF w' w.heap.size v zs ∧ oxs zs = srtX kTO l ∧ Below w.heap.size w w'
theorem ranges_ne {H : Type} {P : Program} {k : TypeId} {R : Value → Option (DataW H × List MemPlace)} {w : World} {b r n : Nat} {D : DataW H} {left : Lit → Bool} {cnt : Nat} {base : Nat} {e : TypeId} {sz m : Nat} {v : Value} {xs : List Value}
    (h : w.ranges P k R b r n D left cnt) (hr : w.ownsRow base e sz v m xs) : v.ownBlock ≠ some b ∧ v.ownBlock ≠ some r := by
  obtain ⟨es, clock, since, seen, c0, hb', F, hs, hD, hr', rest⟩ := h
  refine ⟨fun q => ?_, fun q => ?_⟩
  · obtain ⟨_, cs, hc⟩ := rw_type hr q
    rw [hb'] at hc; cases hc
  · obtain ⟨_, cs, hc⟩ := rw_type hr q
    rw [hr'] at hc; cases hc
set_option maxRecDepth 100000 in
set_option maxHeartbeats 8000000 in
theorem ssnapshot_calls (w : World) {base sp mb : Nat} {ver : Int} {M : AM KS OX} {lv : Value} {L : List LX} (h : StoreAt w base sp mb ver M lv L) (hS : ∀ q ∈ M, objSmall q.2.1) (hK : (M.map (·.1)).Nodup) (hT : ((M.map (·.2.1)).map kTO).Nodup) (hM : M.length ≤ 1000000) :
    Calls Try.prog 34 #[.pointer (some ⟨sp, 0, none⟩)] w (SnapO w ver (M.map (·.2.1))) := by
  have hsp := h.ptr
  have m0 : w.cell? ⟨sp, 0, none⟩ = some (.map (some mb)) := blk_cell h.cell 0
  have m1 : w.cell? ⟨sp, 1, none⟩ = some (.int .i64 ver) := blk_cell h.cell 1
  have HST := Lib.hid h; have HS := Lib.hid hS; have HK := Lib.hid hK; have HT := Lib.hid hT; have HM := Lib.hid hM
  clear h hS hK hT hM
  go_enter Try.func34, Try.ntmps34
  go_upto_region 4 with fail
  first | with_reducible refine name_wp ?_ | with_reducible refine name_calls ?_
  intro W hW
  have Hw := Lib.hid (show Below w.heap.size w W by rw [hW]; exact (Below.refl _ _).alloc (Nat.le_refl _) _)
  have gW : W.heap[w.heap.size]? = some (.cells #[.int .i64 0, .string ⟨#[]⟩, .string ⟨#[]⟩, .string ⟨#[]⟩, .int .i64 0, .string ⟨#[]⟩, .bool false, .bool false, .slice none 0 0, .int .i64 0, .slice none 0 0] 30) := by rw [hW]; exact blk_new w _
  have bz0 : W.cell? ⟨w.heap.size, 0, none⟩ = some (.int .i64 0) := blk_cell gW 0
  have bz1 : W.cell? ⟨w.heap.size, 1, none⟩ = some (.string ⟨#[]⟩) := blk_cell gW 1
  have bz2 : W.cell? ⟨w.heap.size, 2, none⟩ = some (.string ⟨#[]⟩) := blk_cell gW 2
  have bz3 : W.cell? ⟨w.heap.size, 3, none⟩ = some (.string ⟨#[]⟩) := blk_cell gW 3
  have bz4 : W.cell? ⟨w.heap.size, 4, none⟩ = some (.int .i64 0) := blk_cell gW 4
  have bz5 : W.cell? ⟨w.heap.size, 5, none⟩ = some (.string ⟨#[]⟩) := blk_cell gW 5
  have bz6 : W.cell? ⟨w.heap.size, 6, none⟩ = some (.bool false) := blk_cell gW 6
  have bz7 : W.cell? ⟨w.heap.size, 7, none⟩ = some (.bool false) := blk_cell gW 7
  have bz8 : W.cell? ⟨w.heap.size, 8, none⟩ = some (.slice none 0 0) := blk_cell gW 8
  have bz9 : W.cell? ⟨w.heap.size, 9, none⟩ = some (.int .i64 0) := blk_cell gW 9
  have bz10 : W.cell? ⟨w.heap.size, 10, none⟩ = some (.slice none 0 0) := blk_cell gW 10
  have UF := Lib.hid (fun j => blk_free gW j)
  have UG := Lib.hid (show TyB W w.heap.size 30 from ⟨_, gW⟩)
  clear hW gW
  have n0 := cb Hw.out m0
  have n1 := cb Hw.out m1
  have HSW := Lib.hid (HST.out.below Hw.out)
  have hmbW : mb < W.heap.size := by
    obtain ⟨es, clock, hb, _⟩ := HSW.out.map
    exact blk_lt hb
  have HNIL := Lib.hid (show W.ownsRow W.heap.size 27 8 (.slice none 0 0) 0 (objC []) from ⟨rfl, .inl ⟨rfl, rfl⟩⟩)
  clear m0 m1
  go_wp2_with (at_range; refine wpList_range_own _ rfl _ 92 rfl 24 27 kS_keyed Try.underlying92 RV mb M.length (dmA kL fO M) rfl HSW.out.map ?_; intro w0 hrg0 hg0 hs0)
  go_frame
  go_loopw [3] (fun s wr => ∃ (left : Lit → Bool) (cnt : Nat) (N : AM KS OX) (A : Option Addr) (c : Nat), s = .slice A N.length c ∧ Hid (wr.ranges Try.prog 24 RV mb W.heap.size M.length (dmA kL fO M) left cnt) ∧ Hid (Met M left N ∧ N.length + cnt ≤ M.length ∧ wr.ownsRow W.heap.size 27 8 (.slice A N.length c) N.length (objC (N.map (·.2)))) ∧ Hid (Below W.heap.size W wr)) (fun _ wr => wr.rangeLeft mb W.heap.size)
  case atStart => exact ⟨_, _, [], none, 0, rfl, Lib.hid hrg0, Lib.hid ⟨Met.start M, by rw [size_dmA kL_lit]; simp, rw_below HNIL.out ((Below.refl _ _).grown hg0 (Nat.le_refl _) (fun j hj => by cases hj))⟩, Lib.hid ((Below.refl _ _).grown hg0 (Nat.le_refl _) (fun j hj => by cases hj))⟩
  case round =>
    obtain ⟨left, cnt, N, A, c, rfl, HRG, HMT, HBr⟩ := hrel
    have hrg := HRG.out
    go_wp2_with (at_next; refine wpList_next_ranges _ rfl _ rfl 24 kS_keyed RV (fun x : Value => x) (fun x : Value => x) (fun key kl _ => ⟨key, rfl⟩) (fun v y _ => ⟨v, rfl⟩) mb W.heap.size M.length _ _ _ rfl hrg ?_ ?_)
    · intro _ hl0
      have HP := Lib.hid (HMT.out.1.perm HK.out hl0)
      have hro := ranges_ne HRG.out HMT.out.2.2
      have HNL := Lib.hid (show N.length ≤ 1000000 by have := HMT.out.2.1; have := HM.out; omega)
      obtain ⟨ys, hys⟩ : ∃ ys, ys = N.map (·.2) := ⟨_, rfl⟩
      have hyl : ys.length = N.length := by rw [hys]; simp
      have hymem : ∀ p ∈ ys, ∃ q ∈ M, q.2 = p := fun p hp => by
        rw [hys] at hp
        obtain ⟨q, hq, e⟩ := List.mem_map.1 hp
        exact ⟨q, (HMT.out.1.sub q hq).1, e⟩
      have HYX := Lib.hid (show ObjsS wr (.slice A N.length c) ys from ⟨by rw [hyl]; have q := HMT.out.2.2; rw [← hys] at q; exact sliS_of q, fun p hp => by
        obtain ⟨q, hq, rfl⟩ := hymem p hp
        have z := HSW.out.resM q hq
        exact ObjS.below ⟨z.1.resS z.2.1.2, z.2.1.1⟩ HBr.out⟩)
      have HYSM := Lib.hid (show OSmall (oxs ys) from fun o ho => by
        obtain ⟨p, hp, rfl⟩ := List.mem_map.1 ho
        obtain ⟨q, hq, rfl⟩ := hymem p hp
        exact HS.out q hq)
      have HSRT := Lib.hid (show srtX kTO (oxs ys) = srtX kTO (M.map (·.2.1)) by
        refine srtX_perm ?_ HT.out
        have q := HP.out.map (fun p : KS × OX => p.2.1)
        rw [hys]; unfold oxs; rw [List.map_map]; exact q)
      have HSC := Lib.hid (fun (U : World) (hb : Below wr.heap.size wr U) => evsorted_calls U (HYX.out.below hb) HYSM.out (by rw [hyl]; exact HNL.out))
      have HWW := Lib.hid (show w.heap.size < W.heap.size from lt_of_cell bz0)
      have o1 := cb HBr.out n1
      have e0 := cb HBr.out bz0
      have e1 := cb HBr.out bz1
      have e2 := cb HBr.out bz2
      have e3 := cb HBr.out bz3
      have e4 := cb HBr.out bz4
      have e5 := cb HBr.out bz5
      have e6 := cb HBr.out bz6
      have e7 := cb HBr.out bz7
      have e8 := cb HBr.out bz8
      have e9 := cb HBr.out bz9
      have e10 := cb HBr.out bz10
      have HUF := Lib.hid (fun j => fb HBr.out (a := ⟨w.heap.size, j, none⟩) HWW.out (UF.out j))
      have HTY := Lib.hid (TyB.below UG.out HBr.out)
      have HBw := Lib.hid (bl_from Hw.out HBr.out)
      clear hrg hys hyl hymem hro n0 n1 hl0 hmbW hrg0 hg0 hs0 bz0 bz1 bz2 bz3 bz4 bz5 bz6 bz7 bz8 bz9 bz10
      go_upto_region 8 with fail
      have hB := Below.refl wr.heap.size wr
      have hB := hB.drew
      refine region_seqM (fun w' => Below wr.heap.size wr w') 7 [(0, 1), (1, 1), (2, 1), (3, 1), (4, 1), (5, 0), (6, 1), (7, 0)] (by kernel_rfl) (by kernel_rfl) (fun _ _ _ _ h => h) hB ?_
      try generalize World.drew _ = wS at hB ⊢
      refine sm_take (v := ?_) (a' := ?_) (some 22) rfl rfl (by rfl) ?_ ?_ ?_
      rotate_left; rotate_left
      · intro w' hS; go_simp; with_reducible rfl
      · simp only [Act.put, List.setIfInBounds_toArray, List.set_cons_zero, List.set_cons_succ]; rfl
      refine sm_take (v := ?_) (a' := ?_) (some 23) rfl rfl (by rfl) ?_ ?_ ?_
      rotate_left; rotate_left
      · intro w' hS; go_simp; with_reducible rfl
      · simp only [Act.put, List.setIfInBounds_toArray, List.set_cons_zero, List.set_cons_succ]; rfl
      refine sm_take (v := ?_) (a' := ?_) (some 24) rfl rfl (by rfl) ?_ ?_ ?_
      rotate_left; rotate_left
      · intro w' hS; go_simp; with_reducible rfl
      · simp only [Act.put, List.setIfInBounds_toArray, List.set_cons_zero, List.set_cons_succ]; rfl
      refine sm_take (v := ?_) (a' := ?_) (some 25) rfl rfl (by rfl) ?_ ?_ ?_
      rotate_left; rotate_left
      · intro w' hS; have p0 := cb hS o1; go_simp; with_reducible rfl
      · simp only [Act.put, List.setIfInBounds_toArray, List.set_cons_zero, List.set_cons_succ]; rfl
      refine sm_take (v := ?_) (a' := ?_) (some 26) rfl rfl (by rfl) ?_ ?_ ?_
      rotate_left; rotate_left
      · intro w' hS; go_simp; with_reducible rfl
      · simp only [Act.put, List.setIfInBounds_toArray, List.set_cons_zero, List.set_cons_succ]; rfl
      refine sm_call (args := ?_) Try.func19 (by kernel_rfl) rfl (some 27) rfl rfl (by rfl) rfl rfl ?_ ?_
      rotate_left
      · simp only [List.map_toArray, List.map_cons, List.map_nil]; go_simp; rfl
      with_reducible refine ((HSC.out _ hB)).mono ?_
      rintro e w' ⟨v2, zs, rfl, HZ, hzo, hb⟩
      obtain ⟨A2, c2, rfl⟩ := HZ.form; have HZ2 := Lib.hid (HZ.mono (b' := wr.heap.size) hB.size); have HZO := Lib.hid hzo; clear HZ hzo
      refine ⟨_, rfl, .inr (bl_next (by repeat (first | with_reducible exact hB | refine Below.alloc ?_ (by have := hB.size; simp; omega) _ | refine bl_dN ?_ _ | refine Below.drew ?_ | refine Below.setCell ?_ (by have := hB.size; simp; omega) _)) hb), ?_⟩
      have hB := bl_next (by repeat (first | with_reducible exact hB | refine Below.alloc ?_ (by have := hB.size; simp; omega) _ | refine bl_dN ?_ _ | refine Below.drew ?_ | refine Below.setCell ?_ (by have := hB.size; simp; omega) _)) hb; clear hb
      simp only [Act.put, List.setIfInBounds_toArray, List.set_cons_zero, List.set_cons_succ]
      refine sm_take (v := ?_) (a' := ?_) (some 28) rfl rfl (by rfl) ?_ ?_ ?_
      rotate_left; rotate_left
      · intro w' hS; go_simp; with_reducible rfl
      · simp only [Act.put, List.setIfInBounds_toArray, List.set_cons_zero, List.set_cons_succ]; rfl
      refine sm_store none rfl rfl (by rfl) ?_
      apply Exists.intro; apply And.intro
      · have k0 := cb hB e0; have kf0 := fb hB (lt_of_cell e0) (HUF.out 0); have k1 := cb hB e1; have kf1 := fb hB (lt_of_cell e1) (HUF.out 1); have k2 := cb hB e2; have kf2 := fb hB (lt_of_cell e2) (HUF.out 2); have k3 := cb hB e3; have kf3 := fb hB (lt_of_cell e3) (HUF.out 3); have k4 := cb hB e4; have kf4 := fb hB (lt_of_cell e4) (HUF.out 4); have k5 := cb hB e5; have kf5 := fb hB (lt_of_cell e5) (HUF.out 5); have k6 := cb hB e6; have kf6 := fb hB (lt_of_cell e6) (HUF.out 6); have k7 := cb hB e7; have kf7 := fb hB (lt_of_cell e7) (HUF.out 7); have k8 := cb hB e8; have kf8 := fb hB (lt_of_cell e8) (HUF.out 8); have k9 := cb hB e9; have kf9 := fb hB (lt_of_cell e9) (HUF.out 9); have k10 := cb hB e10; have kf10 := fb hB (lt_of_cell e10) (HUF.out 10); go_simp; first | exact ⟨rfl, rfl⟩ | rfl
      apply Exists.intro; apply And.intro
      · simp only [Act.put, List.setIfInBounds_toArray, List.set_cons_zero, List.set_cons_succ]; rfl
      apply And.intro
      · exact .inl rfl
      refine sm_done ?_
      have k0 := cb hB e0
      have k1 := cb hB e1
      have k2 := cb hB e2
      have k3 := cb hB e3
      have k4 := cb hB e4
      have k5 := cb hB e5
      have k6 := cb hB e6
      have k7 := cb hB e7
      have k8 := cb hB e8
      have k9 := cb hB e9
      have k10 := cb hB e10
      go_wp2_with fail
      refine name_body ?_
      intro Z hZ
      have hkZ : Kept (fun k => k = w.heap.size) w' Z := by
        rw [hZ]
        iterate 11 (refine Kept.setCell ?_ _ _ (.inl rfl))
        exact Kept.refl _ _
      have r0 : Z.cell? ⟨w.heap.size, 0, none⟩ = some (.int .i64 2) := by rw [hZ]; go_simp
      have r1 : Z.cell? ⟨w.heap.size, 1, none⟩ = some (.string ⟨#[]⟩) := by rw [hZ]; go_simp
      have r2 : Z.cell? ⟨w.heap.size, 2, none⟩ = some (.string ⟨#[]⟩) := by rw [hZ]; go_simp
      have r3 : Z.cell? ⟨w.heap.size, 3, none⟩ = some (.string ⟨#[]⟩) := by rw [hZ]; go_simp
      have r4 : Z.cell? ⟨w.heap.size, 4, none⟩ = some (.int .i64 0) := by rw [hZ]; go_simp
      have r5 : Z.cell? ⟨w.heap.size, 5, none⟩ = some (.string ⟨#[]⟩) := by rw [hZ]; go_simp
      have r6 : Z.cell? ⟨w.heap.size, 6, none⟩ = some (.bool false) := by rw [hZ]; go_simp
      have r7 : Z.cell? ⟨w.heap.size, 7, none⟩ = some (.bool false) := by rw [hZ]; go_simp
      have r8 : Z.cell? ⟨w.heap.size, 8, none⟩ = some (.slice none 0 0) := by rw [hZ]; go_simp
      have r9 : Z.cell? ⟨w.heap.size, 9, none⟩ = some (.int .i64 ver) := by rw [hZ]; go_simp
      have r10 : Z.cell? ⟨w.heap.size, 10, none⟩ = some (.slice A2 zs.length c2) := by rw [hZ]; go_simp
      clear hZ
      have hty := TyB.below HTY.out hB
      have hsz := hB.size
      have hww := HBw.out.size
      refine bodyPost_ret (v := .agg #[.int .i64 2, .string ⟨#[]⟩, .string ⟨#[]⟩, .string ⟨#[]⟩, .int .i64 0, .string ⟨#[]⟩, .bool false, .bool false, .slice none 0 0, .int .i64 ver, .slice A2 zs.length c2]) (by simp [results, Try.results34, go_sem, r0, r1, r2, r3, r4, r5, r6, r7, r8, r9, r10]) rfl ?_
      refine ⟨.slice A2 zs.length c2, zs, rfl, ?_, by rw [HZO.out, HSRT.out], (HBw.out.trans (hB.mono hww)).trans (hkZ.below (by omega) (fun j e => by omega))⟩
      refine (HZ2.out.mono (by omega)).kept hkZ (fun q e1 e2 => ?_) (fun q e cs hc => ?_)
      · subst e2
        obtain ⟨cs, hc⟩ := hty
        exact rw_other HZ2.out.1 hc (by decide) e1
      · subst e
        exact TyB.ne hty hc (by decide)
    · intro x cv kl yd yp w1 cnt1 hkx hlk hcy hat hrg1 hlt hg1 hs1 hen
      obtain ⟨p, hp, hkl, hcv⟩ := met_next (HMT.out.1.has kl hlk) hcy hat
      obtain ⟨k, o, so⟩ := p
      obtain ⟨g, hg⟩ := (HSW.out.resM _ hp).1.form
      simp only at hg hcv hkl
      subst hg
      subst hkl
      subst hcv
      have HM1 := Lib.hid (HMT.out.1.step HK.out hp hlk)
      have HB1 := Lib.hid (HBr.out.grown hg1 HBr.out.size (fun j hj => by cases hj; exact Nat.le_refl _))
      have HRG1 := Lib.hid hrg1
      have hro := ranges_ne HRG.out HMT.out.2.2
      have HO1 := Lib.hid (rw_kept (w' := w1) (X := fun q => q = W.heap.size) HMT.out.2.2 ((Kept.refl _ _).grown hg1 (fun j hj => by cases hj; exact .inl rfl)) (fun q e1 e2 => by subst e2; exact hro.2 e1))
      clear hro
      have HLE := Lib.hid (show N.length + 1 + cnt1 ≤ M.length by have := HMT.out.2.1; omega)
      have hen2 : (Instr.entry (.pointer (some ⟨W.heap.size, 0, none⟩))).run Try.prog w1 = .ok (.tuple #[x, .agg #[.string o.key.kind, .string o.key.space, .string o.key.name, .int .i64 o.ver, .string o.cls, .bool o.term, .bool o.best, .slice (some ⟨g, 0, none⟩) o.charge.length o.charge.length]]) w1 := hen
      have HLT := Lib.hid hlt
      have HLEFT := Lib.hid hrg.left_eq
      clear hrg hkx hlk hcy hat hrg1 hlt hg1 hs1 hen hp
      go_upto_region 7 with fail
      first | with_reducible refine name_wp ?_ | with_reducible refine name_calls ?_
      intro V1 hU
      have hw9 : Below w1.heap.size w1 V1 := by rw [hU]; exact (Below.refl w1.heap.size w1).alloc (Nat.le_refl _) _
      have gA : V1.heap[w1.heap.size]? = some (.cells #[.string o.key.kind, .string o.key.space, .string o.key.name, .int .i64 o.ver, .string o.cls, .bool o.term, .bool o.best, .slice (some ⟨g, 0, none⟩) o.charge.length o.charge.length] 27) := by rw [hU]; exact blk_new w1 _
      clear hU
      have a0 := blk_cell gA 0
      have a1 := blk_cell gA 1
      have a2 := blk_cell gA 2
      have a3 := blk_cell gA 3
      have a4 := blk_cell gA 4
      have a5 := blk_cell gA 5
      have a6 := blk_cell gA 6
      have a7 := blk_cell gA 7
      have HBV := Lib.hid (bl_next HB1.out hw9)
      have HRG2 := Lib.hid (ranges_kept HRG1.out (kept_of_below (X := fun _ => False) hw9) (fun q => q) (fun q => q))
      obtain ⟨ys, hys⟩ : ∃ ys, ys = N.map (·.2) := ⟨_, rfl⟩
      have hyl : ys.length = N.length := by rw [hys]; simp
      have HY1 := Lib.hid (show V1.ownsRow W.heap.size 27 8 (.slice A N.length c) ys.length (objC ys) by rw [hyl, hys]; exact rw_below HO1.out hw9)
      have HYL := Lib.hid hyl; have HYS := Lib.hid hys
      have hyb : ys.length ≤ 1000000 := by have := HLE.out; have := HM.out; omega
      clear gA hw9 hyl hys HO1 HRG1
      go_wp2_with (at_builtin; refine app_obj rfl (.tmp 18) (.tmp 20) rfl W.heap.size _ (.slice A N.length c) ys (o, Value.slice (some ⟨g, 0, none⟩) o.charge.length o.charge.length) _ _ _ rfl rfl HY1.out 1 rfl HBV.out.size (by omega) ?_; intro g3 cap w3 hown' hk'; have HN := Lib.hid hown'; have HB3 := Lib.hid (HBV.out.trans (row_below HY1.out hk' HBV.out.size)); have hro := ranges_ne HRG2.out HY1.out; have HRG3 := Lib.hid (ranges_kept HRG2.out hk' hro.1 hro.2); clear hown' hk' hro)
      go_roundw
      case rel => exact ⟨_, cnt1, N ++ [(k, (o, Value.slice (some ⟨g, 0, none⟩) o.charge.length o.charge.length))], some ⟨g3, 0, none⟩, cap, by rw [HYL.out]; simp, HRG3, Lib.hid ⟨HM1.out, by simp; have := HLE.out; omega, by
        have q := HN.out
        rw [HYL.out] at q
        rw [HYS.out] at q
        simpa using q⟩, HB3⟩
      case measure => rw [HRG3.out.left_eq, HRG.out.left_eq]; exact HLT.out
end Go.Proofs.Ythhfcambdmdgfaa
namespace Go.Proofs.Ythhfcambdmdgfaa
open Go.RowKit Go.Maps
set_option linter.unusedVariables false
set_option linter.unusedSimpArgs false
set_option maxRecDepth 100000 in
set_option maxHeartbeats 4000000 in
theorem sput_nil (w : World) : Calls Try.prog 39 #[.pointer none, .agg #[.string ⟨#[]⟩, .string ⟨#[]⟩, .string ⟨#[]⟩, .int .i64 0, .string ⟨#[]⟩, .bool false, .bool false, .slice none 0 0]] w fun e w' => e = .returned (.tuple #[.int .i64 0, .int .i64 1]) ∧ Below w.heap.size w w' := by
  have hB := Below.refl w.heap.size w
  go_enter Try.func39, Try.ntmps39
  go_wp2_with fail
  exact bodyPost_ret (v := .tuple #[.int .i64 0, .int .i64 1]) (by simp [results, Try.results39, go_sem]) rfl ⟨rfl, (Below.refl _ _).alloc (Nat.le_refl _) _⟩
set_option maxRecDepth 100000 in
set_option maxHeartbeats 4000000 in
theorem sdelete_nil (w : World) (k : KeyD) : Calls Try.prog 40 #[.pointer none, .agg #[.string k.kind, .string k.space, .string k.name]] w fun e w' => e = .returned (.tuple #[.int .i64 0, .int .i64 1]) ∧ Below w.heap.size w w' := by
  have hB := Below.refl w.heap.size w
  go_enter Try.func40, Try.ntmps40
  go_wp2_with fail
  exact bodyPost_ret (v := .tuple #[.int .i64 0, .int .i64 1]) (by simp [results, Try.results40, go_sem]) rfl ⟨rfl, (Below.refl _ _).alloc (Nat.le_refl _) _⟩
set_option maxRecDepth 100000 in
set_option maxHeartbeats 4000000 in
theorem ssnapshot_nil (w : World) : Calls Try.prog 34 #[.pointer none] w fun e w' => e = .returned (evV 0 zeroO (.slice none 0 0) 0 (.slice none 0 0)) ∧ Below w.heap.size w w' := by
  have hB := Below.refl w.heap.size w
  go_enter Try.func34, Try.ntmps34
  go_wp2_with fail
  refine name_body ?_
  intro Z hZ
  have gZ : ∃ cs, cs = #[.int .i64 0, .string ⟨#[]⟩, .string ⟨#[]⟩, .string ⟨#[]⟩, .int .i64 0, .string ⟨#[]⟩, .bool false, .bool false, .slice none 0 0, .int .i64 0, .slice none 0 0] ∧ Z.heap[w.heap.size]? = some (.cells cs 30) := ⟨_, rfl, by rw [hZ]; exact blk_new w _⟩
  obtain ⟨cs, hcs, gZ⟩ := gZ
  have hbZ : Below w.heap.size w Z := by rw [hZ]; exact (Below.refl _ _).alloc (Nat.le_refl _) _
  subst hcs
  clear hZ
  have r0 : Z.cell? ⟨w.heap.size, 0, none⟩ = some (.int .i64 0) := blk_cell gZ 0
  have r1 : Z.cell? ⟨w.heap.size, 1, none⟩ = some (.string ⟨#[]⟩) := blk_cell gZ 1
  have r2 : Z.cell? ⟨w.heap.size, 2, none⟩ = some (.string ⟨#[]⟩) := blk_cell gZ 2
  have r3 : Z.cell? ⟨w.heap.size, 3, none⟩ = some (.string ⟨#[]⟩) := blk_cell gZ 3
  have r4 : Z.cell? ⟨w.heap.size, 4, none⟩ = some (.int .i64 0) := blk_cell gZ 4
  have r5 : Z.cell? ⟨w.heap.size, 5, none⟩ = some (.string ⟨#[]⟩) := blk_cell gZ 5
  have r6 : Z.cell? ⟨w.heap.size, 6, none⟩ = some (.bool false) := blk_cell gZ 6
  have r7 : Z.cell? ⟨w.heap.size, 7, none⟩ = some (.bool false) := blk_cell gZ 7
  have r8 : Z.cell? ⟨w.heap.size, 8, none⟩ = some (.slice none 0 0) := blk_cell gZ 8
  have r9 : Z.cell? ⟨w.heap.size, 9, none⟩ = some (.int .i64 0) := blk_cell gZ 9
  have r10 : Z.cell? ⟨w.heap.size, 10, none⟩ = some (.slice none 0 0) := blk_cell gZ 10
  exact bodyPost_ret (v := .agg #[.int .i64 0, .string ⟨#[]⟩, .string ⟨#[]⟩, .string ⟨#[]⟩, .int .i64 0, .string ⟨#[]⟩, .bool false, .bool false, .slice none 0 0, .int .i64 0, .slice none 0 0]) (by simp [results, Try.results34, go_sem, r0, r1, r2, r3, r4, r5, r6, r7, r8, r9, r10]) rfl ⟨rfl, hbZ⟩
end Go.Proofs.Ythhfcambdmdgfaa
namespace Go.Proofs.Ythhfcambdmdgfaa
open Go.RowKit Go.Maps
set_option linter.unusedVariables false
set_option linter.unusedSimpArgs false
abbrev WX := Bool × OX
def wX (p : WX) : List Value := .bool p.1 :: objX p.2
def wC (xs : List WX) : List Value := xs.flatMap wX
def WrS (w : World) (v : Value) (xs : List WX) : Prop := SliS w v 9 xs.length (wC xs) ∧ ∀ p ∈ xs, ObjS w p.2.2 p.2.1
structure WrAt (w : World) (b off : Nat) (p : WX) : Prop where
  c0 : w.cell? ⟨b, off, none⟩ = some (.bool p.1)
  c1 : w.cell? ⟨b, off + 1, none⟩ = some (.string p.2.1.key.kind)
  c2 : w.cell? ⟨b, off + 2, none⟩ = some (.string p.2.1.key.space)
  c3 : w.cell? ⟨b, off + 3, none⟩ = some (.string p.2.1.key.name)
  c4 : w.cell? ⟨b, off + 4, none⟩ = some (.int .i64 p.2.1.ver)
  c5 : w.cell? ⟨b, off + 5, none⟩ = some (.string p.2.1.cls)
  c6 : w.cell? ⟨b, off + 6, none⟩ = some (.bool p.2.1.term)
  c7 : w.cell? ⟨b, off + 7, none⟩ = some (.bool p.2.1.best)
  c8 : w.cell? ⟨b, off + 8, none⟩ = some (p.2.2)
theorem WrS.form {w : World} {v : Value} {xs : List WX} (h : WrS w v xs) : ∃ A c, v = .slice A xs.length c := h.1.form
theorem WrS.below {w w' : World} {v : Value} {xs : List WX} (h : WrS w v xs) (hb : Below w.heap.size w w') : WrS w' v xs := ⟨h.1.below hb, fun p hp => (h.2 p hp).below hb⟩
theorem WrAt.below {w w' : World} {b off : Nat} {p : WX} (h : WrAt w b off p) (hb : Below w.heap.size w w') : WrAt w' b off p := ⟨cb hb h.c0, cb hb h.c1, cb hb h.c2, cb hb h.c3, cb hb h.c4, cb hb h.c5, cb hb h.c6, cb hb h.c7, cb hb h.c8⟩
theorem WrS.at' {w : World} {v : Value} {xs : List WX} (h : WrS w v xs) {k : Nat} (hk : k < xs.length) : ∃ b off c, v = .slice (some ⟨b, off, none⟩) xs.length c ∧ WrAt w b (off + k * 9) (xs[k]'hk) ∧ ObjS w (xs[k]'hk).2.2 (xs[k]'hk).2.1 := by
  obtain ⟨b, off, c, hv, _, hx⟩ := h.1.at' hk
  refine ⟨b, off, c, hv, ?_, h.2 _ (List.getElem_mem hk)⟩
  have z : ∀ j, j < 9 → ∀ u, (wX (xs[k]'hk))[j]? = some u → w.cell? ⟨b, off + k * 9 + j, none⟩ = some u := fun j hj u e => hx j hj u (by rw [show wC xs = xs.flatMap wX from rfl, flat_at wX 9 (fun _ => rfl) xs k hk j hj]; exact e)
  exact ⟨z 0 (by omega) _ rfl, z 1 (by omega) _ rfl, z 2 (by omega) _ rfl, z 3 (by omega) _ rfl, z 4 (by omega) _ rfl, z 5 (by omega) _ rfl, z 6 (by omega) _ rfl, z 7 (by omega) _ rfl, z 8 (by omega) _ rfl⟩
def WSmall (xs : List WX) : Prop := ∀ p ∈ xs, objSmall p.2.1
theorem wSmall_snoc {xs : List WX} {k : Nat} (hk : k < xs.length) (h : WSmall (xs.take k)) (q : objSmall (xs[k]'hk).2.1) : WSmall (xs.take (k + 1)) := by
  intro p hp
  rw [List.take_succ_eq_append_getElem hk] at hp
  rcases List.mem_append.1 hp with r | r
  · exact h p r
  · obtain rfl := List.mem_singleton.1 r; exact q
def FitW (w : World) (xs : List WX) (e : Ending) (w' : World) : Prop := ∃ f, e = .returned (.bool f) ∧ (f = true → WSmall xs ∧ xs.length ≤ 60) ∧ Below w.heap.size w w'
theorem fitW_no {w w' : World} {xs : List WX} (h : Below w.heap.size w w') : FitW w xs (.returned (.bool false)) w' := ⟨false, rfl, (fun h => by cases h), h⟩
theorem fitW_yes {w w' : World} {xs : List WX} (h : Below w.heap.size w w') (q : WSmall xs ∧ xs.length ≤ 60) : FitW w xs (.returned (.bool true)) w' := ⟨true, rfl, (fun _ => q), h⟩
set_option maxRecDepth 100000 in
set_option maxHeartbeats 8000000 in
theorem fits9_calls (w : World) {v : Value} {xs : List WX} (h : WrS w v xs) : Calls Try.prog 26 #[v] w (FitW w xs) := by
  have HX := Lib.hid h
  obtain ⟨al, cl, rfl⟩ := h.form
  clear h
  have hB := Below.refl w.heap.size w
  go_enter Try.func26, Try.ntmps26
  by_cases h60 : xs.length ≤ 60
  · have i60 : ¬ (60 : Int) < xs.length := by omega
    have H60 := Lib.hid h60
    go_wp2_with fail
    go_loopw [3] (fun i wr => ∃ k : Nat, i = .int .i64 k ∧ k ≤ xs.length ∧ Hid (WSmall (xs.take k)) ∧ Below w.heap.size w wr) (fun i _ => xs.length - (intOf i).toNat)
    case atStart => exact ⟨0, rfl, Nat.zero_le _, Lib.hid (by intro p hp; cases hp), hB⟩
    case round =>
      clear hB
      obtain ⟨k, rfl, hk, HT, hB⟩ := hrel
      by_cases hkl : k < xs.length
      · have hkI : (k : Int) < xs.length := by omega
        obtain ⟨b, of, c, he, q, s⟩ := HX.out.at' hkl
        cases he
        have HST := Lib.hid (wSmall_snoc hkl HT.out)
        generalize xs[k]'hkl = x at q s HST
        obtain ⟨gone, o, so⟩ := x
        simp only at s HST
        obtain ⟨ao, co, rfl⟩ := s.1.form
        have q := q.below hB
        have d0 := q.c0
        have d1 := q.c1
        have d2 := q.c2
        have d3 := q.c3
        have d4 := q.c4
        have d5 := q.c5
        have d6 := q.c6
        have d7 := q.c7
        have d8 := q.c8
        have HF := Lib.hid (fits5_calls _ (s.below hB))
        unfold objV at HF
        clear q s
        go_upto_region 7 with (go_at_call 55; ((with_reducible refine HF.out.mono ?_); rintro e w' ⟨f, rfl, hf, hb⟩; have HFF := Lib.hid hf; clear hf; have hB := bl_next hB hb; clear hb))
        cases f with
        | false =>
          go_wp2_with fail
          go_ret
          exact fitW_no hB
        | true =>
          have HOK := Lib.hid (HST.out (fit_small' (o := o) (HFF.out rfl)))
          go_wp2_with fail
          go_roundw
          case rel => exact ⟨k + 1, by simp, by omega, HOK, hB⟩
          case measure => simp [intOf]; omega
      · obtain rfl : k = xs.length := by omega
        have hT := HT.out
        rw [List.take_length] at hT
        go_wp2_with fail
        go_ret
        exact fitW_yes hB ⟨hT, H60.out⟩
  · have i60 : (60 : Int) < xs.length := by omega
    go_wp2_with fail
    go_ret
    exact fitW_no hB
theorem act9_form {w : World} {base sp mb : Nat} {ver : Int} {M1 : Value → AM KS OX} {lv : Value} {L : List LX} {kd : Int} {o : ObjD} {er : Int} {e : Ending} {w' : World} (h : Act9 w base sp mb ver M1 lv L kd o er e w') : ∃ vv : Int, e = .returned (.tuple #[.int .i64 vv, .int .i64 er]) ∧ Act9 w base sp mb ver M1 lv L kd o er (.returned (.tuple #[.int .i64 vv, .int .i64 er])) w' := by
  have h' := h
  rcases h with ⟨_, rfl, _⟩ | ⟨he, lv', x, y, rfl, _⟩
  · exact ⟨0, rfl, h'⟩
  · subst he; exact ⟨ver + 1, rfl, h'⟩
theorem act9_from {w W : World} {base sp mb : Nat} {ver : Int} {M1 : Value → AM KS OX} {lv : Value} {L : List LX} {kd : Int} {o : ObjD} {er : Int} {e : Ending} {w' : World} (hb : Below w.heap.size w W) (h : Act9 W base sp mb ver M1 lv L kd o er e w') : Act9 w base sp mb ver M1 lv L kd o er e w' := by
  rcases h with ⟨h1, h2, h3⟩ | ⟨h1, lv', x, y, h2, h3, h4⟩
  · exact .inl ⟨h1, h2, bl_from hb h3⟩
  · exact .inr ⟨h1, lv', x, y, h2, h3, (kept_of_below (X := fun b => b = sp ∨ b = mb ∨ lv.ownBlock = some b) hb).trans h4 (fun _ q => .inl q)⟩
/-- What a write answers. -/
def wErr (M : AM KS OX) (k : KS) (gone : Bool) (o : ObjD) : Int := if gone then delErr M k else putErr M k o
noncomputable def wMap (M : AM KS OX) (k : KS) (gone : Bool) (o : ObjD) (ver : Int) (y : Value) : AM KS OX := if gone then delA M k else putA ltKS M k ({ o with ver := ver + 1 }, y)
def wObj (gone : Bool) (o : ObjD) : ObjD := if gone then goneO o.key else o
def wKind (gone : Bool) : Int := if gone then 1 else 0
set_option maxRecDepth 100000 in
set_option maxHeartbeats 8000000 in
theorem do_calls (w : World) {base sp mb : Nat} {ver : Int} {M : AM KS OX} {lv : Value} {L : List LX} (h : StoreAt w base sp mb ver M lv L) (gone : Bool) {o : ObjD} {k : KS} {sl : Value} (hk : k.1 = o.key)
    (hO : ∀ U, Kept (fun b => b = sp ∨ b = mb ∨ lv.ownBlock = some b) w U → ObjS U sl o) (hs : objSmall o) (hv : 0 ≤ ver ∧ ver ≤ 1000000000) (hM : M.length ≤ 1000000) (hL : L.length ≤ 1000000) :
    Calls Try.prog 29 #[.pointer (some ⟨sp, 0, none⟩), .agg #[.bool gone, .string o.key.kind, .string o.key.space, .string o.key.name, .int .i64 o.ver, .string o.cls, .bool o.term, .bool o.best, sl]] w (Act9 w base sp mb ver (wMap M k gone o ver) lv L (wKind gone) (wObj gone o) (wErr M k gone o)) := by
  obtain ⟨ao, co, rfl⟩ := (hO w (Kept.refl _ _)).1.form
  have HP := Lib.hid (fun (U : World) (hb : Below w.heap.size w U) => sput_calls U (h.below hb) (k := k) hk (fun X hX => hO X ((kept_of_below (X := fun b => b = sp ∨ b = mb ∨ lv.ownBlock = some b) hb).trans hX (fun _ q => .inl q))) hs hv hM hL)
  have HD := Lib.hid (fun (U : World) (hb : Below w.heap.size w U) => sdelete_calls U (h.below hb) k hv hM hL)
  unfold objV at HP
  rw [hk] at HD
  clear h hO hs hv hM hL
  go_enter Try.func29, Try.ntmps29
  go_upto_region 1 with fail
  first | with_reducible refine name_wp ?_ | with_reducible refine name_calls ?_
  intro W hW
  have Hw := Lib.hid (show Below w.heap.size w W by rw [hW]; exact (Below.refl _ _).alloc (Nat.le_refl _) _)
  have b0 : W.cell? ⟨w.heap.size, 0, none⟩ = some (.bool gone) := by rw [hW]; exact blk_cell (blk_new w _) 0
  have b1 : W.cell? ⟨w.heap.size, 1, none⟩ = some (.string o.key.kind) := by rw [hW]; exact blk_cell (blk_new w _) 1
  have b2 : W.cell? ⟨w.heap.size, 2, none⟩ = some (.string o.key.space) := by rw [hW]; exact blk_cell (blk_new w _) 2
  have b3 : W.cell? ⟨w.heap.size, 3, none⟩ = some (.string o.key.name) := by rw [hW]; exact blk_cell (blk_new w _) 3
  have b4 : W.cell? ⟨w.heap.size, 4, none⟩ = some (.int .i64 o.ver) := by rw [hW]; exact blk_cell (blk_new w _) 4
  have b5 : W.cell? ⟨w.heap.size, 5, none⟩ = some (.string o.cls) := by rw [hW]; exact blk_cell (blk_new w _) 5
  have b6 : W.cell? ⟨w.heap.size, 6, none⟩ = some (.bool o.term) := by rw [hW]; exact blk_cell (blk_new w _) 6
  have b7 : W.cell? ⟨w.heap.size, 7, none⟩ = some (.bool o.best) := by rw [hW]; exact blk_cell (blk_new w _) 7
  have b8 : W.cell? ⟨w.heap.size, 8, none⟩ = some (.slice ao o.charge.length co) := by rw [hW]; exact blk_cell (blk_new w _) 8
  clear hW
  cases gone with
  | true =>
    have HC := Lib.hid (HD.out W Hw.out)
    skip
    go_wp2_with (go_at_call 40; refine HC.out.mono ?_; rintro e w1 hA; obtain ⟨vv, rfl, hA2⟩ := act9_form hA; have HA := Lib.hid hA2; clear hA hA2)
    refine bodyPost_ret (v := .tuple #[.int .i64 vv, .int .i64 (delErr M k)]) (by simp [results, Try.results29, go_sem]) rfl ?_
    exact act9_from Hw.out HA.out
  | false =>
    have HC := Lib.hid (HP.out W Hw.out)
    skip
    go_wp2_with (go_at_call 39; refine HC.out.mono ?_; rintro e w1 hA; obtain ⟨vv, rfl, hA2⟩ := act9_form hA; have HA := Lib.hid hA2; clear hA hA2)
    refine bodyPost_ret (v := .tuple #[.int .i64 vv, .int .i64 (putErr M k o)]) (by simp [results, Try.results29, go_sem]) rfl ?_
    exact act9_from Hw.out HA.out
end Go.Proofs.Ythhfcambdmdgfaa
namespace Go.Proofs.Ythhfcambdmdgfaa
open Go.RowKit Go.Maps
set_option linter.unusedVariables false
set_option linter.unusedSimpArgs false
def kWr : Kd (Bool × ObjD) := kPair kBool kObj
theorem opWr : Opens Try.prog 53 kWr := by
  refine opens_struct Try.underlying53 (by kernel_rfl) ?_
  exact (by refine opensF_cons ?_ ?_ ?_; rfl; exact opBool; refine opensF_one ?_ ?_; rfl; exact opObj)
theorem opWrL : Opens Try.prog 43 (kSlice kWr) := opens_slice Try.underlying43 (by kernel_rfl) (by decide) opWr
theorem wr_of {w : World} {ok : Nat → Prop} {l : List (Bool × ObjD)} {v : Value} (h : (kSlice kWr).K w ok l [v]) : ∃ xs : List WX, WrS w v xs := by
  obtain ⟨A, c, hv, hc, hr⟩ := h
  obtain rfl : v = .slice A l.length c := by simpa using hv
  have : Inhabited WX := ⟨(false, (zeroO, .nilFunc))⟩
  obtain ⟨xs, h1, h2, h3⟩ := slice_rows (kd := kWr) (sz := 9) rfl (by omega) wX (fun _ => rfl) (fun a x => ObjS w x.2.2 x.2.1) (fun a cs hk => by
    obtain ⟨c0, c1, rfl, h0, h1⟩ := hk
    obtain ⟨sl, rfl, hs⟩ := obj_cells h1
    exact ⟨(a.1, (a.2, sl)), by rw [show c0 = _ from h0]; rfl, hs⟩) hc hr
  refine ⟨xs, h2, fun p hp => ?_⟩
  obtain ⟨i, hi, rfl⟩ := List.mem_iff_getElem.1 hp
  exact h3 i (by omega) hi
end Go.Proofs.Ythhfcambdmdgfaa
namespace Go.Proofs.Ythhfcambdmdgfaa
open Go.RowKit Go.Shelf Go.Maps
set_option linter.unusedVariables false
set_option linter.unusedSimpArgs false
set_option linter.unusedSectionVars false
attribute [local go_sem] Oper.semAt_some
section
variable {β : Type} {M : AM KS β} {f : β → Value} {left : Lit → Bool} {ss : List KS}
end
end Go.Proofs.Ythhfcambdmdgfaa
namespace Go.Proofs.Ythhfcambdmdgfaa
open Go.RowKit Go.Shelf Go.Maps
set_option linter.unusedVariables false
set_option linter.unusedSimpArgs false
set_option linter.unusedSectionVars false
attribute [local go_sem] Oper.semAt_some
instance : Inhabited KS := ⟨⟨⟨⟨#[]⟩, ⟨#[]⟩, ⟨#[]⟩⟩, by decide, by decide, by decide⟩⟩
end Go.Proofs.Ythhfcambdmdgfaa
namespace Go.Proofs.Ythhfcambdmdgfaa
open Go.RowKit Go.Maps
set_option linter.unusedVariables false
set_option linter.unusedSimpArgs false
set_option linter.unusedSectionVars false
def keyA : KeyD := ⟨⟨#[112, 111, 100]⟩, ⟨#[97]⟩, ⟨#[120]⟩⟩
def kA : KS := ⟨keyA, by decide, by decide, by decide⟩
def oA : ObjD := ⟨keyA, -7, ⟨#[104, 105, 103, 104]⟩, false, false, []⟩
theorem oA_right : rightO { oA with ver := 1 } = true := by kernel_rfl
theorem kA_ok : keyOk kA.1 = true := by kernel_rfl
theorem zero_wrong : rightO { zeroO with ver := 1 } = false := by kernel_rfl
theorem oA_S (U : World) : ObjS U (.slice none 0 0) oA := ⟨⟨sliS_nil U 2, by rintro p ⟨⟩⟩, (show in64 (-7) by unfold in64; omega)⟩
theorem oA_small : objSmall oA := ⟨kA.2, (show (ByteArray.mk #[104, 105, 103, 104]).size ≤ 1000 by decide), (show (0 : Nat) ≤ 300 by omega), by rintro p ⟨⟩⟩
section
variable {w w' : World} {base sp mb : Nat} {ver : Int} {M : AM KS OX} {lv : Value} {L : List LX}
/-- A box of an object outlives the store's writes. -/
theorem StoreAt.box {b : Nat} {cs : Array Value} (h : StoreAt w base sp mb ver M lv L) (hb : w.heap[b]? = some (.cells cs 27)) (hk : Kept (fun b => b = sp ∨ b = mb ∨ lv.ownBlock = some b) w w') : w'.heap[b]? = some (.cells cs 27) := by
  refine hk.heap hb ?_
  rintro (q | q | q)
  · subst q; rw [h.cell] at hb; cases hb
  · exact mv_other h.map hb q
  · exact rw_other h.row hb (by decide) q
def AOut (w : World) (base sp mb : Nat) (ver : Int) (M1 : Value → AM KS OX) (lv : Value) (L : List LX) (kd : Int) (o : ObjD) (e : Ending) (w' : World) : Prop :=
  ∃ lv' x y, e = .returned (.tuple #[.int .i64 (ver + 1), .int .i64 0]) ∧ Hid (StoreAt w' base sp mb (ver + 1) (M1 y) lv' (L ++ [(kd, ({ o with ver := ver + 1 }, x))])) ∧ Hid (Kept (fun b => b = sp ∨ b = mb ∨ lv.ownBlock = some b) w w')
theorem act9_ok {M1 : Value → AM KS OX} {kd : Int} {o : ObjD} {er : Int} {e : Ending} (h : Act9 w base sp mb ver M1 lv L kd o er e w') (he : er = 0) : AOut w base sp mb ver M1 lv L kd o e w' := by
  rcases h with ⟨h1, _⟩ | ⟨_, lv', x, y, h2, h3, h4⟩
  · exact absurd he h1
  · exact ⟨lv', x, y, h2, Lib.hid h3, Lib.hid h4⟩
theorem act9_no {M1 : Value → AM KS OX} {kd : Int} {o : ObjD} {er : Int} {e : Ending} (h : Act9 w base sp mb ver M1 lv L kd o er e w') (he : er ≠ 0) : e = .returned (.tuple #[.int .i64 0, .int .i64 er]) ∧ Below w.heap.size w w' := by
  rcases h with ⟨_, h2, h3⟩ | ⟨h1, _⟩
  · exact ⟨h2, h3⟩
  · exact absurd h1 he
theorem putA_calls (h : StoreAt w base sp mb ver M lv L) (hv : 0 ≤ ver ∧ ver ≤ 1000) (hM : M.length ≤ 100) (hL : L.length ≤ 100) :
    Calls Try.prog 39 #[.pointer (some ⟨sp, 0, none⟩), .agg #[.string ⟨#[112, 111, 100]⟩, .string ⟨#[97]⟩, .string ⟨#[120]⟩, .int .i64 (-7), .string ⟨#[104, 105, 103, 104]⟩, .bool false, .bool false, .slice none 0 0]] w (AOut w base sp mb ver (fun y => putA ltKS M kA ({ oA with ver := ver + 1 }, y)) lv L 0 oA) :=
  (sput_calls w h (o := oA) (k := kA) (sl := .slice none 0 0) rfl (fun U _ => oA_S U) oA_small ⟨hv.1, by omega⟩ (by omega) (by omega)).mono fun e w' q => act9_ok q (by
    unfold putErr
    rw [oA_right, if_pos rfl, if_pos (by simp; right; omega)])
theorem delA_calls (h : StoreAt w base sp mb ver M lv L) (hh : hasA M kA = true) (hv : 0 ≤ ver ∧ ver ≤ 1000) (hM : M.length ≤ 100) (hL : L.length ≤ 100) :
    Calls Try.prog 40 #[.pointer (some ⟨sp, 0, none⟩), .agg #[.string ⟨#[112, 111, 100]⟩, .string ⟨#[97]⟩, .string ⟨#[120]⟩]] w (AOut w base sp mb ver (fun _ => delA M kA) lv L 1 (goneO keyA)) :=
  (sdelete_calls w h kA ⟨hv.1, by omega⟩ (by omega) (by omega)).mono fun e w' q => act9_ok q (by unfold delErr; rw [kA_ok, if_pos rfl, hh, if_pos rfl])
theorem delNo_calls (h : StoreAt w base sp mb ver M lv L) (hh : hasA M kA = false) (hv : 0 ≤ ver ∧ ver ≤ 1000) (hM : M.length ≤ 100) (hL : L.length ≤ 100) :
    Calls Try.prog 40 #[.pointer (some ⟨sp, 0, none⟩), .agg #[.string ⟨#[112, 111, 100]⟩, .string ⟨#[97]⟩, .string ⟨#[120]⟩]] w fun e w' => e = .returned (.tuple #[.int .i64 0, .int .i64 4]) ∧ Below w.heap.size w w' :=
  (sdelete_calls w h kA ⟨hv.1, by omega⟩ (by omega) (by omega)).mono fun e w' q => by
    have e4 : delErr M kA = 4 := by unfold delErr; rw [kA_ok, if_pos rfl, hh]; rfl
    rw [e4] at q
    exact act9_no q (by decide)
theorem putNo_calls (h : StoreAt w base sp mb ver M lv L) (hv : 0 ≤ ver ∧ ver ≤ 1000) (hM : M.length ≤ 100) (hL : L.length ≤ 100) :
    Calls Try.prog 39 #[.pointer (some ⟨sp, 0, none⟩), .agg #[.string ⟨#[]⟩, .string ⟨#[]⟩, .string ⟨#[]⟩, .int .i64 0, .string ⟨#[]⟩, .bool false, .bool false, .slice none 0 0]] w fun e w' => e = .returned (.tuple #[.int .i64 0, .int .i64 1]) ∧ Below w.heap.size w w' :=
  (sput_calls w h (o := zeroO) (k := ⟨zeroO.key, zeroO_small.1⟩) (sl := .slice none 0 0) rfl (fun U _ => zeroO_S U) zeroO_small ⟨hv.1, by omega⟩ (by omega) (by omega)).mono fun e w' q => by
    have e1 : putErr M ⟨zeroO.key, zeroO_small.1⟩ zeroO = 1 := by unfold putErr; rw [zero_wrong]; rfl
    rw [e1] at q
    exact act9_no q (by decide)
end
end Go.Proofs.Ythhfcambdmdgfaa
namespace Go.Proofs.Ythhfcambdmdgfaa
open Go.RowKit Go.Maps
set_option linter.unusedVariables false
set_option linter.unusedSimpArgs false
theorem StoreAt.keptB {w w' : World} {base sp mb : Nat} {ver : Int} {M : AM KS OX} {lv : Value} {L : List LX} (h : StoreAt w base sp mb ver M lv L) (hk : Kept (fun b => b = sp ∨ b = mb ∨ lv.ownBlock = some b) w w') (hb : base ≤ w.heap.size) : Below base w w' :=
  hk.below hb (fun k q => by
    rcases q with q | q | q
    · rw [q]; exact h.ge.1
    · rw [q]; exact h.ge.2
    · exact (rw_type h.row q).1)
theorem put_n {M : AM KS OX} {k : KS} {v : OX} {n : Nat} (h : M.length ≤ n) : (putA ltKS M k v).length ≤ n + 1 := Nat.le_trans (put_le _ _ _ _) (by omega)
theorem del_n {M : AM KS OX} {k : KS} {n : Nat} (h : M.length ≤ n) : (delA M k).length ≤ n := Nat.le_trans (del_le _ _) h
theorem has_put (M : AM KS OX) (k : KS) (v : OX) : hasA (putA ltKS M k v) k = true := by rw [hasA_get, getA_put, if_pos rfl]; rfl
theorem has_del (M : AM KS OX) (k : KS) : hasA (delA M k) k = false := by rw [hasA_get, getA_del, if_pos rfl]; rfl
theorem delpp_nil (k : KS) (a b : OX) : delA (putA ltKS (putA ltKS ([] : AM KS OX) k a) k b) k = [] := by
  rw [List.eq_nil_iff_forall_not_mem]
  intro q hq
  obtain ⟨h1, h2⟩ := mem_del.1 hq
  rcases mem_put.1 h1 with rfl | ⟨h3, _⟩
  · exact h2 rfl
  · rcases mem_put.1 h3 with rfl | ⟨h4, _⟩
    · exact h2 rfl
    · cases h4
theorem log3 {w : World} {b : Nat} {v : Value} {ys : List LY} (h : LogF w b v ys) {a0 a1 a2 : Int × ObjD} (e : lyOf ys = [a0, a1, a2]) :
    ∃ g c, v = .slice (some ⟨g, 0, none⟩) 3 c ∧ w.cell? ⟨g, 15, none⟩ = some (.int .i64 a1.2.ver) ∧ w.cell? ⟨g, 16, none⟩ = some (.string a1.2.cls) ∧ w.cell? ⟨g, 22, none⟩ = some (.int .i64 a2.1) ∧ w.cell? ⟨g, 27, none⟩ = some (.string a2.2.cls) := by
  obtain ⟨e0, e1, e2, rfl⟩ : ∃ e0 e1 e2, ys = [e0, e1, e2] := by
    match ys, e with
    | [e0, e1, e2], _ => exact ⟨e0, e1, e2, rfl⟩
  have hr := h.row
  obtain ⟨g, c, rfl⟩ := rw_pos hr (by simp)
  have z := (rw_cells hr).2.2.1
  simp only [lyOf, List.map_cons, List.map_nil, List.cons.injEq] at e
  obtain ⟨_, h1, h2, _⟩ := e
  refine ⟨g, c, rfl, ?_, ?_, ?_, ?_⟩
  · rw [z 15 (by simp), ← h1]; rfl
  · rw [z 16 (by simp), ← h1]; rfl
  · rw [z 22 (by simp), ← h2]; rfl
  · rw [z 27 (by simp), ← h2]; rfl
set_option maxRecDepth 100000 in
set_option maxHeartbeats 8000000 in
theorem alive9_calls (w : World) : Calls Try.prog 27 #[] w fun e w' => e = .returned (.bool true) ∧ Below w.heap.size w w' := by
  go_enter Try.func27, Try.ntmps27
  go_upto_region 3 with (go_at_call 28; refine (snew_calls _).mono ?_; rintro e w1 ⟨sp, mb, rfl, hst, hb⟩; have H1 := Lib.hid hst; have HB1 := Lib.hid hb; clear hst hb)
  first | with_reducible refine name_wp ?_ | with_reducible refine name_calls ?_
  intro V2 hV
  have hbV : Below w1.heap.size w1 V2 := by rw [hV]; exact (Below.refl _ _).alloc (Nat.le_refl _) _
  have H2 := Lib.hid (H1.out.below hbV)
  have HB2 := Lib.hid (bl_next HB1.out hbV)
  have HX2 := Lib.hid (show V2.heap[w1.heap.size]? = some (.cells #[.string ⟨#[112, 111, 100]⟩, .string ⟨#[97]⟩, .string ⟨#[120]⟩, .int .i64 (-7), .string ⟨#[104, 105, 103, 104]⟩, .bool false, .bool false, .slice none 0 0] 27) by rw [hV]; exact blk_new w1 _)
  clear hV hbV
  have a0 := blk_cell HX2.out 0
  have a1 := blk_cell HX2.out 1
  have a2 := blk_cell HX2.out 2
  have a3 := blk_cell HX2.out 3
  have a4 := blk_cell HX2.out 4
  have a5 := blk_cell HX2.out 5
  have a6 := blk_cell HX2.out 6
  have a7 := blk_cell HX2.out 7
  go_upto_region 4 with (go_at_call 39; refine (putA_calls H2.out (by omega) (by simp) (by simp)).mono ?_; rintro e w3 ⟨lv3, x3, y3, rfl, hst, hkp⟩; have H3 := Lib.hid hst.out; have HX3 := Lib.hid (H2.out.box HX2.out hkp.out); have HB3 := Lib.hid (HB2.out.trans (StoreAt.keptB H2.out hkp.out HB2.out.size)); clear hst hkp)
  clear a0 a1 a2 a3 a4 a5 a6 a7
  have b0 := blk_cell HX3.out 0
  have b1 := blk_cell HX3.out 1
  have b2 := blk_cell HX3.out 2
  have b3 := blk_cell HX3.out 3
  have b4 := blk_cell HX3.out 4
  have b5 := blk_cell HX3.out 5
  have b6 := blk_cell HX3.out 6
  have b7 := blk_cell HX3.out 7
  go_upto_region 5 with (go_at_call 39; refine (putA_calls H3.out (by omega) (Nat.le_trans (put_n (Nat.le_refl 0)) (by omega)) (by simp)).mono ?_; rintro e w4 ⟨lv4, x4, y4, rfl, hst, hkp⟩; have H4 := Lib.hid hst.out; have HX4 := Lib.hid (H3.out.box HX3.out hkp.out); have HB4 := Lib.hid (HB3.out.trans (StoreAt.keptB H3.out hkp.out HB3.out.size)); clear hst hkp)
  clear b0 b1 b2 b3 b4 b5 b6 b7
  have c0 := blk_cell HX4.out 0
  have c1 := blk_cell HX4.out 1
  have c2 := blk_cell HX4.out 2
  have c3 := blk_cell HX4.out 3
  have c4 := blk_cell HX4.out 4
  have c5 := blk_cell HX4.out 5
  have c6 := blk_cell HX4.out 6
  have c7 := blk_cell HX4.out 7
  go_upto_region 6 with (go_at_call 40; refine (delA_calls H4.out (has_put _ _ _) (by omega) (Nat.le_trans (put_n (put_n (Nat.le_refl 0))) (by omega)) (by simp)).mono ?_; rintro e w5 ⟨lv5, x5, y5, rfl, hst, hkp⟩; have H5 := Lib.hid hst.out; have HX5 := Lib.hid (H4.out.box HX4.out hkp.out); have HB5 := Lib.hid (HB4.out.trans (StoreAt.keptB H4.out hkp.out HB4.out.size)); clear hst hkp)
  clear c0 c1 c2 c3 c4 c5 c6 c7
  have d0 := blk_cell HX5.out 0
  have d1 := blk_cell HX5.out 1
  have d2 := blk_cell HX5.out 2
  have d3 := blk_cell HX5.out 3
  have d4 := blk_cell HX5.out 4
  have d5 := blk_cell HX5.out 5
  have d6 := blk_cell HX5.out 6
  have d7 := blk_cell HX5.out 7
  go_upto_region 7 with (go_at_call 40; refine (delNo_calls H5.out (has_del _ _) (by omega) (Nat.le_trans (del_n (put_n (put_n (Nat.le_refl 0)))) (by omega)) (by simp)).mono ?_; rintro e w6 ⟨rfl, hb⟩; have H6 := Lib.hid (H5.out.below hb); have HB6 := Lib.hid (bl_next HB5.out hb); clear hb)
  clear d0 d1 d2 d3 d4 d5 d6 d7
  go_upto_region 8 with (go_at_call 39; refine (putNo_calls H6.out (by omega) (Nat.le_trans (del_n (put_n (put_n (Nat.le_refl 0)))) (by omega)) (by simp)).mono ?_; rintro e w7 ⟨rfl, hb⟩; have H7 := Lib.hid (H6.out.below hb); have HB7 := Lib.hid (bl_next HB6.out hb); clear hb)
  go_upto_region 9 with (go_at_call 38; refine (slog_calls _ H7.out (by intro e he; simp only [List.nil_append, List.mem_append, List.mem_singleton] at he; rcases he with (rfl | rfl) | rfl <;> first | exact oA_small | exact ⟨kA.2, (show (ByteArray.mk #[]).size ≤ 1000 by decide), (show (0 : Nat) ≤ 300 by omega), by rintro p ⟨⟩⟩) (by simp)).mono ?_; rintro e w8 ⟨v8, ys, rfl, hlog, hly, hb⟩; obtain ⟨g, cg, rfl, l1, l2, l3, l4⟩ := log3 hlog hly; have H8 := Lib.hid (H7.out.below hb); have HB8 := Lib.hid (bl_next HB7.out hb); clear hb hlog hly)
  have H9 := Lib.hid H8.out
  rw [delpp_nil] at H9
  go_upto_region 10 with (go_at_call 34; refine (ssnapshot_calls _ H9.out (by rintro q ⟨⟩) (by simp) (by simp) (by simp)).mono ?_; rintro e w9 ⟨v9, zs, rfl, hz, hzs, hb⟩; have l1 := cb hb l1; have l2 := cb hb l2; have l3 := cb hb l3; have l4 := cb hb l4; have H10 := Lib.hid (H9.out.below hb); have HB10 := Lib.hid (bl_next HB8.out hb); clear hb; obtain rfl : zs = [] := (by cases zs with | nil => rfl | cons p r => exact absurd hzs (by simp [oxs, srtX])); obtain ⟨A9, c9, rfl⟩ := hz.form; clear hz hzs; unfold evV)
  first | with_reducible refine name_wp ?_ | with_reducible refine name_calls ?_
  intro V hV
  have gV : V.heap[w9.heap.size]? = some (.cells #[.int .i64 2, .string ⟨#[]⟩, .string ⟨#[]⟩, .string ⟨#[]⟩, .int .i64 0, .string ⟨#[]⟩, .bool false, .bool false, .slice none 0 0, .int .i64 3, .slice A9 0 c9] 30) := by rw [hV]; exact blk_new w9 _
  have hbV : Below w9.heap.size w9 V := by rw [hV]; exact (Below.refl _ _).alloc (Nat.le_refl _) _
  clear hV
  have m1 : V.cell? ⟨g, 15, none⟩ = some (.int .i64 2) := cb hbV l1
  have m2 : V.cell? ⟨g, 16, none⟩ = some (.string ⟨#[104, 105, 103, 104]⟩) := cb hbV l2
  have m3 : V.cell? ⟨g, 22, none⟩ = some (.int .i64 1) := cb hbV l3
  have m4 : V.cell? ⟨g, 27, none⟩ = some (.string ⟨#[]⟩) := cb hbV l4
  have e0 := blk_cell gV 0
  have e9 := blk_cell gV 9
  have e10 := blk_cell gV 10
  have HV := Lib.hid (show StoreAt V w.heap.size sp mb 3 [] lv5 _ from H10.out.below hbV)
  have HBV := Lib.hid (bl_next HB10.out hbV)
  clear gV hbV l1 l2 l3 l4
  go_wp2_with (go_at_call 36; refine (sversion_calls _ HV.out).mono ?_; rintro e w10 ⟨rfl, hb⟩; have m1 := cb hb m1; have m2 := cb hb m2; have m3 := cb hb m3; have m4 := cb hb m4; have e0 := cb hb e0; have e9 := cb hb e9; have e10 := cb hb e10; have HBZ := Lib.hid (bl_next HBV.out hb); clear hb)
  go_ret
  exact ⟨rfl, HBZ.out⟩
end Go.Proofs.Ythhfcambdmdgfaa
namespace Go.Proofs.Ythhfcambdmdgfaa
theorem getElem_data (s : ByteArray) (i : Nat) (h : i < s.size) : s.data.toList[i]? = some s[i] := by
  rw [ByteArray.getElem_eq_getElem_data]; simp
theorem findAt_append (a r : ByteArray) (c : UInt8) (ha : ∀ x ∈ a.data.toList, x ≠ c) : findAt (a ++ ⟨#[c]⟩ ++ r) c 0 = a.size := by
  have hz : (a ++ ⟨#[c]⟩ ++ r).size = a.size + 1 + r.size := by simp [ByteArray.size_append]; rfl
  have hd : (a ++ ⟨#[c]⟩ ++ r).data.toList = a.data.toList ++ c :: r.data.toList := by simp
  refine findAt_unique _ c a.size (by omega) ?_ (fun j hj => ?_)
  · have := getElem_data (a ++ ⟨#[c]⟩ ++ r) a.size (by omega)
    rw [hd, List.getElem?_append_right (by simp)] at this
    simpa using this.symm
  · have := getElem_data (a ++ ⟨#[c]⟩ ++ r) j (by omega)
    rw [hd, List.getElem?_append_left (by simpa using hj)] at this
    exact ha _ (List.mem_of_getElem? this)
theorem ba_ext {a b : ByteArray} (h : a.data.toList = b.data.toList) : a = b := ByteArray.ext (Array.toList_inj.1 h)
theorem cutA_append (a r : ByteArray) (c : UInt8) (ha : ∀ x ∈ a.data.toList, x ≠ c) : cutA (a ++ ⟨#[c]⟩ ++ r) c = a := by
  rw [cutA, findAt_append a r c ha]
  refine ba_ext ?_
  simp [ByteArray.data_extract]
theorem cutB_append (a r : ByteArray) (c : UInt8) (ha : ∀ x ∈ a.data.toList, x ≠ c) : cutB (a ++ ⟨#[c]⟩ ++ r) c = r := by
  rw [cutB, findAt_append a r c ha]
  refine ba_ext ?_
  simp [ByteArray.data_extract, ByteArray.size_append, List.drop_append]
  rw [List.drop_of_length_le (by simp), show ({ data := #[c] } : ByteArray).size = 1 from rfl, show a.size + 1 + r.size - (a.size + 1) = r.size from by omega, List.take_of_length_le (l := r.data.toList) (by simp)]
  simp
theorem sign_ne {x : UInt8} (h : signB (x.toNat : Int) = true) : x ≠ 47 := by rintro rfl; simp [signB] at h
theorem right_ne {s : ByteArray} (h : rightB s = true) : ∀ x ∈ s.data.toList, x ≠ 47 := by
  intro x hx
  simp only [rightB, Bool.and_eq_true, lettersTo] at h
  rw [List.take_of_length_le (by simp)] at h
  exact sign_ne (List.all_eq_true.1 h.1.1.1.1 x hx)
theorem keyText_eq (k s n : ByteArray) : keyText k s n = s ++ ⟨#[47]⟩ ++ (k ++ ⟨#[47]⟩ ++ n) := by simp [keyText, ByteArray.append_assoc]
def pS (s : ByteArray) : ByteArray := cutA s 47
def pK (s : ByteArray) : ByteArray := cutA (cutB s 47) 47
def pN (s : ByteArray) : ByteArray := cutB (cutB s 47) 47
theorem parse_text {k s n : ByteArray} (h : keyB k s n = true) : pK (keyText k s n) = k ∧ pS (keyText k s n) = s ∧ pN (keyText k s n) = n := by
  simp only [keyB, Bool.and_eq_true] at h
  have h1 := right_ne h.1.1; have h2 := right_ne h.1.2
  refine ⟨?_, ?_, ?_⟩
  · rw [pK, keyText_eq, cutB_append _ _ _ h1, cutA_append _ _ _ h2]
  · rw [pS, keyText_eq, cutA_append _ _ _ h1]
  · rw [pN, keyText_eq, cutB_append _ _ _ h1, cutB_append _ _ _ h2]
theorem keyText_inj {k s n k' s' n' : ByteArray} (h : keyB k s n = true) (h' : keyB k' s' n' = true) (e : keyText k s n = keyText k' s' n') : k = k' ∧ s = s' ∧ n = n' := by
  obtain ⟨a1, a2, a3⟩ := parse_text h
  obtain ⟨b1, b2, b3⟩ := parse_text h'
  rw [e] at a1 a2 a3
  exact ⟨a1.symm.trans b1, a2.symm.trans b2, a3.symm.trans b3⟩
end Go.Proofs.Ythhfcambdmdgfaa
namespace Go.Proofs.Ythhfcambdmdgfaa
open Go.RowKit Go.Maps Srt
set_option linter.unusedVariables false
set_option linter.unusedSimpArgs false
def cntO (o : ObjD) (l : List ObjD) : Nat := (l.filter fun z => decide (z = o)).length
theorem cnt_stab {l s : List ObjD} (h : Stab kTO l s) (o : ObjD) : cntO o l = cntO o s := by
  unfold cntO
  have e : ∀ q : List ObjD, q.filter (fun z => decide (z = o)) = (q.filter (fun z => decide (kTO z = kTO o))).filter (fun z => decide (z = o)) := fun q => by
    rw [List.filter_filter]
    congr 1; funext z
    by_cases hz : z = o
    · subst hz; simp
    · simp [hz]
  rw [e l, e s, h (kTO o)]
theorem stab_perm {l s : List ObjD} (h : Stab kTO l s) : l.Perm s := by
  rw [List.perm_iff_count]
  intro o
  have := cnt_stab h o
  unfold cntO at this
  rw [List.count_eq_length_filter, List.count_eq_length_filter]
  have e : (fun z => z == o) = fun z : ObjD => decide (z = o) := by funext z; rw [Bool.eq_iff_iff]; simp
  rw [show (fun x => x == o) = fun z : ObjD => decide (z = o) from e]
  exact this
end Go.Proofs.Ythhfcambdmdgfaa
namespace Go.Proofs.Ythhfcambdmdgfaa
open Go.RowKit Go.Maps
set_option linter.unusedVariables false
set_option linter.unusedSimpArgs false
theorem kL_inj {a b : KS} (h : kL a = kL b) : a = b := by
  have h1 := kL_key a
  rw [h] at h1
  exact Subtype.ext (keyV_inj (kS_keyed.inj h1 (kL_key b)))
theorem strictKS : Strict ltKS :=
  ⟨fun a => Go.WideShapes.before_irrefl _, fun h k => Go.WideShapes.before_trans h k, fun {a b} h => Go.ChangeMaps.before_total (kS_law.str (kL_key a)) (kS_law.str (kL_key b)) (fun e => h (kL_inj e))⟩
/-- What holds of the store's map: n is the version. -/
def PInv (M : AM KS OX) (n : Int) : Prop := RiseA ltKS M ∧ ∀ q ∈ M, keyOk q.1.1 = true ∧ q.1.1 = q.2.1.key ∧ rightO q.2.1 = true ∧ q.2.1.ver ≤ n ∧ objSmall q.2.1
theorem rightO_ver {o : ObjD} (h : rightO { o with ver := 1 } = true) {v : Int} (hv : 1 ≤ v) : rightO { o with ver := v } = true := by
  unfold rightO at h ⊢
  simp only [Bool.and_eq_true, decide_eq_true_eq] at h ⊢
  exact ⟨⟨⟨⟨h.1.1.1.1, hv⟩, h.1.1.2⟩, h.1.2⟩, h.2⟩
theorem rightO_key {o : ObjD} (h : rightO o = true) : keyOk o.key = true := by
  unfold rightO at h
  simp only [Bool.and_eq_true] at h
  exact h.1.1.1.1
theorem PInv.nil : PInv [] 0 := ⟨List.Pairwise.nil, by rintro q ⟨⟩⟩
theorem PInv.put {M : AM KS OX} {n : Int} {k : KS} {o : ObjD} {y : Value} (h : PInv M n) (hr : rightO { o with ver := 1 } = true) (hk : k.1 = o.key) (hs : objSmall o) (hn : 0 ≤ n) : PInv (putA ltKS M k ({ o with ver := n + 1 }, y)) (n + 1) :=
  ⟨rise_put strictKS h.1 k _, fun q hq => by
    rcases mem_put.1 hq with rfl | ⟨r, _⟩
    · exact ⟨by rw [hk]; exact rightO_key (o := { o with ver := 1 }) hr, hk, rightO_ver hr (by omega), Int.le_refl _, hs⟩
    · obtain ⟨a, b, c, d, e⟩ := h.2 q r
      exact ⟨a, b, c, by omega, e⟩⟩
theorem PInv.del {M : AM KS OX} {n : Int} {k : KS} (h : PInv M n) : PInv (delA M k) (n + 1) :=
  ⟨rise_del strictKS h.1 k, fun q hq => by
    obtain ⟨a, b, c, d, e⟩ := h.2 q (mem_del.1 hq).1
    exact ⟨a, b, c, by omega, e⟩⟩
theorem PInv.keys {M : AM KS OX} {n : Int} (h : PInv M n) : (M.map (·.1)).Nodup := keys_nodup strictKS h.1
theorem nodup_on {α β : Type} {f : α → β} : ∀ {l : List α}, l.Nodup → (∀ a ∈ l, ∀ b ∈ l, f a = f b → a = b) → (l.map f).Nodup
  | [], _, _ => List.nodup_nil
  | x :: r, h, hf => by
    rw [List.nodup_cons] at h
    rw [List.map_cons, List.nodup_cons]
    refine ⟨fun q => ?_, nodup_on h.2 (fun a ha b hb => hf a (List.mem_cons_of_mem _ ha) b (List.mem_cons_of_mem _ hb))⟩
    obtain ⟨y, hy, e⟩ := List.mem_map.1 q
    have := hf y (List.mem_cons_of_mem _ hy) x (List.mem_cons_self ..) e
    exact h.1 (this ▸ hy)
theorem PInv.texts {M : AM KS OX} {n : Int} (h : PInv M n) : ((M.map (·.2.1)).map kTO).Nodup := by
  rw [List.map_map]
  refine nodup_on (nodup_fst h.keys) (fun a ha b hb e => fst_inj h.keys ha hb ?_)
  obtain ⟨a1, a2, _⟩ := h.2 a ha
  obtain ⟨b1, b2, _⟩ := h.2 b hb
  have e' : kT a.2.1.key = kT b.2.1.key := e
  rw [← a2, ← b2] at e'
  obtain ⟨e1, e2, e3⟩ := keyText_inj a1 b1 e'
  exact Subtype.ext (keyD_ext e1 e2 e3)
end Go.Proofs.Ythhfcambdmdgfaa
namespace Go.Proofs.Ythhfcambdmdgfaa
open Go.RowKit Go.Maps
set_option linter.unusedVariables false
set_option linter.unusedSimpArgs false
def gV (v : Int) : Value := .int .i64 v
section
variable {w w' : World} {base cp ob gb : Nat} {fl : Int} {M : AM KS OX} {G : AM KS Int}
end
end Go.Proofs.Ythhfcambdmdgfaa
namespace Go.Proofs.Ythhfcambdmdgfaa
open Go.RowKit Go.Maps
set_option linter.unusedVariables false
set_option linter.unusedSimpArgs false
def verG (G : AM KS Int) (k : KS) : Int := (getA G k).getD 0
section
variable {w w' : World} {base cp ob gb : Nat} {fl : Int} {M : AM KS OX} {G : AM KS Int}
end
end Go.Proofs.Ythhfcambdmdgfaa
namespace Go.Proofs.Ythhfcambdmdgfaa
open Go.RowKit Go.Shelf Go.Maps
set_option linter.unusedVariables false
set_option linter.unusedSimpArgs false
def dropG {β : Type} (G : AM KS β) (pd : KS → β → Bool) : AM KS β := G.filter fun q => !pd q.1 q.2
section
variable {β : Type} {G : AM KS β} {pd : KS → β → Bool} {left : Lit → Bool} {f : β → Value}
end
end Go.Proofs.Ythhfcambdmdgfaa
namespace Go.Proofs.Ythhfcambdmdgfaa
open Go.RowKit Go.Maps
set_option linter.unusedVariables false
set_option linter.unusedSimpArgs false
abbrev AO := AM KS ObjD
def mo (M : AM KS OX) : AO := M.map fun q => (q.1, q.2.1)
section
variable {M : AM KS OX} {k : KS}
theorem getA_mo (M : AM KS OX) (k : KS) : getA (mo M) k = (getA M k).map (·.1) := by
  induction M with
  | nil => rfl
  | cons p r ih =>
    show getA ((p.1, p.2.1) :: mo r) k = _
    rw [getA_cons, getA_cons, ih]
    by_cases h : p.1 = k <;> simp [h]
theorem hasA_mo (M : AM KS OX) (k : KS) : hasA (mo M) k = hasA M k := by rw [hasA_get, hasA_get, getA_mo]; cases getA M k <;> rfl
theorem mo_len (M : AM KS OX) : (mo M).length = M.length := by simp [mo]
theorem mo_del (M : AM KS OX) (k : KS) : mo (delA M k) = delA (mo M) k := by
  unfold mo delA
  rw [List.filter_map]; rfl
theorem mo_ins (M : AM KS OX) (k : KS) (v : OX) : mo (insA ltKS M k v) = insA ltKS (mo M) k v.1 := by
  induction M with
  | nil => rfl
  | cons p r ih =>
    show mo (if ltKS k p.1 then (k, v) :: p :: r else p :: insA ltKS r k v) = if ltKS k p.1 then (k, v.1) :: (p.1, p.2.1) :: mo r else (p.1, p.2.1) :: insA ltKS (mo r) k v.1
    by_cases h : ltKS k p.1 = true
    · rw [if_pos h, if_pos h]; rfl
    · rw [if_neg h, if_neg h, ← ih]; rfl
theorem mo_put (M : AM KS OX) (k : KS) (v : OX) : mo (putA ltKS M k v) = putA ltKS (mo M) k v.1 := by unfold putA; rw [mo_ins, mo_del]
theorem rise_drop {β : Type} {M : AM KS β} (h : RiseA ltKS M) (pd : KS → β → Bool) : RiseA ltKS (dropG M pd) := List.Pairwise.filter _ h
theorem drop_le {β : Type} (M : AM KS β) (pd : KS → β → Bool) : (dropG M pd).length ≤ M.length := List.length_filter_le _ _
end
def obA (m : AO) (k : KS) : ObjD := (getA m k).getD zeroO
theorem obA_mo (M : AM KS OX) (k : KS) : obA (mo M) k = objOf M k := by unfold obA objOf; rw [getA_mo]
def knownP (fl : Int) (m : AO) (G : AM KS Int) (k : KS) : Int := max (max fl (obA m k).ver) (verG G k)
instance keySmall_dec (k : KeyD) : Decidable (keySmall k) := by unfold keySmall; infer_instance
/-- An object's key, as one of a map's. -/
def kOf (o : ObjD) : KS := if h : keySmall o.key then ⟨o.key, h⟩ else default
theorem kOf_key {o : ObjD} (h : objSmall o) : (kOf o).1 = o.key := by unfold kOf; rw [dif_pos h.1]
noncomputable def stepR (fl : Int) (m : AO) (G : AM KS Int) (out : AO) (o : ObjD) : AO := if knownP fl m G (kOf o) < o.ver ∨ o.ver = (obA m (kOf o)).ver then putA ltKS out (kOf o) o else out
def inXs (xs : List ObjD) (k : KS) : Bool := xs.any fun x => decide (x.key = k.1)
noncomputable def relistP (fl : Int) (m : AO) (G : AM KS Int) (xs : List ObjD) (ev : Int) : AO := dropG (xs.foldl (stepR fl m G) m) fun k o => !inXs xs k && decide (o.ver ≤ ev)
section
variable {W W' : World} {base o1 lb : Nat} {M1 : AM KS OX} {B : AM KS Bool}
end
end Go.Proofs.Ythhfcambdmdgfaa
namespace Go.Proofs.Ythhfcambdmdgfaa
open Go.RowKit
section
variable {P : Program} {ops : Array Oper} {Q : Exit → Act → World → Prop} {S : World → Prop} {md : Region.Mode} {l n : Nat}
/-- Nothing but the region's end. -/
def onlyN (Q : Exit → Act → World → Prop) : Exit → Act → World → Prop := fun e a w => e = .normal ∧ Q e a w
theorem onlyN_panic (c) (a : Act) (t) (w : World) (h : onlyN Q (.panic c) { a with tmps := t } w) : onlyN Q (.panic c) a w := by cases h.1
end
end Go.Proofs.Ythhfcambdmdgfaa
namespace Go.Proofs.Ythhfcambdmdgfaa
open Go.RowKit
set_option linter.unusedVariables false
inductive Tr where
  | done
  | take (i : Nat) (t : Tr)
  | one (i : Nat) (t : Tr)
  | two (i : Nat) (t : Tr) (j : Nat) (u : Tr)
  | tri (i : Nat) (t : Tr) (j : Nat) (u : Tr) (k : Nat) (v : Tr)
section
variable {P : Program} {ops : Array Oper} {Q : Exit → Act → World → Prop} {S : World → Prop} {md : Region.Mode} {L : Nat}
def linT (md : Region.Mode) (ops : Array Oper) (L : Nat) : Nat → Array Bool → Tr → Bool
  | 0, listed, .done => Region.ready md ops listed == []
  | f + 1, listed, .take i t => Region.noSelect ops && Region.free md ops listed i && (Region.ready md ops listed).contains i && reachL md ops ops.size L i && !(listed.getD L true) && linT md ops L f (listed.setIfInBounds i true) t
  | f + 1, listed, .one i t => (Region.ready md ops listed == [i]) && linT md ops L f (listed.setIfInBounds i true) t
  | f + 1, listed, .two i t j u => (Region.ready md ops listed == [i, j]) && linT md ops L f (listed.setIfInBounds i true) t && linT md ops L f (listed.setIfInBounds j true) u
  | f + 1, listed, .tri i t j u k v => (Region.ready md ops listed == [i, j, k]) && linT md ops L f (listed.setIfInBounds i true) t && linT md ops L f (listed.setIfInBounds j true) u && linT md ops L f (listed.setIfInBounds k true) v
  | _, _, _ => false
def treeL (P : Program) (ops : Array Oper) (Q : Exit → Act → World → Prop) (S : World → Prop) (L : Nat) : Tr → Act → World → Prop
  | .done, a, w => Q .normal a w
  | .take i t, a, w => ∃ oi v, ops[i]? = some oi ∧ YieldsIf P ops S oi v a ∧ treeL P ops Q S L t (a.put oi.dst v) w
  | .one i t, a, w => wpOp P ops Q i (fun a' w' => (i = L ∨ S w') ∧ treeL P ops Q S L t a' w') a w
  | .two i t j u, a, w => wpOp P ops Q i (fun a' w' => (i = L ∨ S w') ∧ treeL P ops Q S L t a' w') a w ∧ wpOp P ops Q j (fun a' w' => (j = L ∨ S w') ∧ treeL P ops Q S L u a' w') a w
  | .tri i t j u k v, a, w => wpOp P ops Q i (fun a' w' => (i = L ∨ S w') ∧ treeL P ops Q S L t a' w') a w ∧ wpOp P ops Q j (fun a' w' => (j = L ∨ S w') ∧ treeL P ops Q S L u a' w') a w ∧ wpOp P ops Q k (fun a' w' => (k = L ∨ S w') ∧ treeL P ops Q S L v a' w') a w
theorem listed_L {listed : Array Bool} {j : Nat} {p : Prop} {S : Prop} (h : j = L ∨ S) : (listed.setIfInBounds j true).getD L true = false → S := fun hq => by
  rcases h with rfl | q
  · exfalso
    rcases Nat.lt_or_ge j listed.size with h9 | h9
    · simp [Array.getD, h9] at hq
    · simp [Array.getD, Nat.not_lt.2 h9] at hq
  · exact q
theorem treeL_any (hQ : ∀ c (a : Act) t w, Q (.panic c) { a with tmps := t } w → Q (.panic c) a w) : ∀ (f : Nat) (T : Tr) (listed : Array Bool) (a : Act) (w : World),
    linT md ops L f listed T = true → closedL md ops listed → (listed.getD L true = false → S w) → treeL P ops Q S L T a w → wpAnyL P md ops Q S L f listed a w
  | 0, .done, listed, a, w, hl, _, _, h => ⟨by simpa [linT] using hl, h⟩
  | f + 1, .done, listed, a, w, hl, _, _, h => by simp [linT] at hl
  | 0, .take _ _, _, _, _, hl, _, _, _ => by simp [linT] at hl
  | 0, .one _ _, _, _, _, hl, _, _, _ => by simp [linT] at hl
  | 0, .two _ _ _ _, _, _, _, hl, _, _, _ => by simp [linT] at hl
  | 0, .tri _ _ _ _ _ _, _, _, _, hl, _, _, _ => by simp [linT] at hl
  | f + 1, .take i t, listed, a, w, hl, hcl, hS, h => by
    simp only [linT, Bool.and_eq_true, Bool.not_eq_true'] at hl
    obtain ⟨oi, v, hi, hy, h⟩ := h
    obtain ⟨⟨⟨⟨⟨h1, h2⟩, h3⟩, h4⟩, h5⟩, h6⟩ := hl
    exact wpAnyL_first hi (Region.noSelect_spec h1) (put_panic hQ oi.dst v) h4 _ _ _ _ (Region.free_spec hi h2) (by simpa using h3) hy (hS h5) h5 hcl (treeL_any hQ f t _ _ _ h6 (closed_set hcl (by simpa using h3)) (fun _ => hS h5) h)
  | f + 1, .one i t, listed, a, w, hl, hcl, hS, h => by
    simp only [linT, Bool.and_eq_true, beq_iff_eq] at hl
    refine ⟨fun h0 => (by rw [hl.1] at h0; cases h0), fun j hj => ?_⟩
    have hjr : j ∈ Region.ready md ops listed := hj
    rw [hl.1] at hj
    obtain rfl : j = i := by simpa using hj
    have h' : wpOp P ops Q j (fun a' w' => (j = L ∨ S w') ∧ treeL P ops Q S L t a' w') a w := h
    refine wpOp_mono (K := fun a' w' => (j = L ∨ S w') ∧ treeL P ops Q S L t a' w') ?_ h'
    intro a' w' ⟨hS', h''⟩
    have hs := listed_L (listed := listed) (p := True) hS'
    exact ⟨hs, treeL_any hQ f t _ _ _ hl.2 (closed_set hcl hjr) hs h''⟩
  | f + 1, .two i t k u, listed, a, w, hl, hcl, hS, h => by
    simp only [linT, Bool.and_eq_true, beq_iff_eq] at hl
    refine ⟨fun h0 => (by rw [hl.1.1] at h0; cases h0), fun j hj => ?_⟩
    have hjr : j ∈ Region.ready md ops listed := hj
    rw [hl.1.1] at hj
    rcases List.mem_cons.1 hj with rfl | hj
    · refine wpOp_mono (K := fun a' w' => (j = L ∨ S w') ∧ treeL P ops Q S L t a' w') ?_ h.1
      intro a' w' ⟨hS', h''⟩
      have hs := listed_L (listed := listed) (p := True) hS'
      exact ⟨hs, treeL_any hQ f t _ _ _ hl.1.2 (closed_set hcl hjr) hs h''⟩
    · obtain rfl : j = k := by simpa using hj
      refine wpOp_mono (K := fun a' w' => (j = L ∨ S w') ∧ treeL P ops Q S L u a' w') ?_ h.2
      intro a' w' ⟨hS', h''⟩
      have hs := listed_L (listed := listed) (p := True) hS'
      exact ⟨hs, treeL_any hQ f u _ _ _ hl.2 (closed_set hcl hjr) hs h''⟩
  | f + 1, .tri i t k u m v, listed, a, w, hl, hcl, hS, h => by
    simp only [linT, Bool.and_eq_true, beq_iff_eq] at hl
    refine ⟨fun h0 => (by rw [hl.1.1.1] at h0; cases h0), fun j hj => ?_⟩
    have hjr : j ∈ Region.ready md ops listed := hj
    rw [hl.1.1.1] at hj
    rcases List.mem_cons.1 hj with rfl | hj
    · refine wpOp_mono (K := fun a' w' => (j = L ∨ S w') ∧ treeL P ops Q S L t a' w') ?_ h.1
      intro a' w' ⟨hS', h''⟩
      have hs := listed_L (listed := listed) (p := True) hS'
      exact ⟨hs, treeL_any hQ f t _ _ _ hl.1.1.2 (closed_set hcl hjr) hs h''⟩
    rcases List.mem_cons.1 hj with rfl | hj
    · refine wpOp_mono (K := fun a' w' => (j = L ∨ S w') ∧ treeL P ops Q S L u a' w') ?_ h.2.1
      intro a' w' ⟨hS', h''⟩
      have hs := listed_L (listed := listed) (p := True) hS'
      exact ⟨hs, treeL_any hQ f u _ _ _ hl.1.2 (closed_set hcl hjr) hs h''⟩
    · obtain rfl : j = m := by simpa using hj
      refine wpOp_mono (K := fun a' w' => (j = L ∨ S w') ∧ treeL P ops Q S L v a' w') ?_ h.2.2
      intro a' w' ⟨hS', h''⟩
      have hs := listed_L (listed := listed) (p := True) hS'
      exact ⟨hs, treeL_any hQ f v _ _ _ hl.2 (closed_set hcl hjr) hs h''⟩
theorem region_tree0 {id : Nat} {a : Act} {w : World} (S : World → Prop) (L : Nat) (T : Tr) (hm : P.follows .mixedOrders = true) (hl : linT .any ops L ops.size (Array.replicate ops.size false) T = true)
    (hQ : ∀ c (a : Act) t w, Q (.panic c) { a with tmps := t } w → Q (.panic c) a w) (hS : S w.drew) (h : treeL P ops Q S L T a w.drew) : (Code.region id ops true).wp P Q a w := by
  refine wp_region_any hm ?_
  exact wpAny_of_L _ _ _ _ (treeL_any hQ _ T _ _ _ hl (fun j o _ hj => by
    exfalso
    have e : (Array.replicate ops.size false).getD j false = false := by
      rw [Array.getD_eq_getD_getElem?, Array.getElem?_replicate]; split <;> rfl
    rw [e] at hj; cases hj) (fun _ => hS) h)
theorem region_tree {id : Nat} {a : Act} {w : World} (S : World → Prop) (L : Nat) (T : Tr) (hm : P.follows .mixedOrders = true) (hl : linT .any ops L ops.size (Array.replicate ops.size false) T = true)
    (hS : S w.drew) (h : treeL P ops (onlyN Q) S L T a w.drew) : (Code.region id ops true).wp P Q a w :=
  Code.wp_mono (fun _ _ _ h => h.2) (region_tree0 (Q := onlyN Q) S L T hm hl onlyN_panic hS h)
theorem tl_done {a : Act} {w : World} (h : Q .normal a w) : treeL P ops (onlyN Q) S L .done a w := ⟨rfl, h⟩
theorem tl_take {t : Tr} {i : Nat} {a a' : Act} {w : World} {oi : Oper} {v : Value} (N : Option Tmp) (hi : ops[i]? = some oi) (hN : oi.dst = N) (hw : Region.wanted oi (yielded ops a.tmps) = true)
    (hv : ∀ w', S w' → (execOp a.eval oi).run P w' = .ok (.value v) w') (ha : a.put N v = a') (h : treeL P ops Q S L t a' w) : treeL P ops Q S L (.take i t) a w :=
  ⟨oi, v, hi, .inl ⟨hw, hv⟩, by rw [hN, ha]; exact h⟩
/-- One step that may come up: what it leaves, S, and how it goes on. -/
def stepL (P : Program) (ops : Array Oper) (Q : Exit → Act → World → Prop) (S : World → Prop) (L i : Nat) (t : Tr) (a : Act) (w : World) : Prop :=
  wpOp P ops Q i (fun a' w' => (i = L ∨ S w') ∧ treeL P ops Q S L t a' w') a w
theorem tl_one {t : Tr} {i : Nat} {a : Act} {w : World} (h : stepL P ops Q S L i t a w) : treeL P ops Q S L (.one i t) a w := h
theorem tl_two {t u : Tr} {i j : Nat} {a : Act} {w : World} (h : stepL P ops Q S L i t a w) (k : stepL P ops Q S L j u a w) : treeL P ops Q S L (.two i t j u) a w := ⟨h, k⟩
/-- An operation that lays a block of its own. -/
theorem st_new {t : Tr} {i : Nat} {a : Act} {w : World} {oi : Oper} (N : Option Tmp) (hi : ops[i]? = some oi) (hN : oi.dst = N) (hw : Region.wanted oi (yielded ops a.tmps) = true)
    (h : ∃ v o, (execOp a.eval oi).run P w = .ok (.value v) (w.alloc o) ∧ ∃ a', a.put N v = a' ∧ ∀ u, u.heap[w.heap.size]? = some o → Below w.heap.size w u → w.heap.size < u.heap.size → S u ∧ treeL P ops Q S L t a' u) : stepL P ops Q S L i t a w := by
  obtain ⟨v, o, hrun, a', ha, h⟩ := h
  obtain ⟨hS, h⟩ := h (w.alloc o) (blk_new w o) ((Below.refl _ _).alloc (Nat.le_refl _) _) (by simp)
  show wpOp P ops Q i _ a w
  unfold wpOp
  rw [hi]
  simp only [hw, if_true]
  refine .inl ?_
  unfold Oper.wp
  rw [hrun, Oper.upon_value, hN, ha]
  exact ⟨.inr hS, h⟩
/-- An operation by a law of its own. -/
theorem st_law {t : Tr} {i : Nat} {a : Act} {w : World} {oi : Oper} (hi : ops[i]? = some oi) (hw : Region.wanted oi (yielded ops a.tmps) = true)
    (h : oi.wp P a w (fun a' w' => (i = L ∨ S w') ∧ treeL P ops Q S L t a' w') Q) : stepL P ops Q S L i t a w := by
  show wpOp P ops Q i _ a w
  unfold wpOp
  rw [hi]
  simp only [hw, if_true]
  exact .inl h
theorem st_res {t : Tr} {i : Nat} {a : Act} {w : World} {oi : Oper} (N : Option Tmp) (hi : ops[i]? = some oi) (hN : oi.dst = N) (hw : Region.wanted oi (yielded ops a.tmps) = true) {R : Value → World → Prop}
    (hl : ∀ K : Act → World → Prop, (∀ v w1, R v w1 → K (a.put oi.dst v) w1) → oi.wp P a w K Q) (h : ∀ v w1, R v w1 → S w1 ∧ treeL P ops Q S L t (a.put N v) w1) : stepL P ops Q S L i t a w :=
  st_law hi hw (hl _ fun v w1 hR => by rw [hN]; exact ⟨.inr (h v w1 hR).1, (h v w1 hR).2⟩)
/-- A store that comes last. -/
theorem st_last {t : Tr} {a : Act} {w : World} {oi : Oper} (N : Option Tmp) (hi : ops[L]? = some oi) (hN : oi.dst = N) (hw : Region.wanted oi (yielded ops a.tmps) = true)
    (h : ∃ w1, (execOp a.eval oi).run P w = .ok .skip w1 ∧ ∃ a', a.put N undef = a' ∧ treeL P ops Q S L t a' w1) : stepL P ops Q S L L t a w := by
  obtain ⟨w1, hrun, a', ha, h⟩ := h
  show wpOp P ops Q L _ a w
  unfold wpOp
  rw [hi]
  simp only [hw, if_true]
  refine .inl ?_
  unfold Oper.wp
  rw [hrun, Oper.upon_skip, hN, ha]
  exact ⟨by simp, h⟩
end
/-- An append of a whole row (nil, too). -/
theorem run_append_none {P : Program} (w : World) (base : Nat) (t ty e : TypeId) (i : TypeInfo) (sz : Nat) (ht : P.underlying t = some (.slice e)) (hi : P.info? e = some i)
    (v : Value) (n : Nat) (xs : List Value) (hown : w.ownsRow base e sz v n xs) : (Builtin.append_ #[t, t] ty #[v, .slice none 0 0]).run P w = .ok v w := by
  rcases hown.2 with ⟨rfl, rfl⟩ | ⟨g, cap, cur, rfl, _, _, hnc, _⟩
  · simp [Builtin.append_, run_underlying ht, sizeOf, typeInfo, hi, Builtin.lenOf, Builtin.firstCells]
  · simp [Builtin.append_, run_underlying ht, sizeOf, typeInfo, hi, Builtin.lenOf, Builtin.firstCells, hnc, storeCells]
theorem app_row_at {P : Program} {o : Oper} {a : Act} {K : Act → World → Prop} {Q : Exit → Act → World → Prop} {w : World} (s x : Operand) (t : TypeId)
    (ho : o.op = .call { callee := .builtin .append, args := #[s, x], argTypes := #[t, t] })
    (base : Nat) (e : TypeId) (i : TypeInfo) (z : Value) (sz bytes : Nat) (ht : P.underlying t = some (.slice e)) (hi : P.info? e = some i) (hz : i.zero = some z)
    (hsize : i.size = sz) (hby : i.bytes = bytes) (hzs : z.cells.size = sz) (hsz : 0 < sz)
    (v : Value) (n : Nat) (xs : List Value) (hs : a.eval s = v) (hown : w.ownsRow base e sz v n xs) (v2 : Value) (base2 m : Nat) (ys : List Value) (hx : a.eval x = v2) (hrow : w.ownsRow base2 e sz v2 m ys) (hu : ∀ u ∈ ys, u.oneCell' = true)
    (hbase : base ≤ w.heap.size) (hlen : n + m ≤ 100000000) (hby2 : bytes ≤ 1000000)
    (h : ∀ v' w1, w1.ownsRow base e sz v' (n + m) (xs ++ ys) → Kept (fun k => v.ownBlock = some k) w w1 → (v'.ownBlock = v.ownBlock ∨ v'.ownBlock = some w.heap.size) → K (a.put o.dst v') w1) : o.wp P a w K Q := by
  have key : ∃ v' w1, (Builtin.append_ #[t, t] o.type #[v, v2]).run P w = .ok v' w1 ∧ w1.ownsRow base e sz v' (n + m) (xs ++ ys) ∧ w.grownBy w1 v.ownBlock ∧ (v'.ownBlock = v.ownBlock ∨ v'.ownBlock = some w.heap.size) := by
    rcases hrow.2 with ⟨rfl, rfl⟩ | ⟨g, cap, cur, rfl, _, _, _⟩
    · have hn : ys = [] := List.eq_nil_of_length_eq_zero (by simpa using hrow.1)
      subst hn
      exact ⟨v, w, run_append_none w base t o.type e i sz ht hi v n xs hown, by simpa using hown, World.grownBy.refl w _, .inl rfl⟩
    · obtain ⟨v', w', hr, h2, h3, _, h5⟩ := run_append_own_at (P := P) w base t o.type e i z sz bytes ht hi hz hsize hby hzs hsz v n xs hown ⟨g, 0, none⟩ m cap ys hrow.1 (World.ownsRow.cells hrow (g := g) rfl) hu (by unfold maxLen; omega) (Nat.le_trans (Nat.mul_le_mul hlen hby2) (by decide)) hbase
      exact ⟨v', w', hr, h2, h3, h5⟩
  obtain ⟨v', w1, hr, h2, h3, h4⟩ := key
  unfold Oper.wp execOp
  simp only [ho, resolve, invoke, builtin, Sem.run_bind, Sem.run_pure, Result.andThen_ok, List.map_toArray, List.map_cons, List.map_nil, hs, hx, hr]
  exact h v' w1 h2 ((Kept.refl _ w).grown h3 (fun k hk => .inl hk)) h4
theorem app_row_R {P : Program} {o : Oper} {a : Act} {Q : Exit → Act → World → Prop} {w : World} (s x : Operand) (t : TypeId)
    (ho : o.op = .call { callee := .builtin .append, args := #[s, x], argTypes := #[t, t] })
    (base : Nat) (e : TypeId) (i : TypeInfo) (z : Value) (sz bytes : Nat) (ht : P.underlying t = some (.slice e)) (hi : P.info? e = some i) (hz : i.zero = some z)
    (hsize : i.size = sz) (hby : i.bytes = bytes) (hzs : z.cells.size = sz) (hsz : 0 < sz)
    (v : Value) (n : Nat) (xs : List Value) (hs : a.eval s = v) (hown : w.ownsRow base e sz v n xs) (v2 : Value) (base2 m : Nat) (ys : List Value) (hx : a.eval x = v2) (hrow : w.ownsRow base2 e sz v2 m ys) (hu : ∀ u ∈ ys, u.oneCell' = true)
    (hbase : base ≤ w.heap.size) (hlen : n + m ≤ 100000000) (hby2 : bytes ≤ 1000000) :
    ∀ K : Act → World → Prop, (∀ v' w1, (w1.ownsRow base e sz v' (n + m) (xs ++ ys) ∧ Kept (fun k => v.ownBlock = some k) w w1 ∧ (v'.ownBlock = v.ownBlock ∨ v'.ownBlock = some w.heap.size)) → K (a.put o.dst v') w1) → o.wp P a w K Q :=
  fun K h => app_row_at s x t ho base e i z sz bytes ht hi hz hsize hby hzs hsz v n xs hs hown v2 base2 m ys hx hrow hu hbase hlen hby2 fun v' w1 h1 h2 h3 => h v' w1 ⟨h1, h2, h3⟩
theorem app_rw_R {P : Program} {o : Oper} {a : Act} {Q : Exit → Act → World → Prop} {w : World} (s x : Operand) (t : TypeId)
    (ho : o.op = .call { callee := .builtin .append, args := #[s, x], argTypes := #[t, t] })
    (base : Nat) (e : TypeId) (i : TypeInfo) (z : Value) (sz bytes : Nat) (ht : P.underlying t = some (.slice e)) (hi : P.info? e = some i) (hz : i.zero = some z)
    (hsize : i.size = sz) (hby : i.bytes = bytes) (hzs : z.cells.size = sz) (hsz : 0 < sz) {tb : TypeId}
    (v : Value) (n : Nat) (xs us : List Value) (hs : a.eval s = v) (hown : w.ownsRow base e sz v n xs) (g0 c : Nat) (hx : a.eval x = .slice (some ⟨g0, 0, none⟩) 1 c) (hcells : w.heap[g0]? = some (.cells us.toArray tb)) (hul : us.length = sz) (hu : ∀ u ∈ us, u.oneCell' = true)
    (hbase : base ≤ w.heap.size) (hlen : n + 1 ≤ 100000000) (hby2 : bytes ≤ 1000000) :
    ∀ K : Act → World → Prop, (∀ v' w1, (∃ g cap, v' = .slice (some ⟨g, 0, none⟩) (n + 1) cap ∧ w1.ownsRow base e sz (.slice (some ⟨g, 0, none⟩) (n + 1) cap) (n + 1) (xs ++ us) ∧ Kept (fun k => v.ownBlock = some k) w w1 ∧ (v.ownBlock = some g ∨ w.heap.size ≤ g)) → K (a.put o.dst v') w1) → o.wp P a w K Q :=
  fun K h => app_rw_at s x t ho base e i z sz bytes ht hi hz hsize hby hzs hsz v n xs us hs hown g0 c hx hcells hul hu hbase hlen hby2 fun g cap w1 h1 h2 h3 => h _ w1 ⟨g, cap, rfl, h1, h2, h3⟩
theorem heap_ne {w : World} {a b : Nat} {T T2 : TypeId} {v : Value} {cs : Array Value} (ha : w.heap[a]? = some (.cells #[] T)) (hb : w.heap[b]? = some (.cells #[v] T2) ∨ ∃ u r, w.heap[b]? = some (.cells (#[v, u] ++ r) T2)) : a ≠ b := by
  rintro rfl
  rcases hb with h | ⟨u, r, h⟩
  · rw [ha] at h; cases h
  · rw [ha] at h
    injection h with h; injection h with h1 h2
    have := congrArg Array.size h1; simp at this; omega
end Go.Proofs.Ythhfcambdmdgfaa
namespace Go.Proofs.Ythhfcambdmdgfaa
open Go.RowKit Go.Maps
set_option linter.unusedVariables false
set_option linter.unusedSimpArgs false
section
variable {W U U' : World} {pb np o1 g1 : Nat} {fl : Int} {M M1 : AM KS OX} {G G1 : AM KS Int}
theorem kept_cell (U : World) (b j : Nat) (v : Value) : Kept (fun k => k = b) U (U.setCell ⟨b, j, none⟩ v) := (Kept.refl _ _).setCell _ _ (.inl rfl)
end
def nextF (e : EvD) (fl : Int) : Int := if e.kind = 0 ∨ e.kind = 1 then fl else e.ver
noncomputable def nextM (e : EvD) (fl : Int) (m : AO) (G : AM KS Int) : AO := if e.kind = 0 then putA ltKS m (kOf e.obj) e.obj else if e.kind = 1 then delA m (kOf e.obj) else if e.kind = 2 then relistP fl m G e.objs e.ver else m
noncomputable def nextG (e : EvD) (fl : Int) (G : AM KS Int) : AM KS Int := dropG (if e.kind = 0 then delA G (kOf e.obj) else if e.kind = 1 then putA ltKS G (kOf e.obj) e.obj.ver else G) fun _ v => decide (v ≤ nextF e fl)
end Go.Proofs.Ythhfcambdmdgfaa
namespace Go.Proofs.Ythhfcambdmdgfaa
open Go.RowKit Go.Maps Srt
set_option linter.unusedVariables false
set_option linter.unusedSimpArgs false
theorem kT_inj {a b : KS} (ha : keyOk a.1 = true) (hb : keyOk b.1 = true) (h : kT a.1 = kT b.1) : a = b := by
  obtain ⟨h1, h2, h3⟩ := keyText_inj ha hb h
  exact Subtype.ext (keyD_ext h1 h2 h3)
end Go.Proofs.Ythhfcambdmdgfaa
namespace Go.Proofs.Ythhfcambdmdgfaa
open Go.RowKit Go.Maps Srt
set_option linter.unusedVariables false
set_option linter.unusedSimpArgs false
theorem getA_drop {β : Type} {pd : KS → β → Bool} : ∀ {M : AM KS β}, (M.map (·.1)).Nodup → ∀ k, getA (dropG M pd) k = match getA M k with
    | some v => if pd k v then none else some v
    | none => none
  | [], _, k => rfl
  | p :: r, h, k => by
    have hn : p.1 ∉ r.map (·.1) ∧ (r.map (·.1)).Nodup := by simpa using h
    have ih := getA_drop (pd := pd) hn.2 k
    have hnone : p.1 = k → getA r k = none := fun e => by
      cases q : getA r k with
      | none => rfl
      | some v => exact absurd (List.mem_map.2 ⟨_, getA_mem q, e.symm⟩) hn.1
    rw [getA_cons]
    by_cases hk : p.1 = k
    · rw [if_pos hk]
      by_cases hp : pd p.1 p.2 = true
      · have e : dropG (p :: r) pd = dropG r pd := by unfold dropG; simp [hp]
        rw [e, ih, hnone hk]
        subst hk; simp [hp]
      · have e : dropG (p :: r) pd = p :: dropG r pd := by unfold dropG; simp [hp]
        rw [e, getA_cons, if_pos hk]
        subst hk; simp [hp]
    · rw [if_neg hk]
      by_cases hp : pd p.1 p.2 = true
      · have e : dropG (p :: r) pd = dropG r pd := by unfold dropG; simp [hp]
        rw [e, ih]
      · have e : dropG (p :: r) pd = p :: dropG r pd := by unfold dropG; simp [hp]
        rw [e, getA_cons, if_neg hk, ih]
theorem obA_put (m : AO) (k x : KS) (o : ObjD) : obA (putA ltKS m k o) x = if x = k then o else obA m x := by
  unfold obA; rw [getA_put]; by_cases h : x = k <;> simp [h]
theorem obA_del (m : AO) (k x : KS) : obA (delA m k) x = if x = k then zeroO else obA m x := by
  unfold obA; rw [getA_del]; by_cases h : x = k <;> simp [h]
theorem verG_put (G : AM KS Int) (k x : KS) (v : Int) : verG (putA ltKS G k v) x = if x = k then v else verG G x := by
  unfold verG; rw [getA_put]; by_cases h : x = k <;> simp [h]
theorem verG_del (G : AM KS Int) (k x : KS) : verG (delA G k) x = if x = k then 0 else verG G x := by
  unfold verG; rw [getA_del]; by_cases h : x = k <;> simp [h]
theorem zeroO_ver : zeroO.ver = 0 := rfl
def staleP (e : EvD) (fl : Int) (m : AO) (G : AM KS Int) : Bool := decide ((verE e).1 ≤ if e.kind = 0 ∨ e.kind = 1 then knownP fl m G (kOf e.obj) else fl)
theorem verE_ok {e : EvD} (h : rightE e = true) : (verE e).1 = if e.kind = 0 ∨ e.kind = 1 then e.obj.ver else e.ver := by unfold verE; rw [if_pos h]
theorem fl_le {e : EvD} {fl : Int} {m : AO} {G : AM KS Int} (hr : rightE e = true) (hs : staleP e fl m G = false) : fl ≤ nextF e fl := by
  unfold nextF
  by_cases h : e.kind = 0 ∨ e.kind = 1
  · rw [if_pos h]; omega
  · unfold staleP at hs
    rw [verE_ok hr, if_neg h, if_neg h] at hs
    rw [if_neg h]
    have := of_decide_eq_false hs
    omega
theorem fold_rise (fl : Int) (m : AO) (G : AM KS Int) : ∀ (l : List ObjD) (out : AO), RiseA ltKS out → RiseA ltKS (l.foldl (stepR fl m G) out)
  | [], out, h => h
  | o :: r, out, h => by
    refine fold_rise fl m G r _ ?_
    unfold stepR
    by_cases hc : knownP fl m G (kOf o) < o.ver ∨ o.ver = (obA m (kOf o)).ver
    · rw [if_pos hc]; exact rise_put strictKS h _ _
    · rw [if_neg hc]; exact h
theorem fold_all (fl : Int) (m : AO) (G : AM KS Int) (P : KS × ObjD → Prop) : ∀ (l : List ObjD) (out : AO), (∀ q ∈ out, P q) → (∀ o ∈ l, P (kOf o, o)) → ∀ q ∈ l.foldl (stepR fl m G) out, P q
  | [], out, h, _ => h
  | o :: r, out, h, hl => by
    refine fold_all fl m G P r _ ?_ (fun x hx => hl x (List.mem_cons_of_mem _ hx))
    unfold stepR
    by_cases hc : knownP fl m G (kOf o) < o.ver ∨ o.ver = (obA m (kOf o)).ver
    · rw [if_pos hc]
      intro q hq
      rcases mem_put.1 hq with rfl | ⟨q1, _⟩
      · exact hl o List.mem_cons_self
      · exact h q q1
    · rw [if_neg hc]; exact h
/-- What holds of the cache's maps. -/
structure CIn (m : AO) (G : AM KS Int) (fl : Int) : Prop where
  rise : RiseA ltKS m
  riseG : RiseA ltKS G
  objs : ∀ q ∈ m, keyOk q.1.1 = true ∧ q.1.1 = q.2.key ∧ rightO q.2 = true ∧ objSmall q.2
  graves : ∀ q ∈ G, keyOk q.1.1 = true ∧ fl < q.2
theorem CIn.nil : CIn [] [] 0 := ⟨List.Pairwise.nil, List.Pairwise.nil, by rintro q ⟨⟩, by rintro q ⟨⟩⟩
theorem mem_drop {β : Type} {M : AM KS β} {pd : KS → β → Bool} {q : KS × β} : q ∈ dropG M pd ↔ q ∈ M ∧ pd q.1 q.2 = false := by unfold dropG; simp
theorem rel_objs {v : Int} {l : List ObjD} (h : relB v l = true) : (∀ o ∈ l, rightO o = true ∧ o.ver ≤ v) ∧ 0 ≤ v := by
  unfold relB at h
  rw [Bool.and_eq_true, Bool.and_eq_true, okL_iff] at h
  refine ⟨fun o ho => ?_, of_decide_eq_true h.1.2⟩
  have := h.1.1.1 o ho
  unfold relP at this
  rw [Bool.and_eq_true] at this
  exact ⟨this.1, of_decide_eq_true this.2⟩
theorem CIn.next {m : AO} {G : AM KS Int} {fl : Int} (h : CIn m G fl) {e : EvD} (hr : rightE e = true) (hst : staleP e fl m G = false) (hs : objSmall e.obj) (hxs : OSmall e.objs) : CIn (nextM e fl m G) (nextG e fl G) (nextF e fl) := by
  have hfl := fl_le hr hst
  have hko : ∀ {o : ObjD}, rightO o = true → objSmall o → keyOk (kOf o).1 = true ∧ (kOf o).1 = o.key ∧ rightO o = true ∧ objSmall o := fun {o} a b => ⟨by rw [kOf_key b]; exact rightO_key a, kOf_key b, a, b⟩
  refine ⟨?_, ?_, ?_, ?_⟩
  · unfold nextM
    by_cases h0 : e.kind = 0
    · rw [if_pos h0]; exact rise_put strictKS h.rise _ _
    · rw [if_neg h0]
      by_cases h1 : e.kind = 1
      · rw [if_pos h1]; exact rise_del strictKS h.rise _
      · rw [if_neg h1]
        by_cases h2 : e.kind = 2
        · rw [if_pos h2]; exact rise_drop (fold_rise _ _ _ _ _ h.rise) _
        · rw [if_neg h2]; exact h.rise
  · unfold nextG
    refine rise_drop ?_ _
    by_cases h0 : e.kind = 0
    · rw [if_pos h0]; exact rise_del strictKS h.riseG _
    · rw [if_neg h0]
      by_cases h1 : e.kind = 1
      · rw [if_pos h1]; exact rise_put strictKS h.riseG _ _
      · rw [if_neg h1]; exact h.riseG
  · unfold nextM
    by_cases h0 : e.kind = 0
    · rw [if_pos h0]
      have r : rightO e.obj = true := by unfold rightE at hr; rwa [if_pos h0] at hr
      intro q hq
      rcases mem_put.1 hq with rfl | ⟨q1, _⟩
      · exact hko r hs
      · exact h.objs q q1
    · rw [if_neg h0]
      by_cases h1 : e.kind = 1
      · rw [if_pos h1]; exact fun q hq => h.objs q (mem_del.1 hq).1
      · rw [if_neg h1]
        by_cases h2 : e.kind = 2
        · rw [if_pos h2]
          have r : relB e.ver e.objs = true := by unfold rightE at hr; rwa [if_neg h0, if_neg h1, if_pos h2] at hr
          intro q hq
          exact fold_all fl m G (fun q => keyOk q.1.1 = true ∧ q.1.1 = q.2.key ∧ rightO q.2 = true ∧ objSmall q.2) e.objs m h.objs (fun o ho => hko ((rel_objs r).1 o ho).1 (hxs o ho)) q (mem_drop.1 hq).1
        · rw [if_neg h2]; exact h.objs
  · intro q hq
    unfold nextG at hq
    obtain ⟨h1, h2⟩ := mem_drop.1 hq
    have hlt := of_decide_eq_false h2
    refine ⟨?_, by omega⟩
    by_cases k0 : e.kind = 0
    · rw [if_pos k0] at h1; exact (h.graves q (mem_del.1 h1).1).1
    · rw [if_neg k0] at h1
      by_cases k1 : e.kind = 1
      · rw [if_pos k1] at h1
        have r : keyOk e.obj.key = true := by unfold rightE at hr; rw [if_neg k0, if_pos k1, Bool.and_eq_true] at hr; exact hr.1
        rcases mem_put.1 h1 with rfl | ⟨q1, _⟩
        · rw [kOf_key hs]; exact r
        · exact (h.graves q q1).1
      · rw [if_neg k1] at h1; exact (h.graves q h1).1
end Go.Proofs.Ythhfcambdmdgfaa
namespace Go.Proofs.Ythhfcambdmdgfaa
open Go.RowKit Go.Maps
set_option linter.unusedVariables false
set_option linter.unusedSimpArgs false
def kx8 : KS := ⟨⟨⟨#[112, 111, 100]⟩, ⟨#[97]⟩, ⟨#[120]⟩⟩, by decide, by decide, by decide⟩
def ky8 : KS := ⟨⟨⟨#[112, 111, 100]⟩, ⟨#[97]⟩, ⟨#[121]⟩⟩, by decide, by decide, by decide⟩
def p8 : ObjD := ⟨kx8.1, 5, ⟨#[]⟩, false, false, []⟩
def q8 : ObjD := ⟨ky8.1, 4, ⟨#[]⟩, false, false, []⟩
def d8 : ObjD := ⟨kx8.1, 6, ⟨#[]⟩, false, false, []⟩
theorem sameO_self (a : ObjD) : sameO a a = true := by rw [sameO_eq]; simp
end Go.Proofs.Ythhfcambdmdgfaa
namespace Go.Proofs.Ythhfcambdmdgfaa
open Go.RowKit Go.Maps
set_option linter.unusedVariables false
set_option linter.unusedSimpArgs false
structure EX where
  kd : Int
  ob : ObjD
  sl : Value
  vr : Int
  ol : Value
  xs : List OX
instance : Inhabited EX := ⟨⟨0, zeroO, .nilFunc, 0, .nilFunc, []⟩⟩
def EX.ev (p : EX) : EvD := ⟨p.kd, p.ob, p.vr, oxs p.xs⟩
structure EvS (w : World) (p : EX) : Prop where
  obj : ObjS w p.sl p.ob
  objs : ObjsS w p.ol p.xs
  kin : in64 p.kd
  vin : in64 p.vr
theorem EvS.below {w w' : World} {p : EX} (h : EvS w p) (hb : Below w.heap.size w w') : EvS w' p := ⟨h.obj.below hb, h.objs.below hb, h.kin, h.vin⟩
end Go.Proofs.Ythhfcambdmdgfaa
namespace Go.Proofs.Ythhfcambdmdgfaa
open Go.RowKit Go.Maps Srt
set_option linter.unusedVariables false
set_option linter.unusedSimpArgs false
/-- The objects of a cache, in their order. -/
noncomputable def sortM (m : AO) : List ObjD := srtX kTO (m.map (·.2))
theorem sortM_small {m : AO} {G : AM KS Int} {fl : Int} (h : CIn m G fl) : OSmall (sortM m) := fun o ho => by
  obtain ⟨q, hq, rfl⟩ := List.mem_map.1 (srtX_mem.1 ho)
  exact (h.objs q hq).2.2.2
theorem sortM_len (m : AO) : (sortM m).length = m.length := by unfold sortM; rw [srtX_len, List.length_map]
theorem objsE_below {w w' : World} {v : Value} {l : List ObjD} {n : Nat} (h : ∃ zs, ObjsS w v zs ∧ oxs zs = l ∧ zs.length = n) (hb : Below w.heap.size w w') : ∃ zs, ObjsS w' v zs ∧ oxs zs = l ∧ zs.length = n := by
  obtain ⟨zs, h1, h2⟩ := h
  exact ⟨zs, h1.below hb, h2⟩
end Go.Proofs.Ythhfcambdmdgfaa
