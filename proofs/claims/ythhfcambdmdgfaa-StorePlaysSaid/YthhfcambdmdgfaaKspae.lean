import Derived.Test.YthhfcambdmdgfaaKspad
import Derived.Test.YthhfcambdmdgfaaKspaa
import Derived.IntWalk
namespace Go.Proofs.Ythhfcambdmdgfaa
open Go.RowKit Go.Maps
set_option linter.unusedVariables false
set_option linter.unusedSimpArgs false
def OwnO (w : World) (o : ObjD) (e : Ending) (w' : World) : Prop := ∃ g, e = .returned (.agg #[.string o.key.kind, .string o.key.space, .string o.key.name, .int .i64 o.ver, .string o.cls, .bool o.term, .bool o.best, .slice (some ⟨g, 0, none⟩) o.charge.length o.charge.length]) ∧ Hid (ResF w' w.heap.size (.slice (some ⟨g, 0, none⟩) o.charge.length o.charge.length) o.charge) ∧ Below w.heap.size w w'
theorem ownO_calls (w : World) {sl : Value} {o : ObjD} (h : ObjS w sl o) (hs : objSmall o) : Calls Try.prog 56 #[objV o sl] w (OwnO w o) :=
  (own_calls w h (by have := hs.2.2.1; omega)).mono fun e w' ⟨x, he, hx, hb⟩ => by
    obtain ⟨g, rfl⟩ := hx.form
    exact ⟨g, he, Lib.hid hx, hb⟩
def OwnE (w : World) (kd : Int) (o : ObjD) (vr : Int) (xs : List OX) (e : Ending) (w' : World) : Prop := ∃ x ov ys, e = .returned (evV kd o x vr ov) ∧ ResF w' w.heap.size x o.charge ∧ ObjsF w' w.heap.size ov ys ∧ oxs ys = oxs xs ∧ Below w.heap.size w w'
set_option maxRecDepth 100000 in
set_option maxHeartbeats 16000000 in
theorem evown_calls (w : World) (kd : Int) {o : ObjD} {sl : Value} (vr : Int) {ol : Value} {xs : List OX} (ho : ObjS w sl o) (hs : objSmall o) (hx : ObjsS w ol xs) (hxs : OSmall (oxs xs)) (hl : xs.length ≤ 1000000) :
    Calls Try.prog 17 #[evV kd o sl vr ol] w (OwnE w kd o vr xs) := by
  have HO := Lib.hid ho; have HX := Lib.hid hx; have HSM := Lib.hid hxs; have HS := Lib.hid hs
  obtain ⟨ao, co, rfl⟩ := ho.1.form
  obtain ⟨al, cl, rfl⟩ := hx.form
  have HC := Lib.hid (fun (U : World) (h : Below w.heap.size w U) => ownO_calls U (HO.out.below h) HS.out)
  clear ho hx hxs hs
  unfold objV at HC
  unfold evV
  go_enter Try.func17, Try.ntmps17
  go_upto_region 1 with fail
  first | with_reducible refine name_wp ?_ | with_reducible refine name_calls ?_
  intro W hWeq
  have g0 : W.heap[w.heap.size]? = some (.cells #[.int .i64 kd, .string o.key.kind, .string o.key.space, .string o.key.name, .int .i64 o.ver, .string o.cls, .bool o.term, .bool o.best, .slice ao o.charge.length co, .int .i64 vr, .slice al xs.length cl] 30) := by rw [hWeq]; repeat (first | (with_reducible exact blk_newAt _ _ (by simp)) | with_reducible refine blk_drew ?_ | with_reducible refine blk_dN ?_ _ | with_reducible refine blk_old ?_ _)
  have g1 : W.heap[w.heap.size + 1]? = some (.cells #[.int .i64 0, .string ⟨#[]⟩, .string ⟨#[]⟩, .string ⟨#[]⟩, .int .i64 0, .string ⟨#[]⟩, .bool false, .bool false, .slice none 0 0, .int .i64 0, .slice none 0 0] 30) := by rw [hWeq]; repeat (first | (with_reducible exact blk_newAt _ _ (by simp)) | with_reducible refine blk_drew ?_ | with_reducible refine blk_dN ?_ _ | with_reducible refine blk_old ?_ _)
  have hw : Below w.heap.size w W := by rw [hWeq]; repeat (first | with_reducible exact Below.refl _ _ | with_reducible refine Below.drew ?_ | with_reducible refine bl_dN ?_ _ | with_reducible refine Below.alloc ?_ (by simp <;> omega) _)
  clear hWeq
  have hz : w.heap.size + 2 ≤ W.heap.size := by have := blk_lt g1; omega
  have c0_0 : W.cell? ⟨w.heap.size, 0, none⟩ = some (.int .i64 kd) := blk_cell g0 0
  have c0_1 : W.cell? ⟨w.heap.size, 1, none⟩ = some (.string o.key.kind) := blk_cell g0 1
  have c0_2 : W.cell? ⟨w.heap.size, 2, none⟩ = some (.string o.key.space) := blk_cell g0 2
  have c0_3 : W.cell? ⟨w.heap.size, 3, none⟩ = some (.string o.key.name) := blk_cell g0 3
  have c0_4 : W.cell? ⟨w.heap.size, 4, none⟩ = some (.int .i64 o.ver) := blk_cell g0 4
  have c0_5 : W.cell? ⟨w.heap.size, 5, none⟩ = some (.string o.cls) := blk_cell g0 5
  have c0_6 : W.cell? ⟨w.heap.size, 6, none⟩ = some (.bool o.term) := blk_cell g0 6
  have c0_7 : W.cell? ⟨w.heap.size, 7, none⟩ = some (.bool o.best) := blk_cell g0 7
  have c0_8 : W.cell? ⟨w.heap.size, 8, none⟩ = some (.slice ao o.charge.length co) := blk_cell g0 8
  have c0_9 : W.cell? ⟨w.heap.size, 9, none⟩ = some (.int .i64 vr) := blk_cell g0 9
  have c0_10 : W.cell? ⟨w.heap.size, 10, none⟩ = some (.slice al xs.length cl) := blk_cell g0 10
  have f0 : ∀ j, W.frozen? ⟨w.heap.size, j, none⟩ = false := blk_free g0
  have c1_0 : W.cell? ⟨w.heap.size + 1, 0, none⟩ = some (.int .i64 0) := blk_cell g1 0
  have c1_1 : W.cell? ⟨w.heap.size + 1, 1, none⟩ = some (.string ⟨#[]⟩) := blk_cell g1 1
  have c1_2 : W.cell? ⟨w.heap.size + 1, 2, none⟩ = some (.string ⟨#[]⟩) := blk_cell g1 2
  have c1_3 : W.cell? ⟨w.heap.size + 1, 3, none⟩ = some (.string ⟨#[]⟩) := blk_cell g1 3
  have c1_4 : W.cell? ⟨w.heap.size + 1, 4, none⟩ = some (.int .i64 0) := blk_cell g1 4
  have c1_5 : W.cell? ⟨w.heap.size + 1, 5, none⟩ = some (.string ⟨#[]⟩) := blk_cell g1 5
  have c1_6 : W.cell? ⟨w.heap.size + 1, 6, none⟩ = some (.bool false) := blk_cell g1 6
  have c1_7 : W.cell? ⟨w.heap.size + 1, 7, none⟩ = some (.bool false) := blk_cell g1 7
  have c1_8 : W.cell? ⟨w.heap.size + 1, 8, none⟩ = some (.slice none 0 0) := blk_cell g1 8
  have c1_9 : W.cell? ⟨w.heap.size + 1, 9, none⟩ = some (.int .i64 0) := blk_cell g1 9
  have c1_10 : W.cell? ⟨w.heap.size + 1, 10, none⟩ = some (.slice none 0 0) := blk_cell g1 10
  have f1 : ∀ j, W.frozen? ⟨w.heap.size + 1, j, none⟩ = false := blk_free g1
  have hB : Below W.heap.size W W := Below.refl _ _
  have G0 := Lib.hid g0; clear g0
  have F0 := Lib.hid f0; clear f0
  have G1 := Lib.hid g1; clear g1
  have F1 := Lib.hid f1; clear f1
  have Hw := Lib.hid hw; clear hw
  have HWX := Lib.hid (HX.out.below Hw.out)
  have G0' := G0; have G1' := G1
  go_upto_region 2 with (go_at_call 56; refine (HC.out _ Hw.out).mono ?_; rintro e w1 ⟨g, rfl, HF, hb⟩; have HB1 := Lib.hid hb; have k0_0 := cb hb c0_0; have kf0_0 := fb hb (lt_of_cell c0_0) (F0.out 0); have k0_1 := cb hb c0_1; have kf0_1 := fb hb (lt_of_cell c0_1) (F0.out 1); have k0_2 := cb hb c0_2; have kf0_2 := fb hb (lt_of_cell c0_2) (F0.out 2); have k0_3 := cb hb c0_3; have kf0_3 := fb hb (lt_of_cell c0_3) (F0.out 3); have k0_4 := cb hb c0_4; have kf0_4 := fb hb (lt_of_cell c0_4) (F0.out 4); have k0_5 := cb hb c0_5; have kf0_5 := fb hb (lt_of_cell c0_5) (F0.out 5); have k0_6 := cb hb c0_6; have kf0_6 := fb hb (lt_of_cell c0_6) (F0.out 6); have k0_7 := cb hb c0_7; have kf0_7 := fb hb (lt_of_cell c0_7) (F0.out 7); have k0_8 := cb hb c0_8; have kf0_8 := fb hb (lt_of_cell c0_8) (F0.out 8); have k0_9 := cb hb c0_9; have kf0_9 := fb hb (lt_of_cell c0_9) (F0.out 9); have k0_10 := cb hb c0_10; have kf0_10 := fb hb (lt_of_cell c0_10) (F0.out 10); have k1_0 := cb hb c1_0; have kf1_0 := fb hb (lt_of_cell c1_0) (F1.out 0); have k1_1 := cb hb c1_1; have kf1_1 := fb hb (lt_of_cell c1_1) (F1.out 1); have k1_2 := cb hb c1_2; have kf1_2 := fb hb (lt_of_cell c1_2) (F1.out 2); have k1_3 := cb hb c1_3; have kf1_3 := fb hb (lt_of_cell c1_3) (F1.out 3); have k1_4 := cb hb c1_4; have kf1_4 := fb hb (lt_of_cell c1_4) (F1.out 4); have k1_5 := cb hb c1_5; have kf1_5 := fb hb (lt_of_cell c1_5) (F1.out 5); have k1_6 := cb hb c1_6; have kf1_6 := fb hb (lt_of_cell c1_6) (F1.out 6); have k1_7 := cb hb c1_7; have kf1_7 := fb hb (lt_of_cell c1_7) (F1.out 7); have k1_8 := cb hb c1_8; have kf1_8 := fb hb (lt_of_cell c1_8) (F1.out 8); have k1_9 := cb hb c1_9; have kf1_9 := fb hb (lt_of_cell c1_9) (F1.out 9); have k1_10 := cb hb c1_10; have kf1_10 := fb hb (lt_of_cell c1_10) (F1.out 10); clear hB hb)
  first | with_reducible refine name_wp ?_ | with_reducible refine name_calls ?_
  intro U hU
  have hkU : Kept (fun k => k = w.heap.size) w1 U := by
    rw [hU]
    repeat (refine Kept.setCell ?_ _ _ (.inl rfl))
    exact Kept.refl _ _
  have u0_0 : U.cell? ⟨w.heap.size, 0, none⟩ = some (.int .i64 kd) := by rw [hU]; go_simp
  have u0_1 : U.cell? ⟨w.heap.size, 1, none⟩ = some (.string o.key.kind) := by rw [hU]; go_simp
  have u0_2 : U.cell? ⟨w.heap.size, 2, none⟩ = some (.string o.key.space) := by rw [hU]; go_simp
  have u0_3 : U.cell? ⟨w.heap.size, 3, none⟩ = some (.string o.key.name) := by rw [hU]; go_simp
  have u0_4 : U.cell? ⟨w.heap.size, 4, none⟩ = some (.int .i64 o.ver) := by rw [hU]; go_simp
  have u0_5 : U.cell? ⟨w.heap.size, 5, none⟩ = some (.string o.cls) := by rw [hU]; go_simp
  have u0_6 : U.cell? ⟨w.heap.size, 6, none⟩ = some (.bool o.term) := by rw [hU]; go_simp
  have u0_7 : U.cell? ⟨w.heap.size, 7, none⟩ = some (.bool o.best) := by rw [hU]; go_simp
  have u0_8 : U.cell? ⟨w.heap.size, 8, none⟩ = some (.slice (some ⟨g, 0, none⟩) o.charge.length o.charge.length) := by rw [hU]; go_simp
  have u0_9 : U.cell? ⟨w.heap.size, 9, none⟩ = some (.int .i64 vr) := by rw [hU]; go_simp
  have u0_10 : U.cell? ⟨w.heap.size, 10, none⟩ = some (.slice al xs.length cl) := by rw [hU]; go_simp
  have u1_0 : U.cell? ⟨w.heap.size + 1, 0, none⟩ = some (.int .i64 0) := by rw [hU]; go_simp
  have u1_1 : U.cell? ⟨w.heap.size + 1, 1, none⟩ = some (.string ⟨#[]⟩) := by rw [hU]; go_simp
  have u1_2 : U.cell? ⟨w.heap.size + 1, 2, none⟩ = some (.string ⟨#[]⟩) := by rw [hU]; go_simp
  have u1_3 : U.cell? ⟨w.heap.size + 1, 3, none⟩ = some (.string ⟨#[]⟩) := by rw [hU]; go_simp
  have u1_4 : U.cell? ⟨w.heap.size + 1, 4, none⟩ = some (.int .i64 0) := by rw [hU]; go_simp
  have u1_5 : U.cell? ⟨w.heap.size + 1, 5, none⟩ = some (.string ⟨#[]⟩) := by rw [hU]; go_simp
  have u1_6 : U.cell? ⟨w.heap.size + 1, 6, none⟩ = some (.bool false) := by rw [hU]; go_simp
  have u1_7 : U.cell? ⟨w.heap.size + 1, 7, none⟩ = some (.bool false) := by rw [hU]; go_simp
  have u1_8 : U.cell? ⟨w.heap.size + 1, 8, none⟩ = some (.slice none 0 0) := by rw [hU]; go_simp
  have u1_9 : U.cell? ⟨w.heap.size + 1, 9, none⟩ = some (.int .i64 0) := by rw [hU]; go_simp
  have u1_10 : U.cell? ⟨w.heap.size + 1, 10, none⟩ = some (.slice none 0 0) := by rw [hU]; go_simp
  have uf0_0 : U.frozen? ⟨w.heap.size, 0, none⟩ = false := by rw [hU]; go_simp
  have uf0_1 : U.frozen? ⟨w.heap.size, 1, none⟩ = false := by rw [hU]; go_simp
  have uf0_2 : U.frozen? ⟨w.heap.size, 2, none⟩ = false := by rw [hU]; go_simp
  have uf0_3 : U.frozen? ⟨w.heap.size, 3, none⟩ = false := by rw [hU]; go_simp
  have uf0_4 : U.frozen? ⟨w.heap.size, 4, none⟩ = false := by rw [hU]; go_simp
  have uf0_5 : U.frozen? ⟨w.heap.size, 5, none⟩ = false := by rw [hU]; go_simp
  have uf0_6 : U.frozen? ⟨w.heap.size, 6, none⟩ = false := by rw [hU]; go_simp
  have uf0_7 : U.frozen? ⟨w.heap.size, 7, none⟩ = false := by rw [hU]; go_simp
  have uf0_8 : U.frozen? ⟨w.heap.size, 8, none⟩ = false := by rw [hU]; go_simp
  have uf0_9 : U.frozen? ⟨w.heap.size, 9, none⟩ = false := by rw [hU]; go_simp
  have uf0_10 : U.frozen? ⟨w.heap.size, 10, none⟩ = false := by rw [hU]; go_simp
  have uf1_0 : U.frozen? ⟨w.heap.size + 1, 0, none⟩ = false := by rw [hU]; go_simp
  have uf1_1 : U.frozen? ⟨w.heap.size + 1, 1, none⟩ = false := by rw [hU]; go_simp
  have uf1_2 : U.frozen? ⟨w.heap.size + 1, 2, none⟩ = false := by rw [hU]; go_simp
  have uf1_3 : U.frozen? ⟨w.heap.size + 1, 3, none⟩ = false := by rw [hU]; go_simp
  have uf1_4 : U.frozen? ⟨w.heap.size + 1, 4, none⟩ = false := by rw [hU]; go_simp
  have uf1_5 : U.frozen? ⟨w.heap.size + 1, 5, none⟩ = false := by rw [hU]; go_simp
  have uf1_6 : U.frozen? ⟨w.heap.size + 1, 6, none⟩ = false := by rw [hU]; go_simp
  have uf1_7 : U.frozen? ⟨w.heap.size + 1, 7, none⟩ = false := by rw [hU]; go_simp
  have uf1_8 : U.frozen? ⟨w.heap.size + 1, 8, none⟩ = false := by rw [hU]; go_simp
  have uf1_9 : U.frozen? ⟨w.heap.size + 1, 9, none⟩ = false := by rw [hU]; go_simp
  have uf1_10 : U.frozen? ⟨w.heap.size + 1, 10, none⟩ = false := by rw [hU]; go_simp
  have HT0 : Hid (TyB U w.heap.size 30) := Lib.hid (by
    rw [hU]
    iterate 8 (refine TyB.set ?_ _ _ _)
    exact TyB.below (w := W) ⟨_, G0'.out⟩ HB1.out)
  have HT1 : Hid (TyB U (w.heap.size + 1) 30) := Lib.hid (by
    rw [hU]
    iterate 8 (refine TyB.set ?_ _ _ _)
    exact TyB.below (w := W) ⟨_, G1'.out⟩ HB1.out)
  clear hU k0_0 kf0_0 k0_1 kf0_1 k0_2 kf0_2 k0_3 kf0_3 k0_4 kf0_4 k0_5 kf0_5 k0_6 kf0_6 k0_7 kf0_7 k0_8 kf0_8 k0_9 kf0_9 k0_10 kf0_10 k1_0 kf1_0 k1_1 kf1_1 k1_2 kf1_2 k1_3 kf1_3 k1_4 kf1_4 k1_5 kf1_5 k1_6 kf1_6 k1_7 kf1_7 k1_8 kf1_8 k1_9 kf1_9 k1_10 kf1_10
  have hw1 : w.heap.size ≤ w1.heap.size := Nat.le_trans Hw.out.size HB1.out.size
  have hbU : Below w.heap.size w U := (bl_from Hw.out HB1.out).trans (hkU.below hw1 (fun k e => by rw [e]; exact Nat.le_refl _))
  have hWU : Below w.heap.size W U := (HB1.out.mono Hw.out.size).trans (hkU.below hw1 (fun k e => by rw [e]; exact Nat.le_refl _))
  have HFU := Lib.hid (HF.out.kept hkU (fun k e c hc => by rw [e, blk_below G0'.out HB1.out] at hc; cases hc))
  have HWs := Lib.hid (show w.heap.size ≤ W.heap.size from Hw.out.size)
  have HX2 := Lib.hid (HX.out.below hbU)
  have HBU := Lib.hid hbU
  have hz0 := lt_of_cell u0_0; have hz1 := lt_of_cell u1_0
  simp only at hz0 hz1
  clear hkU hw1 hbU hWU HF HB1
  have HNIL := Lib.hid (objsF_nil U U.heap.size)
  go_wp2_with fail
  go_loopw [3, 13] (fun s i wr => ∃ (k : Nat) (A : Option Addr) (c : Nat) (ys : List OX), i = .int .i64 k ∧ k ≤ xs.length ∧ s = .slice A k c ∧ Hid (ys.length = k ∧ ObjsF wr U.heap.size (.slice A k c) ys ∧ oxs ys = (oxs xs).take k) ∧ Hid (Below U.heap.size U wr)) (fun _ i _ => xs.length - (intOf i).toNat)
  case atStart => exact ⟨0, none, 0, [], rfl, Nat.zero_le _, rfl, Lib.hid ⟨rfl, HNIL.out, rfl⟩, Lib.hid (Below.refl _ _)⟩
  case round =>
    obtain ⟨k, av, cv, ys, rfl, hk, rfl, HY, HBr⟩ := hrel
    by_cases hkl : k < xs.length
    · have hkI : (k : Int) < xs.length := by omega
      obtain ⟨b, of, c, he, q, s⟩ := HX2.out.at' hkl
      cases he
      have z := small_at HSM.out hkl
      have HT := Lib.hid (oxs_take hkl)
      generalize xs[k]'hkl = x at q s z HT
      obtain ⟨x, sx⟩ := x
      simp only at s z HT
      obtain ⟨ax, cx, rfl⟩ := s.1.form
      obtain ⟨V, rfl⟩ : ∃ V : World, V = wr := ⟨_, rfl⟩
      have q := q.below HBr.out
      have d0 := q.c0; have d1 := q.c1; have d2 := q.c2; have d3 := q.c3; have d4 := q.c4; have d5 := q.c5; have d6 := q.c6; have d7 := q.c7
      simp only at d0 d1 d2 d3 d4 d5 d6 d7
      have HSX := Lib.hid (s.below HBr.out)
      clear q s
      go_upto_region 6 with fail
      first | with_reducible refine name_wp ?_ | with_reducible refine name_calls ?_
      intro V1 hU
      have hw9 : Below V.heap.size V V1 := by rw [hU]; exact (Below.refl V.heap.size V).alloc (Nat.le_refl _) _
      clear d0 d1 d2 d3 d4 d5 d6 d7
      have gA : V1.heap[V.heap.size]? = some (.cells #[.string x.key.kind, .string x.key.space, .string x.key.name, .int .i64 x.ver, .string x.cls, .bool x.term, .bool x.best, .slice ax x.charge.length cx] 27) := by rw [hU]; exact blk_new V _
      clear hU
      have a0 := blk_cell gA 0; have a1 := blk_cell gA 1; have a2 := blk_cell gA 2; have a3 := blk_cell gA 3; have a4 := blk_cell gA 4; have a5 := blk_cell gA 5; have a6 := blk_cell gA 6; have a7 := blk_cell gA 7
      clear gA
      have HC2 := Lib.hid (ownO_calls V1 (HSX.out.below hw9) z)
      unfold objV at HC2
      have HBV := Lib.hid (bl_next HBr.out hw9)
      have HY1 := Lib.hid (HY.out.2.1.below hw9)
      have HYE := Lib.hid (And.intro HY.out.1 HY.out.2.2)
      have hyl : ys.length ≤ 1000000 := by have := HY.out.1; omega
      clear hw9 z HY HSX
      go_wp2_with (first | (go_at_call 56; refine HC2.out.mono ?_; rintro e w2 ⟨gx, rfl, HF, hb⟩; have HY2 := Lib.hid (HY1.out.below hb); have HB2 := Lib.hid (bl_next HBV.out hb); clear hb) | (at_builtin; refine app_obj rfl (.tmp 17) (.tmp 20) rfl U.heap.size _ (.slice av k cv) ys (x, .slice (some ⟨gx, 0, none⟩) x.charge.length x.charge.length) _ _ _ rfl rfl HY2.out.1 1 rfl HB2.out.size (by omega) ?_; intro g3 cap w3 hown' hk'; have HN := Lib.hid (ObjsF.snoc (p := (x, .slice (some ⟨gx, 0, none⟩) x.charge.length x.charge.length)) HY2.out (HF.out.mono HBV.out.size) hown' hk'); have HB3 := Lib.hid (HB2.out.trans (row_below HY2.out.1 hk' HB2.out.size)); clear hown' hk'))
      go_roundw
      case rel => exact ⟨k + 1, _, cap, ys ++ [_], by simp, by omega, by rw [HYE.out.1], Lib.hid ⟨by simp [HYE.out.1], by rw [HYE.out.1] at HN; exact HN.out, by rw [HT.out, ← HYE.out.2]; simp [oxs]⟩, HB3⟩
      case measure => simp [intOf]; omega
    · obtain rfl : k = xs.length := by omega
      obtain ⟨V, rfl⟩ : ∃ V : World, V = wr := ⟨_, rfl⟩
      have k0_0 := cb HBr.out u0_0; have kf0_0 := fb HBr.out (lt_of_cell u0_0) uf0_0
      have k0_1 := cb HBr.out u0_1; have kf0_1 := fb HBr.out (lt_of_cell u0_1) uf0_1
      have k0_2 := cb HBr.out u0_2; have kf0_2 := fb HBr.out (lt_of_cell u0_2) uf0_2
      have k0_3 := cb HBr.out u0_3; have kf0_3 := fb HBr.out (lt_of_cell u0_3) uf0_3
      have k0_4 := cb HBr.out u0_4; have kf0_4 := fb HBr.out (lt_of_cell u0_4) uf0_4
      have k0_5 := cb HBr.out u0_5; have kf0_5 := fb HBr.out (lt_of_cell u0_5) uf0_5
      have k0_6 := cb HBr.out u0_6; have kf0_6 := fb HBr.out (lt_of_cell u0_6) uf0_6
      have k0_7 := cb HBr.out u0_7; have kf0_7 := fb HBr.out (lt_of_cell u0_7) uf0_7
      have k0_8 := cb HBr.out u0_8; have kf0_8 := fb HBr.out (lt_of_cell u0_8) uf0_8
      have k0_9 := cb HBr.out u0_9; have kf0_9 := fb HBr.out (lt_of_cell u0_9) uf0_9
      have k0_10 := cb HBr.out u0_10; have kf0_10 := fb HBr.out (lt_of_cell u0_10) uf0_10
      have k1_0 := cb HBr.out u1_0; have kf1_0 := fb HBr.out (lt_of_cell u1_0) uf1_0
      have k1_1 := cb HBr.out u1_1; have kf1_1 := fb HBr.out (lt_of_cell u1_1) uf1_1
      have k1_2 := cb HBr.out u1_2; have kf1_2 := fb HBr.out (lt_of_cell u1_2) uf1_2
      have k1_3 := cb HBr.out u1_3; have kf1_3 := fb HBr.out (lt_of_cell u1_3) uf1_3
      have k1_4 := cb HBr.out u1_4; have kf1_4 := fb HBr.out (lt_of_cell u1_4) uf1_4
      have k1_5 := cb HBr.out u1_5; have kf1_5 := fb HBr.out (lt_of_cell u1_5) uf1_5
      have k1_6 := cb HBr.out u1_6; have kf1_6 := fb HBr.out (lt_of_cell u1_6) uf1_6
      have k1_7 := cb HBr.out u1_7; have kf1_7 := fb HBr.out (lt_of_cell u1_7) uf1_7
      have k1_8 := cb HBr.out u1_8; have kf1_8 := fb HBr.out (lt_of_cell u1_8) uf1_8
      have k1_9 := cb HBr.out u1_9; have kf1_9 := fb HBr.out (lt_of_cell u1_9) uf1_9
      have k1_10 := cb HBr.out u1_10; have kf1_10 := fb HBr.out (lt_of_cell u1_10) uf1_10
      have HALL := Lib.hid (show oxs ys = oxs xs by rw [HY.out.2.2, ← oxs_len xs, List.take_length])
      have HFV := Lib.hid (HFU.out.below HBr.out)
      have hVw := Nat.le_trans HBU.out.size HBr.out.size
      go_wp2_with fail
      refine name_body ?_
      intro Z hZ
      have hkZ : Kept (fun k => k = w.heap.size ∨ k = w.heap.size + 1) V Z := by
        rw [hZ]
        repeat (refine Kept.setCell ?_ _ _ (.inl (by first | exact .inl rfl | exact .inr rfl)))
        exact Kept.refl _ _
      have r0 : Z.cell? ⟨w.heap.size + 1, 0, none⟩ = some (.int .i64 kd) := by rw [hZ]; go_simp
      have r1 : Z.cell? ⟨w.heap.size + 1, 1, none⟩ = some (.string o.key.kind) := by rw [hZ]; go_simp
      have r2 : Z.cell? ⟨w.heap.size + 1, 2, none⟩ = some (.string o.key.space) := by rw [hZ]; go_simp
      have r3 : Z.cell? ⟨w.heap.size + 1, 3, none⟩ = some (.string o.key.name) := by rw [hZ]; go_simp
      have r4 : Z.cell? ⟨w.heap.size + 1, 4, none⟩ = some (.int .i64 o.ver) := by rw [hZ]; go_simp
      have r5 : Z.cell? ⟨w.heap.size + 1, 5, none⟩ = some (.string o.cls) := by rw [hZ]; go_simp
      have r6 : Z.cell? ⟨w.heap.size + 1, 6, none⟩ = some (.bool o.term) := by rw [hZ]; go_simp
      have r7 : Z.cell? ⟨w.heap.size + 1, 7, none⟩ = some (.bool o.best) := by rw [hZ]; go_simp
      have r8 : Z.cell? ⟨w.heap.size + 1, 8, none⟩ = some (.slice (some ⟨g, 0, none⟩) o.charge.length o.charge.length) := by rw [hZ]; go_simp
      have r9 : Z.cell? ⟨w.heap.size + 1, 9, none⟩ = some (.int .i64 vr) := by rw [hZ]; go_simp
      have r10 : Z.cell? ⟨w.heap.size + 1, 10, none⟩ = some (.slice av xs.length cv) := by rw [hZ]; go_simp
      clear hZ
      refine bodyPost_ret (v := .agg #[.int .i64 kd, .string o.key.kind, .string o.key.space, .string o.key.name, .int .i64 o.ver, .string o.cls, .bool o.term, .bool o.best, .slice (some ⟨g, 0, none⟩) o.charge.length o.charge.length, .int .i64 vr, .slice av xs.length cv])
        (by simp [results, Try.results17, go_sem, r0, r1, r2, r3, r4, r5, r6, r7, r8, r9, r10]) rfl ⟨.slice (some ⟨g, 0, none⟩) o.charge.length o.charge.length, .slice av xs.length cv, ys, rfl, ?_, ?_, HALL.out, ?_⟩
      · exact (HFV.out.mono HWs.out).kept hkZ (fun k q c hc => by
          rcases q with rfl | rfl
          · exact (HT0.out.below HBr.out).ne hc (by decide)
          · exact (HT1.out.below HBr.out).ne hc (by decide))
      · have h9 := HY.out.2.1
        refine ObjsF.mono (b := U.heap.size) (h9.kept hkZ (fun k q r => ?_) (fun k q c hc => ?_)) HBU.out.size
        · have := (rw_type h9.1 q).1
          rcases r with rfl | rfl <;> omega
        · rcases q with rfl | rfl
          · exact (HT0.out.below HBr.out).ne hc (by decide)
          · exact (HT1.out.below HBr.out).ne hc (by decide)
      · exact (HBU.out.trans (HBr.out.mono HBU.out.size)).trans (hkZ.below hVw (fun k q => by rcases q with rfl | rfl <;> omega))
end Go.Proofs.Ythhfcambdmdgfaa
namespace Go.Proofs.Ythhfcambdmdgfaa
open Go.RowKit
section
variable {P : Program} {ops : Array Oper} {Q : Exit → Act → World → Prop} {S : World → Prop}
/-- A call of a function that a slot holds. -/
theorem seq_callV {fl : List (Nat × Bool)} {i : Nat} {a : Act} {w : World} {oi : Oper} {f : FuncId} {fn : Func} {c : Operand} {ags : Array Operand} {ts : Array TypeId} (hf : P.funcs[f]? = some fn) (hname : (fn.name == "runtime.NumGoroutine") = false) (hb : fn.body.isSome = true)
    (N : Option Tmp) (args : Array Value) (hi : ops[i]? = some oi) (hN : oi.dst = N) (hw : Region.wanted oi (yielded ops a.tmps) = true) (hop : oi.op = .call { callee := .value c, args := ags, argTypes := ts }) (hc : a.eval c = .func (.func f) #[] #[]) (hargs : ags.map a.eval = args)
    (h : Calls P f args w fun e w' => ∃ v, e = .returned v ∧ S w' ∧ seqH P ops Q S fl (a.put N v) w') : seqH P ops Q S ((i, false) :: fl) a w := by
  show wpOp P ops Q i _ a w
  unfold wpOp
  rw [hi]
  simp only [hw, if_true]
  refine .inl ?_
  have h1 : fn.name ≠ "runtime.NumGoroutine" := by simpa using hname
  obtain ⟨cd, hcd⟩ := Option.isSome_iff_exists.1 hb
  have he : (callFunc f args).run P w = .ok (.enter f args) w := by simp [callFunc, hf, h1, hcd]
  have hrun : (execOp a.eval oi).run P w = .ok (.enter f args) w := by
    unfold execOp
    simp [hop, resolve, Deferred.ofValue, invoke, hc, hargs, he]
  unfold Oper.wp
  rw [hrun, Oper.upon_enter]
  refine h.mono fun e w'' hh => ?_
  obtain ⟨v, rfl, hk⟩ := hh
  subst hN
  exact hk
end
end Go.Proofs.Ythhfcambdmdgfaa
namespace Go.Proofs.Ythhfcambdmdgfaa
open Go.RowKit Go.Maps Srt
set_option linter.unusedVariables false
set_option linter.unusedSimpArgs false
theorem name_exit {K : Exit → Act → World → Prop} {x : Exit} {a : Act} {W : World} (h : ∀ U, U = W → K x a U) : K x a W := h W rfl
theorem rowF_at {α : Type} (d : Nat → α) (n : Nat) {i : Nat} (h : i < (rowF d n).length) : (rowF d n)[i]'h = d i := by
  have := rowF_get d n (i := i) (by rw [rowF_len] at h; exact h)
  rw [List.getElem?_eq_getElem h] at this; exact Option.some.inj this
def updF {α : Type} (d : Nat → α) (x : Nat) (p : α) : Nat → α := fun i => if i = x then p else d i
theorem rowF_upd {α : Type} (d : Nat → α) (n x : Nat) (p : α) : rowF (updF d x p) n = (rowF d n).set x p := by
  apply List.ext_getElem?
  intro i
  by_cases hi : i < n
  · rw [rowF_get _ _ hi, List.getElem?_set]
    unfold updF
    by_cases e : x = i
    · subst e; rw [if_pos rfl, if_pos rfl, if_pos (by rw [rowF_len]; exact hi)]
    · rw [if_neg (fun q => e q.symm), if_neg e, rowF_get _ _ hi]
  · rw [List.getElem?_eq_none (by rw [rowF_len]; omega), List.getElem?_eq_none (by rw [List.length_set, rowF_len]; omega)]
theorem swF_upd {α : Type} (d : Nat → α) (x y : Nat) : updF (updF d x (d y)) y (d x) = swF d x y := by
  funext i
  unfold updF swF
  by_cases h1 : i = y
  · subst h1
    rw [if_pos rfl]
    by_cases h2 : i = x
    · subst h2; rw [if_pos rfl]
    · rw [if_neg h2, if_pos rfl]
  · rw [if_neg h1]
    by_cases h2 : i = x
    · rw [if_pos h2, if_pos h2]
    · rw [if_neg h2, if_neg h2, if_neg h1]
/-- Eight cells of one, in a list of cells. -/
def set8 (cs : List Value) (o : Nat) (p : OX) : List Value := (((((((cs.set o (.string p.1.key.kind)).set (o + 1) (.string p.1.key.space)).set (o + 2) (.string p.1.key.name)).set (o + 3) (.int .i64 p.1.ver)).set (o + 4) (.string p.1.cls)).set (o + 5) (.bool p.1.term)).set (o + 6) (.bool p.1.best)).set (o + 7) p.2
theorem set8_obj (p : OX) : ∀ (l : List OX) (x : Nat), x < l.length → set8 (objC l) (x * 8) p = objC (l.set x p)
  | q :: r, 0, _ => rfl
  | q :: r, x + 1, h => by
    have ih := set8_obj p r x (by simpa using h)
    have hl : (objX q).length = 8 := rfl
    have e : ∀ (B : List Value) (j : Nat) (v : Value), (objX q ++ B).set ((x + 1) * 8 + j) v = objX q ++ B.set (x * 8 + j) v := fun B j v => by
      rw [List.set_append_right _ _ (by rw [hl]; omega), hl]; congr 2; omega
    have e0 : ∀ (B : List Value) (v : Value), (objX q ++ B).set ((x + 1) * 8) v = objX q ++ B.set (x * 8) v := fun B v => e B 0 v
    show set8 (objX q ++ objC r) ((x + 1) * 8) p = objX q ++ objC (r.set x p)
    unfold set8 at ih ⊢
    rw [e0, e, e, e, e, e, e, e, ih]
def setC8 (W : World) (g o : Nat) (p : OX) : World := (((((((W.setCell ⟨g, o, none⟩ (.string p.1.key.kind)).setCell ⟨g, o + 1, none⟩ (.string p.1.key.space)).setCell ⟨g, o + 2, none⟩ (.string p.1.key.name)).setCell ⟨g, o + 3, none⟩ (.int .i64 p.1.ver)).setCell ⟨g, o + 4, none⟩ (.string p.1.cls)).setCell ⟨g, o + 5, none⟩ (.bool p.1.term)).setCell ⟨g, o + 6, none⟩ (.bool p.1.best)).setCell ⟨g, o + 7, none⟩ p.2
def OP (p : OX) : Prop := objSmall p.1 ∧ ∃ A k c, p.2 = .slice A k c
def AllP (n : Nat) (d : Nat → OX) : Prop := ∀ i, i < n → OP (d i)
/-- The world while the row is sorted: it holds d; all else is as it was. -/
structure SW (w0 : World) (b g n cap : Nat) (d : Nat → OX) (W : World) : Prop where
  row : W.ownsRow b 27 8 (.slice (some ⟨g, 0, none⟩) n cap) n (objC (rowF d n))
  kept : Kept (fun k => k = g) w0 W
section
variable {w0 W W' : World} {b g n cap : Nat} {d : Nat → OX}
theorem SW.read (h : SW w0 b g n cap d W) (hb : Below W.heap.size W W') : SW w0 b g n cap d W' :=
  ⟨rw_below h.row hb, h.kept.trans (kept_of_below (X := fun _ => False) hb) (fun _ q => q.elim)⟩
theorem SW.at (h : SW w0 b g n cap d W) {i : Nat} (hi : i < n) : ObjAt W g (i * 8) (d i) := by
  have hc := (rw_cells h.row).2.2.1
  have g8 : ∀ j, j < 8 → ∀ u, (objX (d i))[j]? = some u → W.cell? ⟨g, i * 8 + j, none⟩ = some u := fun j hj u hu => by
    have hi' : i < (rowF d n).length := by rw [rowF_len]; exact hi
    have e := objC_get (rowF d n) i hi' j hj
    rw [rowF_at, hu] at e
    have := hc (i * 8 + j) (by omega)
    rw [List.getD_eq_getElem?_getD, e] at this
    exact this
  exact ⟨g8 0 (by omega) _ rfl, g8 1 (by omega) _ rfl, g8 2 (by omega) _ rfl, g8 3 (by omega) _ rfl, g8 4 (by omega) _ rfl, g8 5 (by omega) _ rfl, g8 6 (by omega) _ rfl, g8 7 (by omega) _ rfl⟩
theorem SW.froz (h : SW w0 b g n cap d W) (j : Nat) : W.frozen? ⟨g, j, none⟩ = false := (rw_cells h.row).2.2.2 j
theorem SW.put (h : SW w0 b g n cap d W) {x : Nat} (hx : x < n) (p : OX) : SW w0 b g n cap (updF d x p) (setC8 W g (x * 8) p) := by
  refine ⟨?_, ?_⟩
  · rw [rowF_upd, ← set8_obj p _ _ (by rw [rowF_len]; exact hx)]
    exact rw_set (rw_set (rw_set (rw_set (rw_set (rw_set (rw_set (rw_set h.row _ _) _ _) _ _) _ _) _ _) _ _) _ _) _ _
  · exact Kept.setCell (Kept.setCell (Kept.setCell (Kept.setCell (Kept.setCell (Kept.setCell (Kept.setCell (Kept.setCell h.kept _ _ (.inl rfl)) _ _ (.inl rfl)) _ _ (.inl rfl)) _ _ (.inl rfl)) _ _ (.inl rfl)) _ _ (.inl rfl)) _ _ (.inl rfl)) _ _ (.inl rfl)
theorem SW.swap (h : SW w0 b g n cap d W) {x y : Nat} (hx : x < n) (hy : y < n) : SW w0 b g n cap (swF d x y) (setC8 (setC8 W g (x * 8) (d y)) g (y * 8) (d x)) := by
  rw [← swF_upd]; exact (h.put hx (d y)).put hy (d x)
end
theorem allP_of {n : Nat} {d e : Nat → OX} (h : AllP n d) (f : ∀ i, i < n → ∃ j, j < n ∧ e i = d j) : AllP n e := fun i hi => by
  obtain ⟨j, hj, q⟩ := f i hi; rw [q]; exact h j hj
theorem allP_swR {N : Nat} {d : Nat → OX} (h : AllP N d) {x y m : Nat} (hx : x + m ≤ N) (hy : y + m ≤ N) : AllP N (swR d x y m) := allP_of h fun i hi => by
  unfold swR
  by_cases h1 : x ≤ i ∧ i < x + m
  · rw [if_pos h1]; exact ⟨_, by omega, rfl⟩
  · rw [if_neg h1]
    by_cases h2 : y ≤ i ∧ i < y + m
    · rw [if_pos h2]; exact ⟨_, by omega, rfl⟩
    · rw [if_neg h2]; exact ⟨i, hi, rfl⟩
theorem allP_rot {N : Nat} {d : Nat → OX} (h : AllP N d) {s m e : Nat} (h1 : s ≤ m) (h2 : m ≤ e) (h3 : e ≤ N) : AllP N (rot d s m e) := allP_of h fun i hi => by
  unfold rot
  by_cases h4 : s ≤ i ∧ i < e
  · rw [if_pos h4]
    by_cases h5 : i < s + (e - m)
    · rw [if_pos h5]; exact ⟨_, by omega, rfl⟩
    · rw [if_neg h5]; exact ⟨_, by omega, rfl⟩
  · rw [if_neg h4]; exact ⟨i, hi, rfl⟩
end Go.Proofs.Ythhfcambdmdgfaa
namespace Go.Proofs.Ythhfcambdmdgfaa
open Go.RowKit Go.Maps Srt
set_option linter.unusedVariables false
set_option linter.unusedSimpArgs false
set_option maxRecDepth 100000 in
set_option maxHeartbeats 8000000 in
theorem swapR_calls {w0 W : World} {B g N cap : Nat} {d : Nat → OX} (h : SW w0 B g N cap d W) (hP : AllP N d) {a b m : Nat} (hab : a + m ≤ b) (hb : b + m ≤ N) (hN : N ≤ 1000000) (f : Value) :
    Calls Try.prog 127 #[.slice (some ⟨g, 0, none⟩) N cap, .int .i64 (a : Int), .int .i64 (b : Int), .int .i64 (m : Int), f] W fun e w' => e = .returned (.tuple #[]) ∧ SW w0 B g N cap (swR d a b m) w' := by
  have HSW0 := Lib.hid h; have HP := Lib.hid hP
  clear h hP
  go_enter Try.func127, Try.ntmps127
  go_wp2_with fail
  go_loopw [10] (fun i wr => ∃ k : Nat, i = .int .i64 (k : Int) ∧ k ≤ m ∧ Hid (SW w0 B g N cap (swR d a b k) wr)) (fun i _ => m - (intOf i).toNat)
  case atStart => exact ⟨0, rfl, Nat.zero_le _, Lib.hid (by rw [swR_zero]; exact HSW0.out)⟩
  case round =>
    obtain ⟨k, rfl, hk, HSW⟩ := hrel
    by_cases hkm : k < m
    · have hkI : (k : Int) < m := by omega
      obtain ⟨V, rfl⟩ : ∃ V : World, V = wr := ⟨_, rfl⟩
      have HLX := Lib.hid (show a + k < N by omega); have HLY := Lib.hid (show b + k < N by omega)
      have hPk := allP_swR HP.out (x := a) (y := b) (m := k) (by omega) (by omega)
      have HSTEP := Lib.hid (swR_succ d (a := a) (b := b) (n := k) (by omega))
      generalize swR d a b k = dk at HSW hPk HSTEP
      obtain ⟨_, ax, nx, cx, ex⟩ := hPk _ HLX.out
      obtain ⟨_, ay, ny, cy, ey⟩ := hPk _ HLY.out
      have Q1 := Lib.hid (HSW.out.at HLX.out); have Q2 := Lib.hid (HSW.out.at HLY.out)
      obtain ⟨⟨x, sx⟩, hx⟩ : ∃ p, dk (a + k) = p := ⟨_, rfl⟩
      obtain ⟨⟨y, sy⟩, hy⟩ : ∃ p, dk (b + k) = p := ⟨_, rfl⟩
      rw [hx] at Q1 ex; rw [hy] at Q2 ey
      simp only at ex ey
      subst ex; subst ey
      have HX := Lib.hid hx; have HY := Lib.hid hy
      have i1 : IntKind.i64.wrap ((a : Int) + k) = (a : Int) + k := IntWalk.i64_in _ (by omega)
      have i2 : IntKind.i64.wrap ((b : Int) + k) = (b : Int) + k := IntWalk.i64_in _ (by omega)
      have i3 : (a : Int) + k < N := by omega
      have i4 : (b : Int) + k < N := by omega
      have i5 : (0 : Int) ≤ (a : Int) + k := by omega
      have i6 : (0 : Int) ≤ (b : Int) + k := by omega
      have i7 : ((a : Int) + k).toNat = a + k := by omega
      have i8 : ((b : Int) + k).toNat = b + k := by omega
      clear hx hy hPk
      have hB := Below.refl V.heap.size V
      go_upto_region 3 with fail
      have hB := hB.drew
      refine region_seqM (fun w' => Below V.heap.size V w') 21 [(0, 1), (1, 1), (2, 1), (3, 1), (4, 2), (5, 2), (6, 2), (7, 2), (8, 1), (9, 1), (10, 1), (11, 1), (12, 1), (13, 1), (14, 1), (15, 1), (16, 1), (17, 1), (18, 1), (19, 1), (20, 1), (21, 0), (22, 2), (23, 3)] (by kernel_rfl) (by kernel_rfl) (fun _ _ _ _ h => h) hB ?_
      try generalize World.drew _ = wS at hB ⊢
      refine sm_take (v := ?_) (a' := ?_) (some 16) rfl rfl (by rfl) ?_ ?_ ?_
      rotate_left; rotate_left
      · intro w' hS; go_simp; with_reducible rfl
      · simp only [Act.put, List.setIfInBounds_toArray, List.set_cons_zero, List.set_cons_succ]; rfl
      refine sm_take (v := ?_) (a' := ?_) (some 17) rfl rfl (by rfl) ?_ ?_ ?_
      rotate_left; rotate_left
      · intro w' hS; go_simp; with_reducible rfl
      · simp only [Act.put, List.setIfInBounds_toArray, List.set_cons_zero, List.set_cons_succ]; rfl
      refine sm_take (v := ?_) (a' := ?_) (some 18) rfl rfl (by rfl) ?_ ?_ ?_
      rotate_left; rotate_left
      · intro w' hS; go_simp; with_reducible rfl
      · simp only [Act.put, List.setIfInBounds_toArray, List.set_cons_zero, List.set_cons_succ]; rfl
      refine sm_take (v := ?_) (a' := ?_) (some 19) rfl rfl (by rfl) ?_ ?_ ?_
      rotate_left; rotate_left
      · intro w' hS; go_simp; with_reducible rfl
      · simp only [Act.put, List.setIfInBounds_toArray, List.set_cons_zero, List.set_cons_succ]; rfl
      refine sm_free (v := ?_) (a' := ?_) (some 20) rfl rfl (by rfl) ?_ ?_ ?_
      rotate_left; rotate_left
      · intro w'; go_simp; with_reducible rfl
      · simp only [Act.put, List.setIfInBounds_toArray, List.set_cons_zero, List.set_cons_succ]; rfl
      refine sm_free (v := ?_) (a' := ?_) (some 21) rfl rfl (by rfl) ?_ ?_ ?_
      rotate_left; rotate_left
      · intro w'; go_simp; with_reducible rfl
      · simp only [Act.put, List.setIfInBounds_toArray, List.set_cons_zero, List.set_cons_succ]; rfl
      refine sm_free (v := ?_) (a' := ?_) (some 22) rfl rfl (by rfl) ?_ ?_ ?_
      rotate_left; rotate_left
      · intro w'; go_simp; with_reducible rfl
      · simp only [Act.put, List.setIfInBounds_toArray, List.set_cons_zero, List.set_cons_succ]; rfl
      refine sm_free (v := ?_) (a' := ?_) (some 23) rfl rfl (by rfl) ?_ ?_ ?_
      rotate_left; rotate_left
      · intro w'; go_simp; with_reducible rfl
      · simp only [Act.put, List.setIfInBounds_toArray, List.set_cons_zero, List.set_cons_succ]; rfl
      refine sm_take (v := ?_) (a' := ?_) (some 24) rfl rfl (by rfl) ?_ ?_ ?_
      rotate_left; rotate_left
      · intro w' hS; go_simp; with_reducible rfl
      · simp only [Act.put, List.setIfInBounds_toArray, List.set_cons_zero, List.set_cons_succ]; rfl
      refine sm_take (v := ?_) (a' := ?_) (some 25) rfl rfl (by rfl) ?_ ?_ ?_
      rotate_left; rotate_left
      · intro w' hS; go_simp; with_reducible rfl
      · simp only [Act.put, List.setIfInBounds_toArray, List.set_cons_zero, List.set_cons_succ]; rfl
      refine sm_take (v := ?_) (a' := ?_) (some 26) rfl rfl (by rfl) ?_ ?_ ?_
      rotate_left; rotate_left
      · intro w' hS; go_simp; with_reducible rfl
      · simp only [Act.put, List.setIfInBounds_toArray, List.set_cons_zero, List.set_cons_succ]; rfl
      refine sm_take (v := ?_) (a' := ?_) (some 27) rfl rfl (by rfl) ?_ ?_ ?_
      rotate_left; rotate_left
      · intro w' hS; go_simp; with_reducible rfl
      · simp only [Act.put, List.setIfInBounds_toArray, List.set_cons_zero, List.set_cons_succ]; rfl
      refine sm_take (v := ?_) (a' := ?_) (some 28) rfl rfl (by rfl) ?_ ?_ ?_
      rotate_left; rotate_left
      · intro w' hS; go_simp; with_reducible rfl
      · simp only [Act.put, List.setIfInBounds_toArray, List.set_cons_zero, List.set_cons_succ]; rfl
      refine sm_take (v := ?_) (a' := ?_) (some 29) rfl rfl (by rfl) ?_ ?_ ?_
      rotate_left; rotate_left
      · intro w' hS; have p1 := Q1.out.below hS; have p2 := Q2.out.below hS; have a0 := p1.c0; have a1 := p1.c1; have a2 := p1.c2; have a3 := p1.c3; have a4 := p1.c4; have a5 := p1.c5; have a6 := p1.c6; have a7 := p1.c7; have b0 := p2.c0; have b1 := p2.c1; have b2 := p2.c2; have b3 := p2.c3; have b4 := p2.c4; have b5 := p2.c5; have b6 := p2.c6; have b7 := p2.c7; simp only at a0 a1 a2 a3 a4 a5 a6 a7 b0 b1 b2 b3 b4 b5 b6 b7; go_simp; with_reducible rfl
      · simp only [Act.put, List.setIfInBounds_toArray, List.set_cons_zero, List.set_cons_succ]; rfl
      refine sm_take (v := ?_) (a' := ?_) (some 30) rfl rfl (by rfl) ?_ ?_ ?_
      rotate_left; rotate_left
      · intro w' hS; go_simp; with_reducible rfl
      · simp only [Act.put, List.setIfInBounds_toArray, List.set_cons_zero, List.set_cons_succ]; rfl
      refine sm_take (v := ?_) (a' := ?_) (some 31) rfl rfl (by rfl) ?_ ?_ ?_
      rotate_left; rotate_left
      · intro w' hS; go_simp; with_reducible rfl
      · simp only [Act.put, List.setIfInBounds_toArray, List.set_cons_zero, List.set_cons_succ]; rfl
      refine sm_take (v := ?_) (a' := ?_) (some 32) rfl rfl (by rfl) ?_ ?_ ?_
      rotate_left; rotate_left
      · intro w' hS; go_simp; with_reducible rfl
      · simp only [Act.put, List.setIfInBounds_toArray, List.set_cons_zero, List.set_cons_succ]; rfl
      refine sm_take (v := ?_) (a' := ?_) (some 33) rfl rfl (by rfl) ?_ ?_ ?_
      rotate_left; rotate_left
      · intro w' hS; go_simp; with_reducible rfl
      · simp only [Act.put, List.setIfInBounds_toArray, List.set_cons_zero, List.set_cons_succ]; rfl
      refine sm_take (v := ?_) (a' := ?_) (some 34) rfl rfl (by rfl) ?_ ?_ ?_
      rotate_left; rotate_left
      · intro w' hS; go_simp; with_reducible rfl
      · simp only [Act.put, List.setIfInBounds_toArray, List.set_cons_zero, List.set_cons_succ]; rfl
      refine sm_take (v := ?_) (a' := ?_) (some 35) rfl rfl (by rfl) ?_ ?_ ?_
      rotate_left; rotate_left
      · intro w' hS; have p1 := Q1.out.below hS; have p2 := Q2.out.below hS; have a0 := p1.c0; have a1 := p1.c1; have a2 := p1.c2; have a3 := p1.c3; have a4 := p1.c4; have a5 := p1.c5; have a6 := p1.c6; have a7 := p1.c7; have b0 := p2.c0; have b1 := p2.c1; have b2 := p2.c2; have b3 := p2.c3; have b4 := p2.c4; have b5 := p2.c5; have b6 := p2.c6; have b7 := p2.c7; simp only at a0 a1 a2 a3 a4 a5 a6 a7 b0 b1 b2 b3 b4 b5 b6 b7; go_simp; with_reducible rfl
      · simp only [Act.put, List.setIfInBounds_toArray, List.set_cons_zero, List.set_cons_succ]; rfl
      refine sm_take (v := ?_) (a' := ?_) (some 36) rfl rfl (by rfl) ?_ ?_ ?_
      rotate_left; rotate_left
      · intro w' hS; go_simp; with_reducible rfl
      · simp only [Act.put, List.setIfInBounds_toArray, List.set_cons_zero, List.set_cons_succ]; rfl
      refine sm_store none rfl rfl (by rfl) ?_
      apply Exists.intro; apply And.intro
      · have SZ := HSW.out.read hB; have zx := SZ.at HLX.out; have zy := SZ.at HLY.out; have z0 := zx.c0; have z1 := zx.c1; have z2 := zx.c2; have z3 := zx.c3; have z4 := zx.c4; have z5 := zx.c5; have z6 := zx.c6; have z7 := zx.c7; have y0 := zy.c0; have y1 := zy.c1; have y2 := zy.c2; have y3 := zy.c3; have y4 := zy.c4; have y5 := zy.c5; have y6 := zy.c6; have y7 := zy.c7; have zf := SZ.froz; clear SZ zx zy; go_simp; first | exact ⟨rfl, rfl⟩ | rfl
      apply Exists.intro; apply And.intro
      · simp only [Act.put, List.setIfInBounds_toArray, List.set_cons_zero, List.set_cons_succ]; rfl
      apply And.intro
      · exact .inl rfl
      refine sm_free (v := ?_) (a' := ?_) (some 37) rfl rfl (by rfl) ?_ ?_ ?_
      rotate_left; rotate_left
      · intro w'; go_simp; with_reducible rfl
      · simp only [Act.put, List.setIfInBounds_toArray, List.set_cons_zero, List.set_cons_succ]; rfl
      refine sm_after none rfl rfl (by rfl) ?_
      apply Exists.intro; apply And.intro
      · have SZ := HSW.out.read hB; have zx := SZ.at HLX.out; have zy := SZ.at HLY.out; have z0 := zx.c0; have z1 := zx.c1; have z2 := zx.c2; have z3 := zx.c3; have z4 := zx.c4; have z5 := zx.c5; have z6 := zx.c6; have z7 := zx.c7; have y0 := zy.c0; have y1 := zy.c1; have y2 := zy.c2; have y3 := zy.c3; have y4 := zy.c4; have y5 := zy.c5; have y6 := zy.c6; have y7 := zy.c7; have zf := SZ.froz; clear SZ zx zy; go_simp; first | exact ⟨rfl, rfl⟩ | rfl
      apply Exists.intro; apply And.intro
      · simp only [Act.put, List.setIfInBounds_toArray, List.set_cons_zero, List.set_cons_succ]; rfl
      refine sm_done ?_
      refine name_exit ?_
      intro U hU
      have HSU := Lib.hid (show SW w0 B g N cap (swF dk (a + k) (b + k)) U by
        rw [hU]
        have q := (HSW.out.read hB).swap HLX.out HLY.out
        rw [HX.out, HY.out] at q
        exact q)
      rw [HSTEP.out] at HSU
      clear hU hB i1 i2 i3 i4 i5 i6 i7 i8
      go_wp2_with fail
      go_roundw
      case rel => exact ⟨k + 1, by simp, by omega, HSU⟩
      case measure => simp [intOf]; omega
    · obtain rfl : k = m := by omega
      go_wp2_with fail
      go_end0
      exact ⟨rfl, HSW.out⟩
end Go.Proofs.Ythhfcambdmdgfaa
namespace Go.Proofs.Ythhfcambdmdgfaa
open Go.RowKit Go.Maps Srt
set_option linter.unusedVariables false
set_option linter.unusedSimpArgs false
set_option maxRecDepth 100000 in
set_option maxHeartbeats 8000000 in
theorem rotate_calls {w0 W : World} {B g N cap : Nat} {d : Nat → OX} (h : SW w0 B g N cap d W) (hP : AllP N d) {a m b : Nat} (ham : a < m) (hmb : m < b) (hb : b ≤ N) (hN : N ≤ 1000000) (f : Value) :
    Calls Try.prog 116 #[.slice (some ⟨g, 0, none⟩) N cap, .int .i64 (a : Int), .int .i64 (m : Int), .int .i64 (b : Int), f] W fun e w' => e = .returned (.tuple #[]) ∧ SW w0 B g N cap (rot d a m b) w' := by
  have HSW0 := Lib.hid h; have HP := Lib.hid hP
  clear h hP
  have hi1 : (m : Int) ≤ 1000000 := by omega
  have hi2 : (a : Int) < m := by omega
  have hi3 : (m : Int) < b := by omega
  have hi4 : (b : Int) ≤ 1000000 := by omega
  go_enter Try.func116, Try.ntmps116
  go_wp2_with fail
  go_loopw [10, 11] (fun si sj wr => ∃ (i j : Nat) (dk : Nat → OX), si = .int .i64 (i : Int) ∧ sj = .int .i64 (j : Int) ∧ 0 < i ∧ 0 < j ∧ i ≤ m ∧ m + j ≤ N ∧ Hid (rot dk (m - i) m (m + j) = rot d a m b ∧ AllP N dk ∧ SW w0 B g N cap dk wr)) (fun si sj _ => (intOf si).toNat + (intOf sj).toNat)
  case atStart =>
    refine ⟨m - a, b - m, d, ?_, ?_, by omega, by omega, by omega, by omega, Lib.hid ⟨?_, HP.out, HSW0.out⟩⟩
    · rw [show ((m - a : Nat) : Int) = (m : Int) - a by omega]
    · rw [show ((b - m : Nat) : Int) = (b : Int) - m by omega]
    · rw [show m - (m - a) = a by omega, show m + (b - m) = b by omega]
  case round =>
    obtain ⟨i, j, dk, rfl, rfl, hi0, hj0, him, hjN, HD⟩ := hrel
    have k1 : (i : Int) ≤ m := by omega
    have k2 : (0 : Int) < i := by omega
    have k3 : (0 : Int) < j := by omega
    have k4 : (m : Int) + j ≤ 1000000 := by omega
    have e1 : ((m - i : Nat) : Int) = (m : Int) - i := by omega
    have e2 : ((m + j - i : Nat) : Int) = (m : Int) + j - i := by omega
    by_cases hij : i = j
    · subst hij
      have HC := swapR_calls HD.out.2.2 HD.out.2.1 (a := m - i) (b := m) (m := i) (by omega) (by omega) hN f
      rw [e1] at HC
      have HC := Lib.hid HC
      clear e1 e2
      go_wp2_with (go_at_call 127; refine HC.out.mono ?_; rintro e w' ⟨rfl, hs⟩; have HS := Lib.hid hs; clear hs)
      go_end0
      exact ⟨rfl, by rw [← HD.out.1, ← rot_even dk him]; exact HS.out⟩
    · have hne : ¬ (i : Int) = j := by omega
      have hnb : ((i : Int) == j) = false := by (rw [beq_eq_false_iff_ne]; exact hne)
      by_cases hlt : j < i
      · have hltI : (j : Int) < i := by omega
        have HC := swapR_calls HD.out.2.2 HD.out.2.1 (a := m - i) (b := m) (m := j) (by omega) (by omega) hN f
        rw [e1] at HC
        have HC := Lib.hid HC
        have HE := Lib.hid e2; have HIJ := Lib.hid hij
        clear e1 e2 hij
        go_wp2_with (go_at_call 127; refine HC.out.mono ?_; rintro e w' ⟨rfl, hs⟩; have HS := Lib.hid hs; clear hs)
        go_roundw
        case rel =>
          refine ⟨i - j, j, _, ?_, rfl, by omega, by omega, by omega, by omega, Lib.hid ⟨?_, allP_swR HD.out.2.1 (by omega) (by omega), HS.out⟩⟩
          · rw [show ((i - j : Nat) : Int) = (i : Int) - j by omega]
          · rw [rot_left dk him hlt]; exact HD.out.1
        case measure => simp [intOf]; omega
      · have hltI : ¬ (j : Int) < i := by omega
        have HIJ := Lib.hid (show i < j by omega)
        have HC := swapR_calls HD.out.2.2 HD.out.2.1 (a := m - i) (b := m + j - i) (m := i) (by omega) (by omega) hN f
        rw [e1, e2] at HC
        have HC := Lib.hid HC
        clear e1 e2 hij
        go_wp2_with (go_at_call 127; refine HC.out.mono ?_; rintro e w' ⟨rfl, hs⟩; have HS := Lib.hid hs; clear hs)
        go_roundw
        case rel =>
          have hIJ := HIJ.out
          refine ⟨i, j - i, _, rfl, ?_, by omega, by omega, by omega, by omega, Lib.hid ⟨?_, allP_swR HD.out.2.1 (by omega) (by omega), HS.out⟩⟩
          · rw [show ((j - i : Nat) : Int) = (j : Int) - i by omega]
          · rw [rot_right dk him hIJ]; exact HD.out.1
        case measure => have := HIJ.out; simp [intOf]; omega
def cmpO (p q : ObjD) : Int := if ltB (kTO p) (kTO q) then -1 else if ltB (kTO q) (kTO p) then 1 else 0
theorem cmpO_lt (p q : ObjD) : decide (cmpO p q < 0) = ltB (kTO p) (kTO q) := by
  unfold cmpO
  cases ltB (kTO p) (kTO q) <;> cases ltB (kTO q) (kTO p) <;> rfl
set_option maxRecDepth 100000 in
set_option maxHeartbeats 8000000 in
theorem cmp_calls (w : World) {p q : OX} (hp : OP p) (hq : OP q) :
    Calls Try.prog 58 #[objV p.1 p.2, objV q.1 q.2] w fun e w' => e = .returned (.int .i64 (cmpO p.1 q.1)) ∧ Below w.heap.size w w' := by
  obtain ⟨p, sp⟩ := p
  obtain ⟨q, sq⟩ := q
  obtain ⟨⟨⟨hp1, hp2, hp3⟩, _⟩, ap, np, cp, rfl⟩ := hp
  obtain ⟨⟨⟨hq1, hq2, hq3⟩, _⟩, aq, nq, cq, rfl⟩ := hq
  have HC := Lib.hid (show cmpO p q = if ltB (kTO p) (kTO q) then -1 else if ltB (kTO q) (kTO p) then 1 else 0 from rfl)
  obtain ⟨b1, hb1⟩ : ∃ b, ltB (kTO p) (kTO q) = b := ⟨_, rfl⟩
  obtain ⟨b2, hb2⟩ : ∃ b, ltB (kTO q) (kTO p) = b := ⟨_, rfl⟩
  rw [hb1, hb2] at HC
  have H1 := Lib.hid (show Op.bytesLess (keyText p.key.kind p.key.space p.key.name).toList (keyText q.key.kind q.key.space q.key.name).toList = b1 from hb1)
  have H2 := Lib.hid (show Op.bytesLess (keyText q.key.kind q.key.space q.key.name).toList (keyText p.key.kind p.key.space p.key.name).toList = b2 from hb2)
  clear hb1 hb2
  unfold objV
  go_enter Try.func58, Try.ntmps58
  go_upto_region 1 with fail
  first | with_reducible refine name_wp ?_ | with_reducible refine name_calls ?_
  intro W hWeq
  have g0 : W.heap[w.heap.size]? = some (.cells #[.string p.key.kind, .string p.key.space, .string p.key.name, .int .i64 p.ver, .string p.cls, .bool p.term, .bool p.best, .slice ap np cp] 27) := by rw [hWeq]; repeat (first | (with_reducible exact blk_newAt _ _ (by simp)) | with_reducible refine blk_drew ?_ | with_reducible refine blk_dN ?_ _ | with_reducible refine blk_old ?_ _)
  have g1 : W.heap[w.heap.size + 1]? = some (.cells #[.string q.key.kind, .string q.key.space, .string q.key.name, .int .i64 q.ver, .string q.cls, .bool q.term, .bool q.best, .slice aq nq cq] 27) := by rw [hWeq]; repeat (first | (with_reducible exact blk_newAt _ _ (by simp)) | with_reducible refine blk_drew ?_ | with_reducible refine blk_dN ?_ _ | with_reducible refine blk_old ?_ _)
  have hw : Below w.heap.size w W := by rw [hWeq]; repeat (first | with_reducible exact Below.refl _ _ | with_reducible refine Below.drew ?_ | with_reducible refine bl_dN ?_ _ | with_reducible refine Below.alloc ?_ (by simp <;> omega) _)
  clear hWeq
  have hz : w.heap.size + 2 ≤ W.heap.size := by have := blk_lt g1; omega
  have c0_0 : W.cell? ⟨w.heap.size, 0, none⟩ = some (.string p.key.kind) := blk_cell g0 0
  have c0_1 : W.cell? ⟨w.heap.size, 1, none⟩ = some (.string p.key.space) := blk_cell g0 1
  have c0_2 : W.cell? ⟨w.heap.size, 2, none⟩ = some (.string p.key.name) := blk_cell g0 2
  have c0_3 : W.cell? ⟨w.heap.size, 3, none⟩ = some (.int .i64 p.ver) := blk_cell g0 3
  have c0_4 : W.cell? ⟨w.heap.size, 4, none⟩ = some (.string p.cls) := blk_cell g0 4
  have c0_5 : W.cell? ⟨w.heap.size, 5, none⟩ = some (.bool p.term) := blk_cell g0 5
  have c0_6 : W.cell? ⟨w.heap.size, 6, none⟩ = some (.bool p.best) := blk_cell g0 6
  have c0_7 : W.cell? ⟨w.heap.size, 7, none⟩ = some (.slice ap np cp) := blk_cell g0 7
  have f0 : ∀ j, W.frozen? ⟨w.heap.size, j, none⟩ = false := blk_free g0
  have c1_0 : W.cell? ⟨w.heap.size + 1, 0, none⟩ = some (.string q.key.kind) := blk_cell g1 0
  have c1_1 : W.cell? ⟨w.heap.size + 1, 1, none⟩ = some (.string q.key.space) := blk_cell g1 1
  have c1_2 : W.cell? ⟨w.heap.size + 1, 2, none⟩ = some (.string q.key.name) := blk_cell g1 2
  have c1_3 : W.cell? ⟨w.heap.size + 1, 3, none⟩ = some (.int .i64 q.ver) := blk_cell g1 3
  have c1_4 : W.cell? ⟨w.heap.size + 1, 4, none⟩ = some (.string q.cls) := blk_cell g1 4
  have c1_5 : W.cell? ⟨w.heap.size + 1, 5, none⟩ = some (.bool q.term) := blk_cell g1 5
  have c1_6 : W.cell? ⟨w.heap.size + 1, 6, none⟩ = some (.bool q.best) := blk_cell g1 6
  have c1_7 : W.cell? ⟨w.heap.size + 1, 7, none⟩ = some (.slice aq nq cq) := blk_cell g1 7
  have f1 : ∀ j, W.frozen? ⟨w.heap.size + 1, j, none⟩ = false := blk_free g1
  have hB : Below W.heap.size W W := Below.refl _ _
  have G0 := Lib.hid g0; clear g0
  have F0 := Lib.hid f0; clear f0
  have G1 := Lib.hid g1; clear g1
  have F1 := Lib.hid f1; clear f1
  have Hw := Lib.hid hw; clear hw
  cases b1 with
  | true =>
    go_wp2_with (go_at_call 25; refine (less_calls _ _ _ _ _ _ _ (by omega) (by omega)).mono ?_; rintro e w' ⟨rfl, hb⟩; (first | rw [H1.out] | rw [H2.out]); have hB := bl_next hB hb; have c0_0 := cb hb c0_0; have c0_1 := cb hb c0_1; have c0_2 := cb hb c0_2; have c0_3 := cb hb c0_3; have c0_4 := cb hb c0_4; have c0_5 := cb hb c0_5; have c0_6 := cb hb c0_6; have c0_7 := cb hb c0_7; have c1_0 := cb hb c1_0; have c1_1 := cb hb c1_1; have c1_2 := cb hb c1_2; have c1_3 := cb hb c1_3; have c1_4 := cb hb c1_4; have c1_5 := cb hb c1_5; have c1_6 := cb hb c1_6; have c1_7 := cb hb c1_7; clear hb)
    go_ret
    exact ⟨ret_int (by rw [HC.out]; rfl), bl_from Hw.out hB⟩
  | false =>
    cases b2 with
    | true =>
      go_wp2_with (go_at_call 25; refine (less_calls _ _ _ _ _ _ _ (by omega) (by omega)).mono ?_; rintro e w' ⟨rfl, hb⟩; (first | rw [H1.out] | rw [H2.out]); have hB := bl_next hB hb; have c0_0 := cb hb c0_0; have c0_1 := cb hb c0_1; have c0_2 := cb hb c0_2; have c0_3 := cb hb c0_3; have c0_4 := cb hb c0_4; have c0_5 := cb hb c0_5; have c0_6 := cb hb c0_6; have c0_7 := cb hb c0_7; have c1_0 := cb hb c1_0; have c1_1 := cb hb c1_1; have c1_2 := cb hb c1_2; have c1_3 := cb hb c1_3; have c1_4 := cb hb c1_4; have c1_5 := cb hb c1_5; have c1_6 := cb hb c1_6; have c1_7 := cb hb c1_7; clear hb)
      go_ret
      exact ⟨ret_int (by rw [HC.out]; rfl), bl_from Hw.out hB⟩
    | false =>
      go_wp2_with (go_at_call 25; refine (less_calls _ _ _ _ _ _ _ (by omega) (by omega)).mono ?_; rintro e w' ⟨rfl, hb⟩; (first | rw [H1.out] | rw [H2.out]); have hB := bl_next hB hb; have c0_0 := cb hb c0_0; have c0_1 := cb hb c0_1; have c0_2 := cb hb c0_2; have c0_3 := cb hb c0_3; have c0_4 := cb hb c0_4; have c0_5 := cb hb c0_5; have c0_6 := cb hb c0_6; have c0_7 := cb hb c0_7; have c1_0 := cb hb c1_0; have c1_1 := cb hb c1_1; have c1_2 := cb hb c1_2; have c1_3 := cb hb c1_3; have c1_4 := cb hb c1_4; have c1_5 := cb hb c1_5; have c1_6 := cb hb c1_6; have c1_7 := cb hb c1_7; clear hb)
      go_ret
      exact ⟨ret_int (by rw [HC.out]; rfl), bl_from Hw.out hB⟩
end Go.Proofs.Ythhfcambdmdgfaa
namespace Go.Proofs.Ythhfcambdmdgfaa
open Go.RowKit Go.Maps Srt
set_option linter.unusedVariables false
set_option linter.unusedSimpArgs false
def kX (p : OX) : ByteArray := kTO p.1
/-- Behind a piece of work: sorted, each class in its order. -/
def Done (w0 : World) (B g N cap : Nat) (d : Nat → OX) (a b : Nat) (e : Ending) (w' : World) : Prop := e = .returned (.tuple #[]) ∧ ∃ d', Wk kX N d d' a b ∧ SrtF kX ltB d' a b ∧ AllP N d' ∧ SW w0 B g N cap d' w'
set_option maxRecDepth 100000 in
set_option maxHeartbeats 8000000 in
theorem insS_calls {w0 W : World} {B g N cap : Nat} {d : Nat → OX} (h : SW w0 B g N cap d W) (hP : AllP N d) {a b : Nat} (hab : a ≤ b) (hb : b ≤ N) (hN : N ≤ 1000000) :
    Calls Try.prog 104 #[.slice (some ⟨g, 0, none⟩) N cap, .int .i64 (a : Int), .int .i64 (b : Int), .func (.func 58) #[] #[]] W (Done w0 B g N cap d a b) := by
  have HSW0 := Lib.hid h; have HP := Lib.hid hP
  clear h hP
  have ha1 : (a : Int) ≤ 1000000 := by omega
  have hb1 : (b : Int) ≤ 1000000 := by omega
  go_enter Try.func104, Try.ntmps104
  go_wp2_with fail
  go_loopw [8] (fun si wr => ∃ (i : Nat) (d1 : Nat → OX), si = .int .i64 (i : Int) ∧ a + 1 ≤ i ∧ i ≤ b + 1 ∧ Hid (Wk kX N d d1 a b ∧ SrtF kX ltB d1 a i ∧ AllP N d1 ∧ SW w0 B g N cap d1 wr)) (fun si _ => b + 1 - (intOf si).toNat)
  case atStart => exact ⟨a + 1, d, by simp, by omega, by omega, Lib.hid ⟨Wk.refl _ _ _, (fun i j h1 h2 h3 => by omega), HP.out, HSW0.out⟩⟩
  case round =>
    obtain ⟨i, d1, rfl, hi1, hi2, HD⟩ := hrel
    by_cases hib : i < b
    · have hiI : (i : Int) < b := by omega
      have hi0 : (a : Int) < i := by omega
      go_wp2_with fail
      go_loopw [9] (fun sj wr => ∃ (j : Nat), sj = .int .i64 (j : Int) ∧ a ≤ j ∧ j ≤ i ∧ Hid ((∀ y, j ≤ y → y < i → ltB (kX (d1 i)) (kX (d1 y)) = true) ∧ SW w0 B g N cap (rot d1 j i (i + 1)) wr)) (fun sj _ => (intOf sj).toNat)
      case atStart => exact ⟨i, rfl, by omega, Nat.le_refl _, Lib.hid ⟨(fun y h1 h2 => by omega), by rw [rot_nilL d1 (by omega)]; exact HD.out.2.2.2⟩⟩
      case round =>
        obtain ⟨j, rfl, hj1, hj2, HJ⟩ := hrel
        have OUT : Hid (∀ V' : World, SW w0 B g N cap (rot d1 j i (i + 1)) V' → (∀ y, a ≤ y → y < j → ltB (kX (d1 i)) (kX (d1 y)) = false) → (Wk kX N d (rot d1 j i (i + 1)) a b ∧ SrtF kX ltB (rot d1 j i (i + 1)) a (i + 1) ∧ AllP N (rot d1 j i (i + 1)) ∧ SW w0 B g N cap (rot d1 j i (i + 1)) V')) := Lib.hid fun V' hV hlo => by
          obtain ⟨r1, r2⟩ := merge_last (K := kX) (n := N) (d := d1) toB (a := a) (i := j) (m := i) hj1 hj2 (by omega) HD.out.2.1 hlo HJ.out.1
          exact ⟨HD.out.1.trans (r1.wider (Nat.le_refl _) (by omega)), r2, allP_rot HD.out.2.2.1 hj2 (by omega) (by omega), hV⟩
        have HSW := Lib.hid HJ.out.2
        obtain ⟨V, rfl⟩ : ∃ V : World, V = wr := ⟨_, rfl⟩
        by_cases hja : a < j
        · have hjI : (a : Int) < j := by omega
          have hk1 : ((j : Int) - 1).toNat = j - 1 := by omega
          have hk2 : (0 : Int) ≤ (j : Int) - 1 := by omega
          have hk3 : (j : Int) - 1 < N := by omega
          have hk4 : (1 : Int) ≤ j := by omega
          have hk6 : decide (a < j) = true := decide_eq_true hja
          have hk7 : IntKind.i64.wrap ((j : Int) - 1) = (j : Int) - 1 := IntWalk.i64_in _ (by omega)
          have hk8 : (j : Int) < N := by omega
          have hk9 : 1 ≤ j := by omega
          have HLX := Lib.hid (show j < N by omega); have HLY := Lib.hid (show j - 1 < N by omega)
          have hPk := allP_rot HD.out.2.2.1 (s := j) (m := i) (e := i + 1) hj2 (by omega) (by omega)
          have hDX := Lib.hid (show rot d1 j i (i + 1) j = d1 i by unfold rot; rw [if_pos (by omega), if_pos (by omega)]; congr 1; omega)
          have hDY := Lib.hid (show rot d1 j i (i + 1) (j - 1) = d1 (j - 1) from rot_out _ _ _ _ (by omega))
          have HSTEP := Lib.hid (show swF (rot d1 j i (i + 1)) j (j - 1) = rot d1 (j - 1) i (i + 1) by
            have q := rot_down d1 (k := j - 1) (m := i) (by omega)
            rwa [show j - 1 + 1 = j by omega] at q)
          have HLT : Hid (∀ c, cmpO (rot d1 j i (i + 1) j).1 (rot d1 j i (i + 1) (j - 1)).1 = c → decide (c < 0) = ltB (kX (d1 i)) (kX (d1 (j - 1)))) := Lib.hid fun c hc => by rw [← hc, cmpO_lt, hDX.out, hDY.out]; rfl
          obtain ⟨dk, hdk⟩ : ∃ dk, rot d1 j i (i + 1) = dk := ⟨_, rfl⟩
          rw [hdk] at HSW hPk HSTEP HLT
          have HDK := Lib.hid hdk
          clear hdk hDX hDY
          obtain ⟨zx, ax, nx, cx, ex⟩ := hPk _ HLX.out
          obtain ⟨zy, ay, ny, cy, ey⟩ := hPk _ HLY.out
          have Q1 := Lib.hid (HSW.out.at HLX.out); have Q2 := Lib.hid (HSW.out.at HLY.out)
          have HC1 := Lib.hid (fun (U : World) => cmp_calls U (hPk _ HLX.out) (hPk _ HLY.out))
          have HC2 := Lib.hid (fun (U : World) => cmp_calls U (hPk _ HLY.out) (hPk _ HLX.out))
          obtain ⟨⟨x, sx⟩, hx⟩ : ∃ p, dk (j) = p := ⟨_, rfl⟩
          obtain ⟨⟨y, sy⟩, hy⟩ : ∃ p, dk (j - 1) = p := ⟨_, rfl⟩
          rw [hx] at Q1 ex HC1 HC2; rw [hy] at Q2 ey HC1 HC2
          simp only at ex ey HC1 HC2
          subst ex; subst ey
          unfold objV at HC1 HC2
          have HX := Lib.hid hx; have HY := Lib.hid hy
          clear hx hy hPk zx zy
          obtain ⟨c, hc⟩ : ∃ c, cmpO x y = c := ⟨_, rfl⟩
          have HL2 := Lib.hid (HLT.out c (by rw [HX.out, HY.out]; exact hc))
          rw [hc] at HC1
          clear hc HLT
          have hB := Below.refl V.heap.size V
          by_cases hcn : c < 0
          · have HLT := Lib.hid (show ltB (kX (d1 i)) (kX (d1 (j - 1))) = true by rw [← HL2.out]; exact decide_eq_true hcn)
            go_upto_region 4 with fail
            have hB := hB.drew
            refine region_seq (fun w' => Below V.heap.size V w') [(0, true), (1, true), (2, true), (3, true), (4, true), (5, true), (6, true), (7, true), (8, true), (9, true), (10, true), (11, true), (12, true), (13, true), (14, false), (15, true), (16, true)] (by kernel_rfl) (by kernel_rfl) (fun _ _ _ _ h => h) hB ?_
            try generalize World.drew _ = wS at hB ⊢
            refine seq_take (v := ?_) (a' := ?_) (some 18) rfl rfl (by rfl) ?_ ?_ ?_
            rotate_left; rotate_left
            · intro w' hS; go_simp; with_reducible rfl
            · simp only [Act.put, List.setIfInBounds_toArray, List.set_cons_zero, List.set_cons_succ]; rfl
            refine seq_take (v := ?_) (a' := ?_) (some 19) rfl rfl (by rfl) ?_ ?_ ?_
            rotate_left; rotate_left
            · intro w' hS; go_simp; with_reducible rfl
            · simp only [Act.put, List.setIfInBounds_toArray, List.set_cons_zero, List.set_cons_succ]; rfl
            refine seq_take (v := ?_) (a' := ?_) (some 20) rfl rfl (by rfl) ?_ ?_ ?_
            rotate_left; rotate_left
            · intro w' hS; go_simp; with_reducible rfl
            · simp only [Act.put, List.setIfInBounds_toArray, List.set_cons_zero, List.set_cons_succ]; rfl
            refine seq_take (v := ?_) (a' := ?_) (some 21) rfl rfl (by rfl) ?_ ?_ ?_
            rotate_left; rotate_left
            · intro w' hS; go_simp; with_reducible rfl
            · simp only [Act.put, List.setIfInBounds_toArray, List.set_cons_zero, List.set_cons_succ]; rfl
            refine seq_take (v := ?_) (a' := ?_) (some 22) rfl rfl (by rfl) ?_ ?_ ?_
            rotate_left; rotate_left
            · intro w' hS; go_simp; with_reducible rfl
            · simp only [Act.put, List.setIfInBounds_toArray, List.set_cons_zero, List.set_cons_succ]; rfl
            refine seq_take (v := ?_) (a' := ?_) (some 23) rfl rfl (by rfl) ?_ ?_ ?_
            rotate_left; rotate_left
            · intro w' hS; go_simp; with_reducible rfl
            · simp only [Act.put, List.setIfInBounds_toArray, List.set_cons_zero, List.set_cons_succ]; rfl
            refine seq_take (v := ?_) (a' := ?_) (some 24) rfl rfl (by rfl) ?_ ?_ ?_
            rotate_left; rotate_left
            · intro w' hS; go_simp; with_reducible rfl
            · simp only [Act.put, List.setIfInBounds_toArray, List.set_cons_zero, List.set_cons_succ]; rfl
            refine seq_take (v := ?_) (a' := ?_) (some 25) rfl rfl (by rfl) ?_ ?_ ?_
            rotate_left; rotate_left
            · intro w' hS; go_simp; with_reducible rfl
            · simp only [Act.put, List.setIfInBounds_toArray, List.set_cons_zero, List.set_cons_succ]; rfl
            refine seq_take (v := ?_) (a' := ?_) (some 26) rfl rfl (by rfl) ?_ ?_ ?_
            rotate_left; rotate_left
            · intro w' hS; have p1 := Q1.out.below hS; have p2 := Q2.out.below hS; have a0 := p1.c0; have a1 := p1.c1; have a2 := p1.c2; have a3 := p1.c3; have a4 := p1.c4; have a5 := p1.c5; have a6 := p1.c6; have a7 := p1.c7; have b0 := p2.c0; have b1 := p2.c1; have b2 := p2.c2; have b3 := p2.c3; have b4 := p2.c4; have b5 := p2.c5; have b6 := p2.c6; have b7 := p2.c7; simp only at a0 a1 a2 a3 a4 a5 a6 a7 b0 b1 b2 b3 b4 b5 b6 b7; go_simp; with_reducible rfl
            · simp only [Act.put, List.setIfInBounds_toArray, List.set_cons_zero, List.set_cons_succ]; rfl
            refine seq_take (v := ?_) (a' := ?_) (some 27) rfl rfl (by rfl) ?_ ?_ ?_
            rotate_left; rotate_left
            · intro w' hS; go_simp; with_reducible rfl
            · simp only [Act.put, List.setIfInBounds_toArray, List.set_cons_zero, List.set_cons_succ]; rfl
            refine seq_take (v := ?_) (a' := ?_) (some 28) rfl rfl (by rfl) ?_ ?_ ?_
            rotate_left; rotate_left
            · intro w' hS; go_simp; with_reducible rfl
            · simp only [Act.put, List.setIfInBounds_toArray, List.set_cons_zero, List.set_cons_succ]; rfl
            refine seq_take (v := ?_) (a' := ?_) (some 29) rfl rfl (by rfl) ?_ ?_ ?_
            rotate_left; rotate_left
            · intro w' hS; go_simp; with_reducible rfl
            · simp only [Act.put, List.setIfInBounds_toArray, List.set_cons_zero, List.set_cons_succ]; rfl
            refine seq_take (v := ?_) (a' := ?_) (some 30) rfl rfl (by rfl) ?_ ?_ ?_
            rotate_left; rotate_left
            · intro w' hS; go_simp; with_reducible rfl
            · simp only [Act.put, List.setIfInBounds_toArray, List.set_cons_zero, List.set_cons_succ]; rfl
            refine seq_take (v := ?_) (a' := ?_) (some 31) rfl rfl (by rfl) ?_ ?_ ?_
            rotate_left; rotate_left
            · intro w' hS; have p1 := Q1.out.below hS; have p2 := Q2.out.below hS; have a0 := p1.c0; have a1 := p1.c1; have a2 := p1.c2; have a3 := p1.c3; have a4 := p1.c4; have a5 := p1.c5; have a6 := p1.c6; have a7 := p1.c7; have b0 := p2.c0; have b1 := p2.c1; have b2 := p2.c2; have b3 := p2.c3; have b4 := p2.c4; have b5 := p2.c5; have b6 := p2.c6; have b7 := p2.c7; simp only at a0 a1 a2 a3 a4 a5 a6 a7 b0 b1 b2 b3 b4 b5 b6 b7; go_simp; with_reducible rfl
            · simp only [Act.put, List.setIfInBounds_toArray, List.set_cons_zero, List.set_cons_succ]; rfl
            refine seq_callV (args := ?_) Try.func58 (by kernel_rfl) rfl (some 32) rfl rfl (by rfl) rfl rfl ?_ ?_
            rotate_left
            · simp only [List.map_toArray, List.map_cons, List.map_nil]; go_simp; rfl
            with_reducible refine (HC1.out _).mono ?_
            rintro e w' ⟨rfl, hb⟩
            refine ⟨_, rfl, bl_next (by repeat (first | with_reducible exact hB | refine Below.alloc ?_ (by have := hB.size; simp; omega) _ | refine bl_dN ?_ _ | refine Below.drew ?_ | refine Below.setCell ?_ (by have := hB.size; simp; omega) _)) hb, ?_⟩
            have hB := bl_next (by repeat (first | with_reducible exact hB | refine Below.alloc ?_ (by have := hB.size; simp; omega) _ | refine bl_dN ?_ _ | refine Below.drew ?_ | refine Below.setCell ?_ (by have := hB.size; simp; omega) _)) hb; clear hb
            simp only [Act.put, List.setIfInBounds_toArray, List.set_cons_zero, List.set_cons_succ]
            refine seq_take (v := ?_) (a' := ?_) (some 33) rfl rfl (by rfl) ?_ ?_ ?_
            rotate_left; rotate_left
            · intro w' hS; go_simp; with_reducible rfl
            · simp only [Act.put, List.setIfInBounds_toArray, List.set_cons_zero, List.set_cons_succ]; rfl
            refine seq_take (v := ?_) (a' := ?_) (some 34) rfl rfl (by rfl) ?_ ?_ ?_
            rotate_left; rotate_left
            · intro w' hS; go_simp; with_reducible rfl
            · simp only [Act.put, List.setIfInBounds_toArray, List.set_cons_zero, List.set_cons_succ]; rfl
            refine seq_done ?_
            go_upto_region 6 with fail
            clear HC1 HC2
            have HSV := HSW
            have HSW := Lib.hid (HSV.out.read hB); have Q1 := Lib.hid (Q1.out.below hB); have Q2 := Lib.hid (Q2.out.below hB)
            clear hB HSV
            obtain ⟨V2, rfl⟩ : ∃ V2 : World, V2 = w' := ⟨_, rfl⟩
            have hB := Below.refl V2.heap.size V2
            have hB := hB.drew
            refine region_seqM (fun w' => Below V2.heap.size V2 w') 15 [(0, 1), (1, 1), (2, 2), (3, 2), (4, 2), (5, 1), (6, 1), (7, 1), (8, 1), (9, 1), (10, 1), (11, 1), (12, 1), (13, 1), (14, 1), (15, 0), (16, 2), (17, 3)] (by kernel_rfl) (by kernel_rfl) (fun _ _ _ _ h => h) hB ?_
            try generalize World.drew _ = wS at hB ⊢
            refine sm_take (v := ?_) (a' := ?_) (some 37) rfl rfl (by rfl) ?_ ?_ ?_
            rotate_left; rotate_left
            · intro w' hS; go_simp; with_reducible rfl
            · simp only [Act.put, List.setIfInBounds_toArray, List.set_cons_zero, List.set_cons_succ]; rfl
            refine sm_take (v := ?_) (a' := ?_) (some 38) rfl rfl (by rfl) ?_ ?_ ?_
            rotate_left; rotate_left
            · intro w' hS; go_simp; with_reducible rfl
            · simp only [Act.put, List.setIfInBounds_toArray, List.set_cons_zero, List.set_cons_succ]; rfl
            refine sm_free (v := ?_) (a' := ?_) (some 39) rfl rfl (by rfl) ?_ ?_ ?_
            rotate_left; rotate_left
            · intro w'; go_simp; with_reducible rfl
            · simp only [Act.put, List.setIfInBounds_toArray, List.set_cons_zero, List.set_cons_succ]; rfl
            refine sm_free (v := ?_) (a' := ?_) (some 40) rfl rfl (by rfl) ?_ ?_ ?_
            rotate_left; rotate_left
            · intro w'; go_simp; with_reducible rfl
            · simp only [Act.put, List.setIfInBounds_toArray, List.set_cons_zero, List.set_cons_succ]; rfl
            refine sm_free (v := ?_) (a' := ?_) (some 41) rfl rfl (by rfl) ?_ ?_ ?_
            rotate_left; rotate_left
            · intro w'; go_simp; with_reducible rfl
            · simp only [Act.put, List.setIfInBounds_toArray, List.set_cons_zero, List.set_cons_succ]; rfl
            refine sm_take (v := ?_) (a' := ?_) (some 42) rfl rfl (by rfl) ?_ ?_ ?_
            rotate_left; rotate_left
            · intro w' hS; go_simp; with_reducible rfl
            · simp only [Act.put, List.setIfInBounds_toArray, List.set_cons_zero, List.set_cons_succ]; rfl
            refine sm_take (v := ?_) (a' := ?_) (some 43) rfl rfl (by rfl) ?_ ?_ ?_
            rotate_left; rotate_left
            · intro w' hS; go_simp; with_reducible rfl
            · simp only [Act.put, List.setIfInBounds_toArray, List.set_cons_zero, List.set_cons_succ]; rfl
            refine sm_take (v := ?_) (a' := ?_) (some 44) rfl rfl (by rfl) ?_ ?_ ?_
            rotate_left; rotate_left
            · intro w' hS; go_simp; with_reducible rfl
            · simp only [Act.put, List.setIfInBounds_toArray, List.set_cons_zero, List.set_cons_succ]; rfl
            refine sm_take (v := ?_) (a' := ?_) (some 45) rfl rfl (by rfl) ?_ ?_ ?_
            rotate_left; rotate_left
            · intro w' hS; go_simp; with_reducible rfl
            · simp only [Act.put, List.setIfInBounds_toArray, List.set_cons_zero, List.set_cons_succ]; rfl
            refine sm_take (v := ?_) (a' := ?_) (some 46) rfl rfl (by rfl) ?_ ?_ ?_
            rotate_left; rotate_left
            · intro w' hS; have p1 := Q1.out.below hS; have p2 := Q2.out.below hS; have a0 := p1.c0; have a1 := p1.c1; have a2 := p1.c2; have a3 := p1.c3; have a4 := p1.c4; have a5 := p1.c5; have a6 := p1.c6; have a7 := p1.c7; have b0 := p2.c0; have b1 := p2.c1; have b2 := p2.c2; have b3 := p2.c3; have b4 := p2.c4; have b5 := p2.c5; have b6 := p2.c6; have b7 := p2.c7; simp only at a0 a1 a2 a3 a4 a5 a6 a7 b0 b1 b2 b3 b4 b5 b6 b7; go_simp; with_reducible rfl
            · simp only [Act.put, List.setIfInBounds_toArray, List.set_cons_zero, List.set_cons_succ]; rfl
            refine sm_take (v := ?_) (a' := ?_) (some 47) rfl rfl (by rfl) ?_ ?_ ?_
            rotate_left; rotate_left
            · intro w' hS; go_simp; with_reducible rfl
            · simp only [Act.put, List.setIfInBounds_toArray, List.set_cons_zero, List.set_cons_succ]; rfl
            refine sm_take (v := ?_) (a' := ?_) (some 48) rfl rfl (by rfl) ?_ ?_ ?_
            rotate_left; rotate_left
            · intro w' hS; go_simp; with_reducible rfl
            · simp only [Act.put, List.setIfInBounds_toArray, List.set_cons_zero, List.set_cons_succ]; rfl
            refine sm_take (v := ?_) (a' := ?_) (some 49) rfl rfl (by rfl) ?_ ?_ ?_
            rotate_left; rotate_left
            · intro w' hS; go_simp; with_reducible rfl
            · simp only [Act.put, List.setIfInBounds_toArray, List.set_cons_zero, List.set_cons_succ]; rfl
            refine sm_take (v := ?_) (a' := ?_) (some 50) rfl rfl (by rfl) ?_ ?_ ?_
            rotate_left; rotate_left
            · intro w' hS; have p1 := Q1.out.below hS; have p2 := Q2.out.below hS; have a0 := p1.c0; have a1 := p1.c1; have a2 := p1.c2; have a3 := p1.c3; have a4 := p1.c4; have a5 := p1.c5; have a6 := p1.c6; have a7 := p1.c7; have b0 := p2.c0; have b1 := p2.c1; have b2 := p2.c2; have b3 := p2.c3; have b4 := p2.c4; have b5 := p2.c5; have b6 := p2.c6; have b7 := p2.c7; simp only at a0 a1 a2 a3 a4 a5 a6 a7 b0 b1 b2 b3 b4 b5 b6 b7; go_simp; with_reducible rfl
            · simp only [Act.put, List.setIfInBounds_toArray, List.set_cons_zero, List.set_cons_succ]; rfl
            refine sm_take (v := ?_) (a' := ?_) (some 51) rfl rfl (by rfl) ?_ ?_ ?_
            rotate_left; rotate_left
            · intro w' hS; go_simp; with_reducible rfl
            · simp only [Act.put, List.setIfInBounds_toArray, List.set_cons_zero, List.set_cons_succ]; rfl
            refine sm_store none rfl rfl (by rfl) ?_
            apply Exists.intro; apply And.intro
            · have SZ := HSW.out.read hB; have zx := SZ.at HLX.out; have zy := SZ.at HLY.out; have z0 := zx.c0; have z1 := zx.c1; have z2 := zx.c2; have z3 := zx.c3; have z4 := zx.c4; have z5 := zx.c5; have z6 := zx.c6; have z7 := zx.c7; have y0 := zy.c0; have y1 := zy.c1; have y2 := zy.c2; have y3 := zy.c3; have y4 := zy.c4; have y5 := zy.c5; have y6 := zy.c6; have y7 := zy.c7; have zf := SZ.froz; clear SZ zx zy; go_simp; first | exact ⟨rfl, rfl⟩ | rfl
            apply Exists.intro; apply And.intro
            · simp only [Act.put, List.setIfInBounds_toArray, List.set_cons_zero, List.set_cons_succ]; rfl
            apply And.intro
            · exact .inl rfl
            refine sm_free (v := ?_) (a' := ?_) (some 52) rfl rfl (by rfl) ?_ ?_ ?_
            rotate_left; rotate_left
            · intro w'; go_simp; with_reducible rfl
            · simp only [Act.put, List.setIfInBounds_toArray, List.set_cons_zero, List.set_cons_succ]; rfl
            refine sm_after none rfl rfl (by rfl) ?_
            apply Exists.intro; apply And.intro
            · have SZ := HSW.out.read hB; have zx := SZ.at HLX.out; have zy := SZ.at HLY.out; have z0 := zx.c0; have z1 := zx.c1; have z2 := zx.c2; have z3 := zx.c3; have z4 := zx.c4; have z5 := zx.c5; have z6 := zx.c6; have z7 := zx.c7; have y0 := zy.c0; have y1 := zy.c1; have y2 := zy.c2; have y3 := zy.c3; have y4 := zy.c4; have y5 := zy.c5; have y6 := zy.c6; have y7 := zy.c7; have zf := SZ.froz; clear SZ zx zy; go_simp; first | exact ⟨rfl, rfl⟩ | rfl
            apply Exists.intro; apply And.intro
            · simp only [Act.put, List.setIfInBounds_toArray, List.set_cons_zero, List.set_cons_succ]; rfl
            refine sm_done ?_
            refine name_exit ?_
            intro U hU
            have HSU := Lib.hid (show SW w0 B g N cap (swF dk j (j - 1)) U by
              rw [hU]
              have q := (HSW.out.read hB).swap HLX.out HLY.out
              rw [HX.out, HY.out] at q
              exact q)
            rw [HSTEP.out] at HSU
            clear hU hB hk1 hk2 hk3 hk7
            go_wp2_with fail
            go_roundw
            case rel =>
              refine ⟨j - 1, ?_, by omega, by omega, Lib.hid ⟨fun y h1 h2 => ?_, HSU.out⟩⟩
              · rw [show ((j - 1 : Nat) : Int) = (j : Int) - 1 by omega]
              · by_cases e : y = j - 1
                · rw [e]; exact HLT.out
                · exact HJ.out.1 y (by omega) h2
            case measure => simp [intOf]; omega
          · have HLT := Lib.hid (show ltB (kX (d1 i)) (kX (d1 (j - 1))) = false by rw [← HL2.out]; exact decide_eq_false hcn)
            go_upto_region 4 with fail
            have hB := hB.drew
            refine region_seq (fun w' => Below V.heap.size V w') [(0, true), (1, true), (2, true), (3, true), (4, true), (5, true), (6, true), (7, true), (8, true), (9, true), (10, true), (11, true), (12, true), (13, true), (14, false), (15, true), (16, true)] (by kernel_rfl) (by kernel_rfl) (fun _ _ _ _ h => h) hB ?_
            try generalize World.drew _ = wS at hB ⊢
            refine seq_take (v := ?_) (a' := ?_) (some 18) rfl rfl (by rfl) ?_ ?_ ?_
            rotate_left; rotate_left
            · intro w' hS; go_simp; with_reducible rfl
            · simp only [Act.put, List.setIfInBounds_toArray, List.set_cons_zero, List.set_cons_succ]; rfl
            refine seq_take (v := ?_) (a' := ?_) (some 19) rfl rfl (by rfl) ?_ ?_ ?_
            rotate_left; rotate_left
            · intro w' hS; go_simp; with_reducible rfl
            · simp only [Act.put, List.setIfInBounds_toArray, List.set_cons_zero, List.set_cons_succ]; rfl
            refine seq_take (v := ?_) (a' := ?_) (some 20) rfl rfl (by rfl) ?_ ?_ ?_
            rotate_left; rotate_left
            · intro w' hS; go_simp; with_reducible rfl
            · simp only [Act.put, List.setIfInBounds_toArray, List.set_cons_zero, List.set_cons_succ]; rfl
            refine seq_take (v := ?_) (a' := ?_) (some 21) rfl rfl (by rfl) ?_ ?_ ?_
            rotate_left; rotate_left
            · intro w' hS; go_simp; with_reducible rfl
            · simp only [Act.put, List.setIfInBounds_toArray, List.set_cons_zero, List.set_cons_succ]; rfl
            refine seq_take (v := ?_) (a' := ?_) (some 22) rfl rfl (by rfl) ?_ ?_ ?_
            rotate_left; rotate_left
            · intro w' hS; go_simp; with_reducible rfl
            · simp only [Act.put, List.setIfInBounds_toArray, List.set_cons_zero, List.set_cons_succ]; rfl
            refine seq_take (v := ?_) (a' := ?_) (some 23) rfl rfl (by rfl) ?_ ?_ ?_
            rotate_left; rotate_left
            · intro w' hS; go_simp; with_reducible rfl
            · simp only [Act.put, List.setIfInBounds_toArray, List.set_cons_zero, List.set_cons_succ]; rfl
            refine seq_take (v := ?_) (a' := ?_) (some 24) rfl rfl (by rfl) ?_ ?_ ?_
            rotate_left; rotate_left
            · intro w' hS; go_simp; with_reducible rfl
            · simp only [Act.put, List.setIfInBounds_toArray, List.set_cons_zero, List.set_cons_succ]; rfl
            refine seq_take (v := ?_) (a' := ?_) (some 25) rfl rfl (by rfl) ?_ ?_ ?_
            rotate_left; rotate_left
            · intro w' hS; go_simp; with_reducible rfl
            · simp only [Act.put, List.setIfInBounds_toArray, List.set_cons_zero, List.set_cons_succ]; rfl
            refine seq_take (v := ?_) (a' := ?_) (some 26) rfl rfl (by rfl) ?_ ?_ ?_
            rotate_left; rotate_left
            · intro w' hS; have p1 := Q1.out.below hS; have p2 := Q2.out.below hS; have a0 := p1.c0; have a1 := p1.c1; have a2 := p1.c2; have a3 := p1.c3; have a4 := p1.c4; have a5 := p1.c5; have a6 := p1.c6; have a7 := p1.c7; have b0 := p2.c0; have b1 := p2.c1; have b2 := p2.c2; have b3 := p2.c3; have b4 := p2.c4; have b5 := p2.c5; have b6 := p2.c6; have b7 := p2.c7; simp only at a0 a1 a2 a3 a4 a5 a6 a7 b0 b1 b2 b3 b4 b5 b6 b7; go_simp; with_reducible rfl
            · simp only [Act.put, List.setIfInBounds_toArray, List.set_cons_zero, List.set_cons_succ]; rfl
            refine seq_take (v := ?_) (a' := ?_) (some 27) rfl rfl (by rfl) ?_ ?_ ?_
            rotate_left; rotate_left
            · intro w' hS; go_simp; with_reducible rfl
            · simp only [Act.put, List.setIfInBounds_toArray, List.set_cons_zero, List.set_cons_succ]; rfl
            refine seq_take (v := ?_) (a' := ?_) (some 28) rfl rfl (by rfl) ?_ ?_ ?_
            rotate_left; rotate_left
            · intro w' hS; go_simp; with_reducible rfl
            · simp only [Act.put, List.setIfInBounds_toArray, List.set_cons_zero, List.set_cons_succ]; rfl
            refine seq_take (v := ?_) (a' := ?_) (some 29) rfl rfl (by rfl) ?_ ?_ ?_
            rotate_left; rotate_left
            · intro w' hS; go_simp; with_reducible rfl
            · simp only [Act.put, List.setIfInBounds_toArray, List.set_cons_zero, List.set_cons_succ]; rfl
            refine seq_take (v := ?_) (a' := ?_) (some 30) rfl rfl (by rfl) ?_ ?_ ?_
            rotate_left; rotate_left
            · intro w' hS; go_simp; with_reducible rfl
            · simp only [Act.put, List.setIfInBounds_toArray, List.set_cons_zero, List.set_cons_succ]; rfl
            refine seq_take (v := ?_) (a' := ?_) (some 31) rfl rfl (by rfl) ?_ ?_ ?_
            rotate_left; rotate_left
            · intro w' hS; have p1 := Q1.out.below hS; have p2 := Q2.out.below hS; have a0 := p1.c0; have a1 := p1.c1; have a2 := p1.c2; have a3 := p1.c3; have a4 := p1.c4; have a5 := p1.c5; have a6 := p1.c6; have a7 := p1.c7; have b0 := p2.c0; have b1 := p2.c1; have b2 := p2.c2; have b3 := p2.c3; have b4 := p2.c4; have b5 := p2.c5; have b6 := p2.c6; have b7 := p2.c7; simp only at a0 a1 a2 a3 a4 a5 a6 a7 b0 b1 b2 b3 b4 b5 b6 b7; go_simp; with_reducible rfl
            · simp only [Act.put, List.setIfInBounds_toArray, List.set_cons_zero, List.set_cons_succ]; rfl
            refine seq_callV (args := ?_) Try.func58 (by kernel_rfl) rfl (some 32) rfl rfl (by rfl) rfl rfl ?_ ?_
            rotate_left
            · simp only [List.map_toArray, List.map_cons, List.map_nil]; go_simp; rfl
            with_reducible refine (HC1.out _).mono ?_
            rintro e w' ⟨rfl, hb⟩
            refine ⟨_, rfl, bl_next (by repeat (first | with_reducible exact hB | refine Below.alloc ?_ (by have := hB.size; simp; omega) _ | refine bl_dN ?_ _ | refine Below.drew ?_ | refine Below.setCell ?_ (by have := hB.size; simp; omega) _)) hb, ?_⟩
            have hB := bl_next (by repeat (first | with_reducible exact hB | refine Below.alloc ?_ (by have := hB.size; simp; omega) _ | refine bl_dN ?_ _ | refine Below.drew ?_ | refine Below.setCell ?_ (by have := hB.size; simp; omega) _)) hb; clear hb
            simp only [Act.put, List.setIfInBounds_toArray, List.set_cons_zero, List.set_cons_succ]
            refine seq_take (v := ?_) (a' := ?_) (some 33) rfl rfl (by rfl) ?_ ?_ ?_
            rotate_left; rotate_left
            · intro w' hS; go_simp; with_reducible rfl
            · simp only [Act.put, List.setIfInBounds_toArray, List.set_cons_zero, List.set_cons_succ]; rfl
            refine seq_take (v := ?_) (a' := ?_) (some 34) rfl rfl (by rfl) ?_ ?_ ?_
            rotate_left; rotate_left
            · intro w' hS; go_simp; with_reducible rfl
            · simp only [Act.put, List.setIfInBounds_toArray, List.set_cons_zero, List.set_cons_succ]; rfl
            refine seq_done ?_
            have HSV := Lib.hid (HSW.out.read hB)
            rw [← HDK.out] at HSV
            go_wp2_with fail
            go_roundw
            case rel =>
              refine ⟨i + 1, _, by simp, by omega, by omega, Lib.hid (OUT.out _ HSV.out (fun y h1 h2 => ?_))⟩
              rcases Nat.lt_or_ge y (j - 1) with z | z
              · exact toB.le_tr (HD.out.2.1 y (j - 1) h1 z (by omega)) HLT.out
              · obtain rfl : y = j - 1 := by omega
                exact HLT.out
            case measure => simp [intOf]; omega
        · obtain rfl : j = a := by omega
          have hjI : ¬ (j : Int) < j := by omega
          have hk6 : decide (j < j) = false := decide_eq_false (by omega)
          have hB := Below.refl V.heap.size V
          go_upto_region 4 with fail
          have hB := hB.drew
          refine region_seq (fun w' => Below V.heap.size V w') [(0, true), (1, true), (2, true), (3, true), (4, true), (5, true), (6, true), (7, true), (8, true), (9, true), (10, true), (11, true), (12, true), (13, true), (14, false), (15, true), (16, true)] (by kernel_rfl) (by kernel_rfl) (fun _ _ _ _ h => h) hB ?_
          try generalize World.drew _ = wS at hB ⊢
          refine seq_take (v := ?_) (a' := ?_) (some 18) rfl rfl (by rfl) ?_ ?_ ?_
          rotate_left; rotate_left
          · intro w' hS; go_simp; with_reducible rfl
          · simp only [Act.put, List.setIfInBounds_toArray, List.set_cons_zero, List.set_cons_succ]; rfl
          refine seq_take (v := ?_) (a' := ?_) (some 19) rfl rfl (by rfl) ?_ ?_ ?_
          rotate_left; rotate_left
          · intro w' hS; go_simp; with_reducible rfl
          · simp only [Act.put, List.setIfInBounds_toArray, List.set_cons_zero, List.set_cons_succ]; rfl
          refine seq_take (v := ?_) (a' := ?_) (some 20) rfl rfl (by rfl) ?_ ?_ ?_
          rotate_left; rotate_left
          · intro w' hS; go_simp; with_reducible rfl
          · simp only [Act.put, List.setIfInBounds_toArray, List.set_cons_zero, List.set_cons_succ]; rfl
          refine seq_take (v := ?_) (a' := ?_) (some 21) rfl rfl (by rfl) ?_ ?_ ?_
          rotate_left; rotate_left
          · intro w' hS; go_simp; with_reducible rfl
          · simp only [Act.put, List.setIfInBounds_toArray, List.set_cons_zero, List.set_cons_succ]; rfl
          refine seq_skip (a' := ?_) (some 22) rfl rfl (by rfl) ?_ ?_
          rotate_left
          · simp only [Act.put, List.setIfInBounds_toArray, List.set_cons_zero, List.set_cons_succ]; rfl
          refine seq_skip (a' := ?_) (some 23) rfl rfl (by rfl) ?_ ?_
          rotate_left
          · simp only [Act.put, List.setIfInBounds_toArray, List.set_cons_zero, List.set_cons_succ]; rfl
          refine seq_skip (a' := ?_) (some 24) rfl rfl (by rfl) ?_ ?_
          rotate_left
          · simp only [Act.put, List.setIfInBounds_toArray, List.set_cons_zero, List.set_cons_succ]; rfl
          refine seq_skip (a' := ?_) (some 25) rfl rfl (by rfl) ?_ ?_
          rotate_left
          · simp only [Act.put, List.setIfInBounds_toArray, List.set_cons_zero, List.set_cons_succ]; rfl
          refine seq_skip (a' := ?_) (some 26) rfl rfl (by rfl) ?_ ?_
          rotate_left
          · simp only [Act.put, List.setIfInBounds_toArray, List.set_cons_zero, List.set_cons_succ]; rfl
          refine seq_skip (a' := ?_) (some 27) rfl rfl (by rfl) ?_ ?_
          rotate_left
          · simp only [Act.put, List.setIfInBounds_toArray, List.set_cons_zero, List.set_cons_succ]; rfl
          refine seq_skip (a' := ?_) (some 28) rfl rfl (by rfl) ?_ ?_
          rotate_left
          · simp only [Act.put, List.setIfInBounds_toArray, List.set_cons_zero, List.set_cons_succ]; rfl
          refine seq_skip (a' := ?_) (some 29) rfl rfl (by rfl) ?_ ?_
          rotate_left
          · simp only [Act.put, List.setIfInBounds_toArray, List.set_cons_zero, List.set_cons_succ]; rfl
          refine seq_skip (a' := ?_) (some 30) rfl rfl (by rfl) ?_ ?_
          rotate_left
          · simp only [Act.put, List.setIfInBounds_toArray, List.set_cons_zero, List.set_cons_succ]; rfl
          refine seq_skip (a' := ?_) (some 31) rfl rfl (by rfl) ?_ ?_
          rotate_left
          · simp only [Act.put, List.setIfInBounds_toArray, List.set_cons_zero, List.set_cons_succ]; rfl
          refine seq_skip1 (a' := ?_) (some 32) rfl rfl (by rfl) ?_ hB ?_
          rotate_left
          · simp only [Act.put, List.setIfInBounds_toArray, List.set_cons_zero, List.set_cons_succ]; rfl
          refine seq_skip (a' := ?_) (some 33) rfl rfl (by rfl) ?_ ?_
          rotate_left
          · simp only [Act.put, List.setIfInBounds_toArray, List.set_cons_zero, List.set_cons_succ]; rfl
          refine seq_take (v := ?_) (a' := ?_) (some 34) rfl rfl (by rfl) ?_ ?_ ?_
          rotate_left; rotate_left
          · intro w' hS; go_simp; with_reducible rfl
          · simp only [Act.put, List.setIfInBounds_toArray, List.set_cons_zero, List.set_cons_succ]; rfl
          refine seq_done ?_
          have HSV := Lib.hid (HSW.out.read hB)
          go_wp2_with fail
          go_roundw
          case rel => exact ⟨i + 1, _, by simp, by omega, by omega, Lib.hid (OUT.out _ HSV.out (fun y h1 h2 => by omega))⟩
          case measure => simp [intOf]; omega
    · go_wp2_with fail
      go_end0
      exact ⟨rfl, d1, HD.out.1, srt_sub HD.out.2.1 (Nat.le_refl _) (by omega), HD.out.2.2.1, HD.out.2.2.2⟩
end Go.Proofs.Ythhfcambdmdgfaa
