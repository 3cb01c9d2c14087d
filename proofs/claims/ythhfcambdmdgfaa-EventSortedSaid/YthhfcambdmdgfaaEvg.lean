import Derived.Test.YthhfcambdmdgfaaEvf
namespace Go.Proofs.Ythhfcambdmdgfaa
open Go.RowKit Go.Maps
set_option linter.unusedVariables false
set_option linter.unusedSimpArgs false
def OwnO (w : World) (o : ObjD) (e : Ending) (w' : World) : Prop := ∃ g, e = .returned (.agg #[.string o.key.kind, .string o.key.space, .string o.key.name, .int .i64 o.ver, .string o.cls, .bool o.term, .bool o.best, .slice (some ⟨g, 0, none⟩) o.charge.length o.charge.length]) ∧ Hid (ResF w' w.heap.size (.slice (some ⟨g, 0, none⟩) o.charge.length o.charge.length) o.charge) ∧ Below w.heap.size w w'
theorem ownO_calls (w : World) {sl : Value} {o : ObjD} (h : ObjS w sl o) (hs : objSmall o) : Calls Try.prog 56 #[objV o sl] w (OwnO w o) :=
  (own_calls w h (by have := hs.2.2.1; omega)).mono fun e w' ⟨x, he, hx, hb⟩ => by
    obtain ⟨g, rfl⟩ := hx.form
    exact ⟨g, he, Lib.hid hx, hb⟩
def OwnE (w : World) (kd : Int) (o : ObjD) (vr : Int) (xs : List OX) (e : Ending) (w' : World) : Prop := ∃ x ov ys, e = .returned (evV kd o x vr ov) ∧ ResF w' w.heap.size x o.charge ∧ ObjsF w' w.heap.size ov ys ∧ oxs ys = oxs xs ∧ Below w.heap.size w w'
theorem oIn_of {w : World} {v : Value} {xs ys : List OX} (h : ObjsS w v xs) (e : oxs ys = oxs xs) : ∀ p ∈ ys, oIn p.1 := by
  intro p hp
  have hm : p.1 ∈ oxs xs := by rw [← e]; exact List.mem_map.2 ⟨p, hp, rfl⟩
  obtain ⟨q, hq, hqe⟩ := List.mem_map.1 hm
  rw [← hqe]; exact (h.2 q hq).oIn
set_option maxRecDepth 100000 in
set_option maxHeartbeats 16000000 in
theorem evown_calls (w : World) (kd : Int) {o : ObjD} {sl : Value} (vr : Int) {ol : Value} {xs : List OX} (ho : ObjS w sl o) (hs : objSmall o) (hx : ObjsS w ol xs) (hxs : OSmall (oxs xs)) (hl : xs.length ≤ 1000000) :
    Calls Try.prog 17 #[evV kd o sl vr ol] w (OwnE w kd o vr xs) := by
  have HO := Lib.hid ho; have HX := Lib.hid hx; have HSM := Lib.hid hxs; have HS := Lib.hid hs
  obtain ⟨ao, co, rfl⟩ := ho.1.form
  obtain ⟨al, cl, rfl⟩ := hx.form
  have HC := Lib.hid (fun (U : World) (h : Below w.heap.size w U) => ownO_calls U (HO.out.below h) HS.out)
  clear ho hx hxs hs
  unfold objV at HC
  unfold evV
  go_enter Try.func17, Try.ntmps17
  go_upto_region 1 with fail
  first | with_reducible refine name_wp ?_ | with_reducible refine name_calls ?_
  intro W hWeq
  have g0 : W.heap[w.heap.size]? = some (.cells #[.int .i64 kd, .string o.key.kind, .string o.key.space, .string o.key.name, .int .i64 o.ver, .string o.cls, .bool o.term, .bool o.best, .slice ao o.charge.length co, .int .i64 vr, .slice al xs.length cl] 30) := by rw [hWeq]; repeat (first | (with_reducible exact blk_newAt _ _ (by simp)) | with_reducible refine blk_drew ?_ | with_reducible refine blk_dN ?_ _ | with_reducible refine blk_old ?_ _)
  have g1 : W.heap[w.heap.size + 1]? = some (.cells #[.int .i64 0, .string ⟨#[]⟩, .string ⟨#[]⟩, .string ⟨#[]⟩, .int .i64 0, .string ⟨#[]⟩, .bool false, .bool false, .slice none 0 0, .int .i64 0, .slice none 0 0] 30) := by rw [hWeq]; repeat (first | (with_reducible exact blk_newAt _ _ (by simp)) | with_reducible refine blk_drew ?_ | with_reducible refine blk_dN ?_ _ | with_reducible refine blk_old ?_ _)
  have hw : Below w.heap.size w W := by rw [hWeq]; repeat (first | with_reducible exact Below.refl _ _ | with_reducible refine Below.drew ?_ | with_reducible refine bl_dN ?_ _ | with_reducible refine Below.alloc ?_ (by simp <;> omega) _)
  clear hWeq
  have hz : w.heap.size + 2 ≤ W.heap.size := by have := blk_lt g1; omega
  have c0_0 : W.cell? ⟨w.heap.size, 0, none⟩ = some (.int .i64 kd) := blk_cell g0 0
  have c0_1 : W.cell? ⟨w.heap.size, 1, none⟩ = some (.string o.key.kind) := blk_cell g0 1
  have c0_2 : W.cell? ⟨w.heap.size, 2, none⟩ = some (.string o.key.space) := blk_cell g0 2
  have c0_3 : W.cell? ⟨w.heap.size, 3, none⟩ = some (.string o.key.name) := blk_cell g0 3
  have c0_4 : W.cell? ⟨w.heap.size, 4, none⟩ = some (.int .i64 o.ver) := blk_cell g0 4
  have c0_5 : W.cell? ⟨w.heap.size, 5, none⟩ = some (.string o.cls) := blk_cell g0 5
  have c0_6 : W.cell? ⟨w.heap.size, 6, none⟩ = some (.bool o.term) := blk_cell g0 6
  have c0_7 : W.cell? ⟨w.heap.size, 7, none⟩ = some (.bool o.best) := blk_cell g0 7
  have c0_8 : W.cell? ⟨w.heap.size, 8, none⟩ = some (.slice ao o.charge.length co) := blk_cell g0 8
  have c0_9 : W.cell? ⟨w.heap.size, 9, none⟩ = some (.int .i64 vr) := blk_cell g0 9
  have c0_10 : W.cell? ⟨w.heap.size, 10, none⟩ = some (.slice al xs.length cl) := blk_cell g0 10
  have f0 : ∀ j, W.frozen? ⟨w.heap.size, j, none⟩ = false := blk_free g0
  have c1_0 : W.cell? ⟨w.heap.size + 1, 0, none⟩ = some (.int .i64 0) := blk_cell g1 0
  have c1_1 : W.cell? ⟨w.heap.size + 1, 1, none⟩ = some (.string ⟨#[]⟩) := blk_cell g1 1
  have c1_2 : W.cell? ⟨w.heap.size + 1, 2, none⟩ = some (.string ⟨#[]⟩) := blk_cell g1 2
  have c1_3 : W.cell? ⟨w.heap.size + 1, 3, none⟩ = some (.string ⟨#[]⟩) := blk_cell g1 3
  have c1_4 : W.cell? ⟨w.heap.size + 1, 4, none⟩ = some (.int .i64 0) := blk_cell g1 4
  have c1_5 : W.cell? ⟨w.heap.size + 1, 5, none⟩ = some (.string ⟨#[]⟩) := blk_cell g1 5
  have c1_6 : W.cell? ⟨w.heap.size + 1, 6, none⟩ = some (.bool false) := blk_cell g1 6
  have c1_7 : W.cell? ⟨w.heap.size + 1, 7, none⟩ = some (.bool false) := blk_cell g1 7
  have c1_8 : W.cell? ⟨w.heap.size + 1, 8, none⟩ = some (.slice none 0 0) := blk_cell g1 8
  have c1_9 : W.cell? ⟨w.heap.size + 1, 9, none⟩ = some (.int .i64 0) := blk_cell g1 9
  have c1_10 : W.cell? ⟨w.heap.size + 1, 10, none⟩ = some (.slice none 0 0) := blk_cell g1 10
  have f1 : ∀ j, W.frozen? ⟨w.heap.size + 1, j, none⟩ = false := blk_free g1
  have hB : Below W.heap.size W W := Below.refl _ _
  have G0 := Lib.hid g0; clear g0
  have F0 := Lib.hid f0; clear f0
  have G1 := Lib.hid g1; clear g1
  have F1 := Lib.hid f1; clear f1
  have Hw := Lib.hid hw; clear hw
  have HWX := Lib.hid (HX.out.below Hw.out)
  have G0' := G0; have G1' := G1
  go_upto_region 2 with (go_at_call 56; refine (HC.out _ Hw.out).mono ?_; rintro e w1 ⟨g, rfl, HF, hb⟩; have HB1 := Lib.hid hb; have k0_0 := cb hb c0_0; have kf0_0 := fb hb (lt_of_cell c0_0) (F0.out 0); have k0_1 := cb hb c0_1; have kf0_1 := fb hb (lt_of_cell c0_1) (F0.out 1); have k0_2 := cb hb c0_2; have kf0_2 := fb hb (lt_of_cell c0_2) (F0.out 2); have k0_3 := cb hb c0_3; have kf0_3 := fb hb (lt_of_cell c0_3) (F0.out 3); have k0_4 := cb hb c0_4; have kf0_4 := fb hb (lt_of_cell c0_4) (F0.out 4); have k0_5 := cb hb c0_5; have kf0_5 := fb hb (lt_of_cell c0_5) (F0.out 5); have k0_6 := cb hb c0_6; have kf0_6 := fb hb (lt_of_cell c0_6) (F0.out 6); have k0_7 := cb hb c0_7; have kf0_7 := fb hb (lt_of_cell c0_7) (F0.out 7); have k0_8 := cb hb c0_8; have kf0_8 := fb hb (lt_of_cell c0_8) (F0.out 8); have k0_9 := cb hb c0_9; have kf0_9 := fb hb (lt_of_cell c0_9) (F0.out 9); have k0_10 := cb hb c0_10; have kf0_10 := fb hb (lt_of_cell c0_10) (F0.out 10); have k1_0 := cb hb c1_0; have kf1_0 := fb hb (lt_of_cell c1_0) (F1.out 0); have k1_1 := cb hb c1_1; have kf1_1 := fb hb (lt_of_cell c1_1) (F1.out 1); have k1_2 := cb hb c1_2; have kf1_2 := fb hb (lt_of_cell c1_2) (F1.out 2); have k1_3 := cb hb c1_3; have kf1_3 := fb hb (lt_of_cell c1_3) (F1.out 3); have k1_4 := cb hb c1_4; have kf1_4 := fb hb (lt_of_cell c1_4) (F1.out 4); have k1_5 := cb hb c1_5; have kf1_5 := fb hb (lt_of_cell c1_5) (F1.out 5); have k1_6 := cb hb c1_6; have kf1_6 := fb hb (lt_of_cell c1_6) (F1.out 6); have k1_7 := cb hb c1_7; have kf1_7 := fb hb (lt_of_cell c1_7) (F1.out 7); have k1_8 := cb hb c1_8; have kf1_8 := fb hb (lt_of_cell c1_8) (F1.out 8); have k1_9 := cb hb c1_9; have kf1_9 := fb hb (lt_of_cell c1_9) (F1.out 9); have k1_10 := cb hb c1_10; have kf1_10 := fb hb (lt_of_cell c1_10) (F1.out 10); clear hB hb)
  first | with_reducible refine name_wp ?_ | with_reducible refine name_calls ?_
  intro U hU
  have hkU : Kept (fun k => k = w.heap.size) w1 U := by
    rw [hU]
    repeat (refine Kept.setCell ?_ _ _ (.inl rfl))
    exact Kept.refl _ _
  have u0_0 : U.cell? ⟨w.heap.size, 0, none⟩ = some (.int .i64 kd) := by rw [hU]; go_simp
  have u0_1 : U.cell? ⟨w.heap.size, 1, none⟩ = some (.string o.key.kind) := by rw [hU]; go_simp
  have u0_2 : U.cell? ⟨w.heap.size, 2, none⟩ = some (.string o.key.space) := by rw [hU]; go_simp
  have u0_3 : U.cell? ⟨w.heap.size, 3, none⟩ = some (.string o.key.name) := by rw [hU]; go_simp
  have u0_4 : U.cell? ⟨w.heap.size, 4, none⟩ = some (.int .i64 o.ver) := by rw [hU]; go_simp
  have u0_5 : U.cell? ⟨w.heap.size, 5, none⟩ = some (.string o.cls) := by rw [hU]; go_simp
  have u0_6 : U.cell? ⟨w.heap.size, 6, none⟩ = some (.bool o.term) := by rw [hU]; go_simp
  have u0_7 : U.cell? ⟨w.heap.size, 7, none⟩ = some (.bool o.best) := by rw [hU]; go_simp
  have u0_8 : U.cell? ⟨w.heap.size, 8, none⟩ = some (.slice (some ⟨g, 0, none⟩) o.charge.length o.charge.length) := by rw [hU]; go_simp
  have u0_9 : U.cell? ⟨w.heap.size, 9, none⟩ = some (.int .i64 vr) := by rw [hU]; go_simp
  have u0_10 : U.cell? ⟨w.heap.size, 10, none⟩ = some (.slice al xs.length cl) := by rw [hU]; go_simp
  have u1_0 : U.cell? ⟨w.heap.size + 1, 0, none⟩ = some (.int .i64 0) := by rw [hU]; go_simp
  have u1_1 : U.cell? ⟨w.heap.size + 1, 1, none⟩ = some (.string ⟨#[]⟩) := by rw [hU]; go_simp
  have u1_2 : U.cell? ⟨w.heap.size + 1, 2, none⟩ = some (.string ⟨#[]⟩) := by rw [hU]; go_simp
  have u1_3 : U.cell? ⟨w.heap.size + 1, 3, none⟩ = some (.string ⟨#[]⟩) := by rw [hU]; go_simp
  have u1_4 : U.cell? ⟨w.heap.size + 1, 4, none⟩ = some (.int .i64 0) := by rw [hU]; go_simp
  have u1_5 : U.cell? ⟨w.heap.size + 1, 5, none⟩ = some (.string ⟨#[]⟩) := by rw [hU]; go_simp
  have u1_6 : U.cell? ⟨w.heap.size + 1, 6, none⟩ = some (.bool false) := by rw [hU]; go_simp
  have u1_7 : U.cell? ⟨w.heap.size + 1, 7, none⟩ = some (.bool false) := by rw [hU]; go_simp
  have u1_8 : U.cell? ⟨w.heap.size + 1, 8, none⟩ = some (.slice none 0 0) := by rw [hU]; go_simp
  have u1_9 : U.cell? ⟨w.heap.size + 1, 9, none⟩ = some (.int .i64 0) := by rw [hU]; go_simp
  have u1_10 : U.cell? ⟨w.heap.size + 1, 10, none⟩ = some (.slice none 0 0) := by rw [hU]; go_simp
  have uf0_0 : U.frozen? ⟨w.heap.size, 0, none⟩ = false := by rw [hU]; go_simp
  have uf0_1 : U.frozen? ⟨w.heap.size, 1, none⟩ = false := by rw [hU]; go_simp
  have uf0_2 : U.frozen? ⟨w.heap.size, 2, none⟩ = false := by rw [hU]; go_simp
  have uf0_3 : U.frozen? ⟨w.heap.size, 3, none⟩ = false := by rw [hU]; go_simp
  have uf0_4 : U.frozen? ⟨w.heap.size, 4, none⟩ = false := by rw [hU]; go_simp
  have uf0_5 : U.frozen? ⟨w.heap.size, 5, none⟩ = false := by rw [hU]; go_simp
  have uf0_6 : U.frozen? ⟨w.heap.size, 6, none⟩ = false := by rw [hU]; go_simp
  have uf0_7 : U.frozen? ⟨w.heap.size, 7, none⟩ = false := by rw [hU]; go_simp
  have uf0_8 : U.frozen? ⟨w.heap.size, 8, none⟩ = false := by rw [hU]; go_simp
  have uf0_9 : U.frozen? ⟨w.heap.size, 9, none⟩ = false := by rw [hU]; go_simp
  have uf0_10 : U.frozen? ⟨w.heap.size, 10, none⟩ = false := by rw [hU]; go_simp
  have uf1_0 : U.frozen? ⟨w.heap.size + 1, 0, none⟩ = false := by rw [hU]; go_simp
  have uf1_1 : U.frozen? ⟨w.heap.size + 1, 1, none⟩ = false := by rw [hU]; go_simp
  have uf1_2 : U.frozen? ⟨w.heap.size + 1, 2, none⟩ = false := by rw [hU]; go_simp
  have uf1_3 : U.frozen? ⟨w.heap.size + 1, 3, none⟩ = false := by rw [hU]; go_simp
  have uf1_4 : U.frozen? ⟨w.heap.size + 1, 4, none⟩ = false := by rw [hU]; go_simp
  have uf1_5 : U.frozen? ⟨w.heap.size + 1, 5, none⟩ = false := by rw [hU]; go_simp
  have uf1_6 : U.frozen? ⟨w.heap.size + 1, 6, none⟩ = false := by rw [hU]; go_simp
  have uf1_7 : U.frozen? ⟨w.heap.size + 1, 7, none⟩ = false := by rw [hU]; go_simp
  have uf1_8 : U.frozen? ⟨w.heap.size + 1, 8, none⟩ = false := by rw [hU]; go_simp
  have uf1_9 : U.frozen? ⟨w.heap.size + 1, 9, none⟩ = false := by rw [hU]; go_simp
  have uf1_10 : U.frozen? ⟨w.heap.size + 1, 10, none⟩ = false := by rw [hU]; go_simp
  have HT0 : Hid (TyB U w.heap.size 30) := Lib.hid (by
    rw [hU]
    iterate 8 (refine TyB.set ?_ _ _ _)
    exact TyB.below (w := W) ⟨_, G0'.out⟩ HB1.out)
  have HT1 : Hid (TyB U (w.heap.size + 1) 30) := Lib.hid (by
    rw [hU]
    iterate 8 (refine TyB.set ?_ _ _ _)
    exact TyB.below (w := W) ⟨_, G1'.out⟩ HB1.out)
  clear hU k0_0 kf0_0 k0_1 kf0_1 k0_2 kf0_2 k0_3 kf0_3 k0_4 kf0_4 k0_5 kf0_5 k0_6 kf0_6 k0_7 kf0_7 k0_8 kf0_8 k0_9 kf0_9 k0_10 kf0_10 k1_0 kf1_0 k1_1 kf1_1 k1_2 kf1_2 k1_3 kf1_3 k1_4 kf1_4 k1_5 kf1_5 k1_6 kf1_6 k1_7 kf1_7 k1_8 kf1_8 k1_9 kf1_9 k1_10 kf1_10
  have hw1 : w.heap.size ≤ w1.heap.size := Nat.le_trans Hw.out.size HB1.out.size
  have hbU : Below w.heap.size w U := (bl_from Hw.out HB1.out).trans (hkU.below hw1 (fun k e => by rw [e]; exact Nat.le_refl _))
  have hWU : Below w.heap.size W U := (HB1.out.mono Hw.out.size).trans (hkU.below hw1 (fun k e => by rw [e]; exact Nat.le_refl _))
  have HFU := Lib.hid (HF.out.kept hkU (fun k e c hc => by rw [e, blk_below G0'.out HB1.out] at hc; cases hc))
  have HWs := Lib.hid (show w.heap.size ≤ W.heap.size from Hw.out.size)
  have HX2 := Lib.hid (HX.out.below hbU)
  have HBU := Lib.hid hbU
  have hz0 := lt_of_cell u0_0; have hz1 := lt_of_cell u1_0
  simp only at hz0 hz1
  clear hkU hw1 hbU hWU HF HB1
  have HNIL := Lib.hid (objsF_nil U U.heap.size)
  go_wp2_with fail
  go_loopw [3, 13] (fun s i wr => ∃ (k : Nat) (A : Option Addr) (c : Nat) (ys : List OX), i = .int .i64 k ∧ k ≤ xs.length ∧ s = .slice A k c ∧ Hid (ys.length = k ∧ ObjsF wr U.heap.size (.slice A k c) ys ∧ oxs ys = (oxs xs).take k) ∧ Hid (Below U.heap.size U wr)) (fun _ i _ => xs.length - (intOf i).toNat)
  case atStart => exact ⟨0, none, 0, [], rfl, Nat.zero_le _, rfl, Lib.hid ⟨rfl, HNIL.out, rfl⟩, Lib.hid (Below.refl _ _)⟩
  case round =>
    obtain ⟨k, av, cv, ys, rfl, hk, rfl, HY, HBr⟩ := hrel
    by_cases hkl : k < xs.length
    · have hkI : (k : Int) < xs.length := by omega
      obtain ⟨b, of, c, he, q, s⟩ := HX2.out.at' hkl
      cases he
      have z := small_at HSM.out hkl
      have HT := Lib.hid (oxs_take hkl)
      generalize xs[k]'hkl = x at q s z HT
      obtain ⟨x, sx⟩ := x
      simp only at s z HT
      obtain ⟨ax, cx, rfl⟩ := s.1.form
      obtain ⟨V, rfl⟩ : ∃ V : World, V = wr := ⟨_, rfl⟩
      have q := q.below HBr.out
      have d0 := q.c0; have d1 := q.c1; have d2 := q.c2; have d3 := q.c3; have d4 := q.c4; have d5 := q.c5; have d6 := q.c6; have d7 := q.c7
      simp only at d0 d1 d2 d3 d4 d5 d6 d7
      have HSX := Lib.hid (s.below HBr.out)
      clear q s
      go_upto_region 6 with fail
      first | with_reducible refine name_wp ?_ | with_reducible refine name_calls ?_
      intro V1 hU
      have hw9 : Below V.heap.size V V1 := by rw [hU]; exact (Below.refl V.heap.size V).alloc (Nat.le_refl _) _
      clear d0 d1 d2 d3 d4 d5 d6 d7
      have gA : V1.heap[V.heap.size]? = some (.cells #[.string x.key.kind, .string x.key.space, .string x.key.name, .int .i64 x.ver, .string x.cls, .bool x.term, .bool x.best, .slice ax x.charge.length cx] 27) := by rw [hU]; exact blk_new V _
      clear hU
      have a0 := blk_cell gA 0; have a1 := blk_cell gA 1; have a2 := blk_cell gA 2; have a3 := blk_cell gA 3; have a4 := blk_cell gA 4; have a5 := blk_cell gA 5; have a6 := blk_cell gA 6; have a7 := blk_cell gA 7
      clear gA
      have HC2 := Lib.hid (ownO_calls V1 (HSX.out.below hw9) z)
      unfold objV at HC2
      have HBV := Lib.hid (bl_next HBr.out hw9)
      have HY1 := Lib.hid (HY.out.2.1.below hw9)
      have HYE := Lib.hid (And.intro HY.out.1 HY.out.2.2)
      have hyl : ys.length ≤ 1000000 := by have := HY.out.1; omega
      clear hw9 z HY HSX
      go_wp2_with (first | (go_at_call 56; refine HC2.out.mono ?_; rintro e w2 ⟨gx, rfl, HF, hb⟩; have HY2 := Lib.hid (HY1.out.below hb); have HB2 := Lib.hid (bl_next HBV.out hb); clear hb) | (at_builtin; refine app_obj rfl (.tmp 17) (.tmp 20) rfl U.heap.size _ (.slice av k cv) ys (x, .slice (some ⟨gx, 0, none⟩) x.charge.length x.charge.length) _ _ _ rfl rfl HY2.out.1 1 rfl HB2.out.size (by omega) ?_; intro g3 cap w3 hown' hk'; have HN := Lib.hid (ObjsF.snoc (p := (x, .slice (some ⟨gx, 0, none⟩) x.charge.length x.charge.length)) HY2.out (HF.out.mono HBV.out.size) hown' hk'); have HB3 := Lib.hid (HB2.out.trans (row_below HY2.out.1 hk' HB2.out.size)); clear hown' hk'))
      go_roundw
      case rel => exact ⟨k + 1, _, cap, ys ++ [_], by simp, by omega, by rw [HYE.out.1], Lib.hid ⟨by simp [HYE.out.1], by rw [HYE.out.1] at HN; exact HN.out, by rw [HT.out, ← HYE.out.2]; simp [oxs]⟩, HB3⟩
      case measure => simp [intOf]; omega
    · obtain rfl : k = xs.length := by omega
      obtain ⟨V, rfl⟩ : ∃ V : World, V = wr := ⟨_, rfl⟩
      have k0_0 := cb HBr.out u0_0; have kf0_0 := fb HBr.out (lt_of_cell u0_0) uf0_0
      have k0_1 := cb HBr.out u0_1; have kf0_1 := fb HBr.out (lt_of_cell u0_1) uf0_1
      have k0_2 := cb HBr.out u0_2; have kf0_2 := fb HBr.out (lt_of_cell u0_2) uf0_2
      have k0_3 := cb HBr.out u0_3; have kf0_3 := fb HBr.out (lt_of_cell u0_3) uf0_3
      have k0_4 := cb HBr.out u0_4; have kf0_4 := fb HBr.out (lt_of_cell u0_4) uf0_4
      have k0_5 := cb HBr.out u0_5; have kf0_5 := fb HBr.out (lt_of_cell u0_5) uf0_5
      have k0_6 := cb HBr.out u0_6; have kf0_6 := fb HBr.out (lt_of_cell u0_6) uf0_6
      have k0_7 := cb HBr.out u0_7; have kf0_7 := fb HBr.out (lt_of_cell u0_7) uf0_7
      have k0_8 := cb HBr.out u0_8; have kf0_8 := fb HBr.out (lt_of_cell u0_8) uf0_8
      have k0_9 := cb HBr.out u0_9; have kf0_9 := fb HBr.out (lt_of_cell u0_9) uf0_9
      have k0_10 := cb HBr.out u0_10; have kf0_10 := fb HBr.out (lt_of_cell u0_10) uf0_10
      have k1_0 := cb HBr.out u1_0; have kf1_0 := fb HBr.out (lt_of_cell u1_0) uf1_0
      have k1_1 := cb HBr.out u1_1; have kf1_1 := fb HBr.out (lt_of_cell u1_1) uf1_1
      have k1_2 := cb HBr.out u1_2; have kf1_2 := fb HBr.out (lt_of_cell u1_2) uf1_2
      have k1_3 := cb HBr.out u1_3; have kf1_3 := fb HBr.out (lt_of_cell u1_3) uf1_3
      have k1_4 := cb HBr.out u1_4; have kf1_4 := fb HBr.out (lt_of_cell u1_4) uf1_4
      have k1_5 := cb HBr.out u1_5; have kf1_5 := fb HBr.out (lt_of_cell u1_5) uf1_5
      have k1_6 := cb HBr.out u1_6; have kf1_6 := fb HBr.out (lt_of_cell u1_6) uf1_6
      have k1_7 := cb HBr.out u1_7; have kf1_7 := fb HBr.out (lt_of_cell u1_7) uf1_7
      have k1_8 := cb HBr.out u1_8; have kf1_8 := fb HBr.out (lt_of_cell u1_8) uf1_8
      have k1_9 := cb HBr.out u1_9; have kf1_9 := fb HBr.out (lt_of_cell u1_9) uf1_9
      have k1_10 := cb HBr.out u1_10; have kf1_10 := fb HBr.out (lt_of_cell u1_10) uf1_10
      have HALL := Lib.hid (show oxs ys = oxs xs by rw [HY.out.2.2, ← oxs_len xs, List.take_length])
      have HFV := Lib.hid (HFU.out.below HBr.out)
      have hVw := Nat.le_trans HBU.out.size HBr.out.size
      go_wp2_with fail
      refine name_body ?_
      intro Z hZ
      have hkZ : Kept (fun k => k = w.heap.size ∨ k = w.heap.size + 1) V Z := by
        rw [hZ]
        repeat (refine Kept.setCell ?_ _ _ (.inl (by first | exact .inl rfl | exact .inr rfl)))
        exact Kept.refl _ _
      have r0 : Z.cell? ⟨w.heap.size + 1, 0, none⟩ = some (.int .i64 kd) := by rw [hZ]; go_simp
      have r1 : Z.cell? ⟨w.heap.size + 1, 1, none⟩ = some (.string o.key.kind) := by rw [hZ]; go_simp
      have r2 : Z.cell? ⟨w.heap.size + 1, 2, none⟩ = some (.string o.key.space) := by rw [hZ]; go_simp
      have r3 : Z.cell? ⟨w.heap.size + 1, 3, none⟩ = some (.string o.key.name) := by rw [hZ]; go_simp
      have r4 : Z.cell? ⟨w.heap.size + 1, 4, none⟩ = some (.int .i64 o.ver) := by rw [hZ]; go_simp
      have r5 : Z.cell? ⟨w.heap.size + 1, 5, none⟩ = some (.string o.cls) := by rw [hZ]; go_simp
      have r6 : Z.cell? ⟨w.heap.size + 1, 6, none⟩ = some (.bool o.term) := by rw [hZ]; go_simp
      have r7 : Z.cell? ⟨w.heap.size + 1, 7, none⟩ = some (.bool o.best) := by rw [hZ]; go_simp
      have r8 : Z.cell? ⟨w.heap.size + 1, 8, none⟩ = some (.slice (some ⟨g, 0, none⟩) o.charge.length o.charge.length) := by rw [hZ]; go_simp
      have r9 : Z.cell? ⟨w.heap.size + 1, 9, none⟩ = some (.int .i64 vr) := by rw [hZ]; go_simp
      have r10 : Z.cell? ⟨w.heap.size + 1, 10, none⟩ = some (.slice av xs.length cv) := by rw [hZ]; go_simp
      clear hZ
      refine bodyPost_ret (v := .agg #[.int .i64 kd, .string o.key.kind, .string o.key.space, .string o.key.name, .int .i64 o.ver, .string o.cls, .bool o.term, .bool o.best, .slice (some ⟨g, 0, none⟩) o.charge.length o.charge.length, .int .i64 vr, .slice av xs.length cv])
        (by simp [results, Try.results17, go_sem, r0, r1, r2, r3, r4, r5, r6, r7, r8, r9, r10]) rfl ⟨.slice (some ⟨g, 0, none⟩) o.charge.length o.charge.length, .slice av xs.length cv, ys, rfl, ?_, ?_, HALL.out, ?_⟩
      · exact (HFV.out.mono HWs.out).kept hkZ (fun k q c hc => by
          rcases q with rfl | rfl
          · exact (HT0.out.below HBr.out).ne hc (by decide)
          · exact (HT1.out.below HBr.out).ne hc (by decide))
      · have h9 := HY.out.2.1
        refine ObjsF.mono (b := U.heap.size) (h9.kept hkZ (fun k q r => ?_) (fun k q c hc => ?_)) HBU.out.size
        · have := (rw_type h9.1 q).1
          rcases r with rfl | rfl <;> omega
        · rcases q with rfl | rfl
          · exact (HT0.out.below HBr.out).ne hc (by decide)
          · exact (HT1.out.below HBr.out).ne hc (by decide)
      · exact (HBU.out.trans (HBr.out.mono HBU.out.size)).trans (hkZ.below hVw (fun k q => by rcases q with rfl | rfl <;> omega))
end Go.Proofs.Ythhfcambdmdgfaa
