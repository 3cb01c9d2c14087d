import Derived.Test.YthhfcambdmdgfaaEvi
namespace Go.Proofs.Ythhfcambdmdgfaa
open Go.RowKit Go.Maps
set_option linter.unusedVariables false
set_option linter.unusedSimpArgs false
theorem objsS_sorted {w w' : World} {b n : Nat} {v : Value} {xs : List OX} (h : w'.ownsRow b 27 8 v (srtX kX xs).length (objC (srtX kX xs))) (hx : ObjsS w' (.slice none 0 0) [] → ∀ p ∈ xs, ObjS w' p.2 p.1) : ObjsS w' v (srtX kX xs) := ⟨sliS_of h, fun p hp => hx (objsS_nil w') p (srtX_mem.1 hp)⟩
theorem oxs_sorted (xs : List OX) : oxs (srtX kX xs) = srtX kTO (oxs xs) := srtX_map (t := kTO) (fun p : OX => p.1) xs
theorem small_sorted {l : List ObjD} (h : OSmall l) : OSmall (srtX kTO l) := fun o ho => h o (srtX_mem.1 ho)
set_option maxRecDepth 100000 in
set_option maxHeartbeats 4000000 in
theorem eventTells_law (w : World) (kd kd' : Int) {o o' : ObjD} {sl sl' : Value} (vr vr' : Int) {ol ol' : Value} {xs ys : List OX} (ho : ObjS w sl o) (hx : ObjsS w ol xs) (hk : in64 kd) (ho' : ObjS w sl' o') (hx' : ObjsS w ol' ys) (hk' : in64 kd') :
    Calls Try.prog 3 #[evV kd o sl vr ol, evV kd' o' sl' vr' ol'] w fun e w' => e = .returned (.bool true) ∧ Below w.heap.size w w' := by
  have HO := Lib.hid ho; have HX := Lib.hid hx
  have HO' := Lib.hid ho'; have HX' := Lib.hid hx'
  have HK := Lib.hid hk
  obtain ⟨ao, co, rfl⟩ := ho.1.form
  obtain ⟨al, cl, rfl⟩ := hx.form
  obtain ⟨ao', co', rfl⟩ := ho'.1.form
  obtain ⟨al', cl', rfl⟩ := hx'.form
  clear ho hx ho' hx' hk hk'
  unfold evV
  go_enter Try.func3, Try.ntmps3
  go_upto_region 1 with fail
  first | with_reducible refine name_wp ?_ | with_reducible refine name_calls ?_
  intro W hWeq
  have g0 : W.heap[w.heap.size]? = some (.cells #[.int .i64 kd, .string o.key.kind, .string o.key.space, .string o.key.name, .int .i64 o.ver, .string o.cls, .bool o.term, .bool o.best, .slice ao o.charge.length co, .int .i64 vr, .slice al xs.length cl] 30) := by rw [hWeq]; repeat (first | (with_reducible exact blk_newAt _ _ (by simp)) | with_reducible refine blk_drew ?_ | with_reducible refine blk_dN ?_ _ | with_reducible refine blk_old ?_ _)
  have g1 : W.heap[w.heap.size + 1]? = some (.cells #[.int .i64 kd', .string o'.key.kind, .string o'.key.space, .string o'.key.name, .int .i64 o'.ver, .string o'.cls, .bool o'.term, .bool o'.best, .slice ao' o'.charge.length co', .int .i64 vr', .slice al' ys.length cl'] 30) := by rw [hWeq]; repeat (first | (with_reducible exact blk_newAt _ _ (by simp)) | with_reducible refine blk_drew ?_ | with_reducible refine blk_dN ?_ _ | with_reducible refine blk_old ?_ _)
  have hw : Below w.heap.size w W := by rw [hWeq]; repeat (first | with_reducible exact Below.refl _ _ | with_reducible refine Below.drew ?_ | with_reducible refine bl_dN ?_ _ | with_reducible refine Below.alloc ?_ (by simp <;> omega) _)
  clear hWeq
  have hz : w.heap.size + 2 ≤ W.heap.size := by have := blk_lt g1; omega
  have c0_0 : W.cell? ⟨w.heap.size, 0, none⟩ = some (.int .i64 kd) := blk_cell g0 0
  have c0_1 : W.cell? ⟨w.heap.size, 1, none⟩ = some (.string o.key.kind) := blk_cell g0 1
  have c0_2 : W.cell? ⟨w.heap.size, 2, none⟩ = some (.string o.key.space) := blk_cell g0 2
  have c0_3 : W.cell? ⟨w.heap.size, 3, none⟩ = some (.string o.key.name) := blk_cell g0 3
  have c0_4 : W.cell? ⟨w.heap.size, 4, none⟩ = some (.int .i64 o.ver) := blk_cell g0 4
  have c0_5 : W.cell? ⟨w.heap.size, 5, none⟩ = some (.string o.cls) := blk_cell g0 5
  have c0_6 : W.cell? ⟨w.heap.size, 6, none⟩ = some (.bool o.term) := blk_cell g0 6
  have c0_7 : W.cell? ⟨w.heap.size, 7, none⟩ = some (.bool o.best) := blk_cell g0 7
  have c0_8 : W.cell? ⟨w.heap.size, 8, none⟩ = some (.slice ao o.charge.length co) := blk_cell g0 8
  have c0_9 : W.cell? ⟨w.heap.size, 9, none⟩ = some (.int .i64 vr) := blk_cell g0 9
  have c0_10 : W.cell? ⟨w.heap.size, 10, none⟩ = some (.slice al xs.length cl) := blk_cell g0 10
  have f0 : ∀ j, W.frozen? ⟨w.heap.size, j, none⟩ = false := blk_free g0
  have c1_0 : W.cell? ⟨w.heap.size + 1, 0, none⟩ = some (.int .i64 kd') := blk_cell g1 0
  have c1_1 : W.cell? ⟨w.heap.size + 1, 1, none⟩ = some (.string o'.key.kind) := blk_cell g1 1
  have c1_2 : W.cell? ⟨w.heap.size + 1, 2, none⟩ = some (.string o'.key.space) := blk_cell g1 2
  have c1_3 : W.cell? ⟨w.heap.size + 1, 3, none⟩ = some (.string o'.key.name) := blk_cell g1 3
  have c1_4 : W.cell? ⟨w.heap.size + 1, 4, none⟩ = some (.int .i64 o'.ver) := blk_cell g1 4
  have c1_5 : W.cell? ⟨w.heap.size + 1, 5, none⟩ = some (.string o'.cls) := blk_cell g1 5
  have c1_6 : W.cell? ⟨w.heap.size + 1, 6, none⟩ = some (.bool o'.term) := blk_cell g1 6
  have c1_7 : W.cell? ⟨w.heap.size + 1, 7, none⟩ = some (.bool o'.best) := blk_cell g1 7
  have c1_8 : W.cell? ⟨w.heap.size + 1, 8, none⟩ = some (.slice ao' o'.charge.length co') := blk_cell g1 8
  have c1_9 : W.cell? ⟨w.heap.size + 1, 9, none⟩ = some (.int .i64 vr') := blk_cell g1 9
  have c1_10 : W.cell? ⟨w.heap.size + 1, 10, none⟩ = some (.slice al' ys.length cl') := blk_cell g1 10
  have f1 : ∀ j, W.frozen? ⟨w.heap.size + 1, j, none⟩ = false := blk_free g1
  have hB : Below W.heap.size W W := Below.refl _ _
  have G0 := Lib.hid g0; clear g0
  have F0 := Lib.hid f0; clear f0
  have G1 := Lib.hid g1; clear g1
  have F1 := Lib.hid f1; clear f1
  have Hw := Lib.hid hw; clear hw
  have HWO := Lib.hid (HO.out.below Hw.out); have HWX := Lib.hid (HX.out.below Hw.out); have HWO' := Lib.hid (HO'.out.below Hw.out); have HWX' := Lib.hid (HX'.out.below Hw.out)
  have HFA : Hid (∀ U, Below W.heap.size W U → Calls Try.prog 12 #[.agg #[.int .i64 kd, .string o.key.kind, .string o.key.space, .string o.key.name, .int .i64 o.ver, .string o.cls, .bool o.term, .bool o.best, .slice ao o.charge.length co, .int .i64 vr, .slice al xs.length cl]] U (FitE U o xs)) := Lib.hid fun U h => fits7_calls U kd vr (HWO.out.below h) (HWX.out.below h)
  have HFB : Hid (∀ U, Below W.heap.size W U → Calls Try.prog 12 #[.agg #[.int .i64 kd', .string o'.key.kind, .string o'.key.space, .string o'.key.name, .int .i64 o'.ver, .string o'.cls, .bool o'.term, .bool o'.best, .slice ao' o'.charge.length co', .int .i64 vr', .slice al' ys.length cl']] U (FitE U o' ys)) := Lib.hid fun U h => fits7_calls U kd' vr' (HWO'.out.below h) (HWX'.out.below h)
  go_upto_region 3 with (go_at_call 12; (first | ((with_reducible refine (HFA.out _ hB).mono ?_); rintro e w' ⟨f1, rfl, hf1, hb⟩; have HF1 := Lib.hid hf1; clear hf1) | ((with_reducible refine (HFB.out _ hB).mono ?_); rintro e w' ⟨f2, rfl, hf2, hb⟩; have HF2 := Lib.hid hf2; clear hf2)); have hB := bl_next hB hb; have c0_0 := cb hb c0_0; have c0_1 := cb hb c0_1; have c0_2 := cb hb c0_2; have c0_3 := cb hb c0_3; have c0_4 := cb hb c0_4; have c0_5 := cb hb c0_5; have c0_6 := cb hb c0_6; have c0_7 := cb hb c0_7; have c0_8 := cb hb c0_8; have c0_9 := cb hb c0_9; have c0_10 := cb hb c0_10; have c1_0 := cb hb c1_0; have c1_1 := cb hb c1_1; have c1_2 := cb hb c1_2; have c1_3 := cb hb c1_3; have c1_4 := cb hb c1_4; have c1_5 := cb hb c1_5; have c1_6 := cb hb c1_6; have c1_7 := cb hb c1_7; have c1_8 := cb hb c1_8; have c1_9 := cb hb c1_9; have c1_10 := cb hb c1_10; clear hb)
  cases f1 with
  | false =>
    go_wp2_with (go_at_call 13; refine (alive7_calls _).mono ?_; rintro e w' ⟨rfl, hb⟩; have hB := bl_next hB hb; clear hb)
    go_ret
    exact ⟨rfl, bl_from Hw.out hB⟩
  | true =>
  cases f2 with
  | false =>
    go_wp2_with (go_at_call 13; refine (alive7_calls _).mono ?_; rintro e w' ⟨rfl, hb⟩; have hB := bl_next hB hb; clear hb)
    go_ret
    exact ⟨rfl, bl_from Hw.out hB⟩
  | true =>
  have HSA := Lib.hid (HF1.out rfl).1; have HSX := Lib.hid (HF1.out rfl).2.1
  have HSB := Lib.hid (HF2.out rfl).1; have HSY := Lib.hid (HF2.out rfl).2.1
  have hlx : xs.length ≤ 60 := (HF1.out rfl).2.2
  have hly : ys.length ≤ 60 := (HF2.out rfl).2.2
  clear HF1 HF2 HFA HFB
  obtain ⟨vn, hvn⟩ : ∃ n, (verE ⟨kd, o, vr, oxs xs⟩).1 = n := ⟨_, rfl⟩
  obtain ⟨vm, hvm⟩ : ∃ n, (verE ⟨kd, o, vr, oxs xs⟩).2 = n := ⟨_, rfl⟩
  obtain ⟨rb, hrb⟩ : ∃ b, rightE ⟨kd, o, vr, oxs xs⟩ = b := ⟨_, rfl⟩
  obtain ⟨sm, hsm⟩ : ∃ b, sameE ⟨kd, o, vr, oxs xs⟩ ⟨kd', o', vr', oxs ys⟩ = b := ⟨_, rfl⟩
  have HV1 : Hid (∀ U, Below W.heap.size W U → Calls Try.prog 14 #[.agg #[.int .i64 kd, .string o.key.kind, .string o.key.space, .string o.key.name, .int .i64 o.ver, .string o.cls, .bool o.term, .bool o.best, .slice ao o.charge.length co, .int .i64 vr, .slice al xs.length cl]] U fun e w' => e = .returned (.tuple #[.int .i64 vn, .int .i64 vm]) ∧ Below U.heap.size U w') := Lib.hid fun U h => (evver_calls U kd vr (HWO.out.below h) HSA.out (HWX.out.below h) HSX.out HK.out (by omega)).mono fun e w' q => by rw [hvn, hvm] at q; exact q
  have HV2 : Hid (∀ U, Below W.heap.size W U → Calls Try.prog 15 #[.agg #[.int .i64 kd, .string o.key.kind, .string o.key.space, .string o.key.name, .int .i64 o.ver, .string o.cls, .bool o.term, .bool o.best, .slice ao o.charge.length co, .int .i64 vr, .slice al xs.length cl]] U fun e w' => e = .returned (.tuple #[.int .i64 vn, .int .i64 vm]) ∧ Below U.heap.size U w') := Lib.hid fun U h => (revver_calls U kd vr (HWO.out.below h) HSA.out (HWX.out.below h) HSX.out (by omega)).mono fun e w' q => by rw [hvn, hvm] at q; exact q
  have HR1 : Hid (∀ U, Below W.heap.size W U → Calls Try.prog 21 #[.agg #[.int .i64 kd, .string o.key.kind, .string o.key.space, .string o.key.name, .int .i64 o.ver, .string o.cls, .bool o.term, .bool o.best, .slice ao o.charge.length co, .int .i64 vr, .slice al xs.length cl]] U fun e w' => e = .returned (.bool rb) ∧ Below U.heap.size U w') := Lib.hid fun U h => (evright_calls U kd vr (HWO.out.below h) HSA.out (HWX.out.below h) HSX.out HK.out (by omega)).mono fun e w' q => by rw [hrb] at q; exact q
  have HR2 : Hid (∀ U, Below W.heap.size W U → Calls Try.prog 22 #[.agg #[.int .i64 kd, .string o.key.kind, .string o.key.space, .string o.key.name, .int .i64 o.ver, .string o.cls, .bool o.term, .bool o.best, .slice ao o.charge.length co, .int .i64 vr, .slice al xs.length cl]] U fun e w' => e = .returned (.bool rb) ∧ Below U.heap.size U w') := Lib.hid fun U h => (revright_calls U kd vr (HWO.out.below h) HSA.out (HWX.out.below h) HSX.out (by omega)).mono fun e w' q => by rw [hrb] at q; exact q
  have HS1 : Hid (∀ U, Below W.heap.size W U → Calls Try.prog 23 #[.agg #[.int .i64 kd, .string o.key.kind, .string o.key.space, .string o.key.name, .int .i64 o.ver, .string o.cls, .bool o.term, .bool o.best, .slice ao o.charge.length co, .int .i64 vr, .slice al xs.length cl], .agg #[.int .i64 kd', .string o'.key.kind, .string o'.key.space, .string o'.key.name, .int .i64 o'.ver, .string o'.cls, .bool o'.term, .bool o'.best, .slice ao' o'.charge.length co', .int .i64 vr', .slice al' ys.length cl']] U fun e w' => e = .returned (.bool sm) ∧ Below U.heap.size U w') := Lib.hid fun U h => (evsame_calls U kd kd' vr vr' (HWO.out.below h) HSA.out (HWX.out.below h) HSX.out (by omega) (HWO'.out.below h) HSB.out (HWX'.out.below h) HSY.out (by omega)).mono fun e w' q => by rw [hsm] at q; exact q
  have HS2 : Hid (∀ U, Below W.heap.size W U → Calls Try.prog 16 #[.agg #[.int .i64 kd, .string o.key.kind, .string o.key.space, .string o.key.name, .int .i64 o.ver, .string o.cls, .bool o.term, .bool o.best, .slice ao o.charge.length co, .int .i64 vr, .slice al xs.length cl], .agg #[.int .i64 kd', .string o'.key.kind, .string o'.key.space, .string o'.key.name, .int .i64 o'.ver, .string o'.cls, .bool o'.term, .bool o'.best, .slice ao' o'.charge.length co', .int .i64 vr', .slice al' ys.length cl']] U fun e w' => e = .returned (.bool sm) ∧ Below U.heap.size U w') := Lib.hid fun U h => (revsame_calls U kd kd' vr vr' (HWO.out.below h) HSA.out (HWX.out.below h) HSX.out (by omega) (HWO'.out.below h) HSB.out (HWX'.out.below h) HSY.out (by omega)).mono fun e w' q => by rw [hsm] at q; exact q
  have HOW : Hid (∀ U, Below W.heap.size W U → Calls Try.prog 17 #[.agg #[.int .i64 kd, .string o.key.kind, .string o.key.space, .string o.key.name, .int .i64 o.ver, .string o.cls, .bool o.term, .bool o.best, .slice ao o.charge.length co, .int .i64 vr, .slice al xs.length cl]] U fun e w' => ∃ x ov, e = .returned (.agg #[.int .i64 kd, .string o.key.kind, .string o.key.space, .string o.key.name, .int .i64 o.ver, .string o.cls, .bool o.term, .bool o.best, x, .int .i64 vr, ov]) ∧ Hid (Calls Try.prog 16 #[.agg #[.int .i64 kd, .string o.key.kind, .string o.key.space, .string o.key.name, .int .i64 o.ver, .string o.cls, .bool o.term, .bool o.best, x, .int .i64 vr, ov], .agg #[.int .i64 kd, .string o.key.kind, .string o.key.space, .string o.key.name, .int .i64 o.ver, .string o.cls, .bool o.term, .bool o.best, .slice ao o.charge.length co, .int .i64 vr, .slice al xs.length cl]] w' fun e w'' => e = .returned (.bool true) ∧ Below w'.heap.size w' w'') ∧ Below U.heap.size U w') := Lib.hid fun U h => (evown_calls U kd vr (HWO.out.below h) HSA.out (HWX.out.below h) HSX.out (by omega)).mono fun e w' ⟨x, ov, zs, q1, q2, q3, q4, q5⟩ =>
    ⟨x, ov, q1, Lib.hid ((revsame_calls w' kd kd vr vr (o := o) ⟨q2.resS HWO.out.oIn.2, HWO.out.oIn.1⟩ HSA.out (q3.objsS (oIn_of HWX.out q4)) (by rw [q4]; exact HSX.out) (by rw [← oxs_len, q4, oxs_len]; omega) (HWO.out.below (bl_next h q5)) HSA.out (HWX.out.below (bl_next h q5)) HSX.out (by omega)).mono fun e w'' z => ⟨z.1.trans (ret_bool (by rw [q4]; exact sameE_refl _)), z.2⟩), q5⟩
  have HSO : Hid (∀ U, Below W.heap.size W U → Calls Try.prog 19 #[.slice al xs.length cl] U fun e w' => ∃ v, e = .returned v ∧ Hid (∃ zs, ObjsS w' v zs ∧ oxs zs = srtX kTO (oxs xs)) ∧ Below U.heap.size U w') := Lib.hid fun U h => (evsorted_calls U (HWX.out.below h) HSX.out (by omega)).mono fun e w' ⟨v, zs, q1, q2, q3, q4⟩ =>
    ⟨v, q1, Lib.hid ⟨zs, q2.objsS (fun p hp => by
      have hm : p.1 ∈ oxs zs := List.mem_map.2 ⟨p, hp, rfl⟩
      rw [q3] at hm
      obtain ⟨r, hr, hre⟩ := List.mem_map.1 (srtX_mem.1 hm)
      rw [← hre]; exact (HWX.out.2 r hr).oIn), q3⟩, q4⟩
  have HRO : Hid (∀ U, Below W.heap.size W U → Calls Try.prog 20 #[.slice al xs.length cl] U fun e w' => ∃ v, e = .returned v ∧ Hid (ObjsS w' v (srtX kX xs)) ∧ Below U.heap.size U w') := Lib.hid fun U h => (rsorted_calls U (HWX.out.below h) HSX.out (by omega)).mono fun e w' ⟨v, q1, q2, q3⟩ =>
    ⟨v, q1, Lib.hid ⟨sliS_of q2, fun p hp => ((HWX.out.below (bl_next h q3)).2 p (srtX_mem.1 hp))⟩, q3⟩
  have HOB : Hid (∀ (U : World) (v v2 : Value) (zs : List OX), ObjsS U v zs → oxs zs = srtX kTO (oxs xs) → ObjsS U v2 (srtX kX xs) → Calls Try.prog 18 #[v, v2] U fun e w' => e = .returned (.bool true) ∧ Below U.heap.size U w') := Lib.hid fun U v v2 zs h1 h2 h3 =>
    (robjs_calls U h1 h3 (by rw [← oxs_len, h2, srtX_len, oxs_len]; omega) (by rw [srtX_len]; omega) (by rw [h2]; exact small_sorted HSX.out) (by rw [oxs_sorted]; exact small_sorted HSX.out)).mono fun e w' q => ⟨q.1.trans (ret_bool (decide_eq_true (by rw [h2, oxs_sorted]))), q.2⟩
  clear hvn hvm hrb hsm hlx hly
  go_upto_region 7 with (first | (go_at_call 14; ((with_reducible refine (HV1.out _ hB).mono ?_); rintro e w' ⟨rfl, hb⟩; have hB := bl_next hB hb; have c0_0 := cb hb c0_0; have c0_1 := cb hb c0_1; have c0_2 := cb hb c0_2; have c0_3 := cb hb c0_3; have c0_4 := cb hb c0_4; have c0_5 := cb hb c0_5; have c0_6 := cb hb c0_6; have c0_7 := cb hb c0_7; have c0_8 := cb hb c0_8; have c0_9 := cb hb c0_9; have c0_10 := cb hb c0_10; have c1_0 := cb hb c1_0; have c1_1 := cb hb c1_1; have c1_2 := cb hb c1_2; have c1_3 := cb hb c1_3; have c1_4 := cb hb c1_4; have c1_5 := cb hb c1_5; have c1_6 := cb hb c1_6; have c1_7 := cb hb c1_7; have c1_8 := cb hb c1_8; have c1_9 := cb hb c1_9; have c1_10 := cb hb c1_10; clear hb)) | (go_at_call 15; ((with_reducible refine (HV2.out _ hB).mono ?_); rintro e w' ⟨rfl, hb⟩; have hB := bl_next hB hb; have c0_0 := cb hb c0_0; have c0_1 := cb hb c0_1; have c0_2 := cb hb c0_2; have c0_3 := cb hb c0_3; have c0_4 := cb hb c0_4; have c0_5 := cb hb c0_5; have c0_6 := cb hb c0_6; have c0_7 := cb hb c0_7; have c0_8 := cb hb c0_8; have c0_9 := cb hb c0_9; have c0_10 := cb hb c0_10; have c1_0 := cb hb c1_0; have c1_1 := cb hb c1_1; have c1_2 := cb hb c1_2; have c1_3 := cb hb c1_3; have c1_4 := cb hb c1_4; have c1_5 := cb hb c1_5; have c1_6 := cb hb c1_6; have c1_7 := cb hb c1_7; have c1_8 := cb hb c1_8; have c1_9 := cb hb c1_9; have c1_10 := cb hb c1_10; clear hb)))
  obtain ⟨V, rfl⟩ : ∃ V : World, V = w' := ⟨_, rfl⟩
  have HWV := Lib.hid hB
  clear hB
  have hB := Below.refl V.heap.size V
  have hB := hB.drew
  refine region_seq (fun w' => Below V.heap.size V w') [(0, true), (2, true), (1, false), (3, false), (4, true)] (by kernel_rfl) (by kernel_rfl) (fun _ _ _ _ h => h) hB ?_
  try generalize World.drew _ = wS at hB ⊢
  refine seq_take (v := ?_) (a' := ?_) (some 34) rfl rfl (by rfl) ?_ ?_ ?_
  rotate_left; rotate_left
  · intro w' hS; have p0_0 := cb hS c0_0; have p0_1 := cb hS c0_1; have p0_2 := cb hS c0_2; have p0_3 := cb hS c0_3; have p0_4 := cb hS c0_4; have p0_5 := cb hS c0_5; have p0_6 := cb hS c0_6; have p0_7 := cb hS c0_7; have p0_8 := cb hS c0_8; have p0_9 := cb hS c0_9; have p0_10 := cb hS c0_10; have p1_0 := cb hS c1_0; have p1_1 := cb hS c1_1; have p1_2 := cb hS c1_2; have p1_3 := cb hS c1_3; have p1_4 := cb hS c1_4; have p1_5 := cb hS c1_5; have p1_6 := cb hS c1_6; have p1_7 := cb hS c1_7; have p1_8 := cb hS c1_8; have p1_9 := cb hS c1_9; have p1_10 := cb hS c1_10; go_simp; with_reducible rfl
  · simp only [Act.put, List.setIfInBounds_toArray, List.set_cons_zero, List.set_cons_succ]; rfl
  refine seq_take (v := ?_) (a' := ?_) (some 36) rfl rfl (by rfl) ?_ ?_ ?_
  rotate_left; rotate_left
  · intro w' hS; have p0_0 := cb hS c0_0; have p0_1 := cb hS c0_1; have p0_2 := cb hS c0_2; have p0_3 := cb hS c0_3; have p0_4 := cb hS c0_4; have p0_5 := cb hS c0_5; have p0_6 := cb hS c0_6; have p0_7 := cb hS c0_7; have p0_8 := cb hS c0_8; have p0_9 := cb hS c0_9; have p0_10 := cb hS c0_10; have p1_0 := cb hS c1_0; have p1_1 := cb hS c1_1; have p1_2 := cb hS c1_2; have p1_3 := cb hS c1_3; have p1_4 := cb hS c1_4; have p1_5 := cb hS c1_5; have p1_6 := cb hS c1_6; have p1_7 := cb hS c1_7; have p1_8 := cb hS c1_8; have p1_9 := cb hS c1_9; have p1_10 := cb hS c1_10; go_simp; with_reducible rfl
  · simp only [Act.put, List.setIfInBounds_toArray, List.set_cons_zero, List.set_cons_succ]; rfl
  refine seq_call (args := ?_) Try.func17 (by kernel_rfl) rfl (some 35) rfl rfl (by rfl) rfl ?_ ?_
  rotate_left
  · simp only [List.map_toArray, List.map_cons, List.map_nil]; go_simp; rfl
  with_reducible refine (HOW.out _ (bl_next HWV.out hB)).mono ?_
  rintro e w' ⟨x, ov, rfl, HSM, hb⟩
  refine ⟨_, rfl, bl_next (by repeat (first | with_reducible exact hB | refine Below.alloc ?_ (by have := hB.size; simp; omega) _ | refine bl_dN ?_ _ | refine Below.drew ?_ | refine Below.setCell ?_ (by have := hB.size; simp; omega) _)) hb, ?_⟩
  have hB := bl_next (by repeat (first | with_reducible exact hB | refine Below.alloc ?_ (by have := hB.size; simp; omega) _ | refine bl_dN ?_ _ | refine Below.drew ?_ | refine Below.setCell ?_ (by have := hB.size; simp; omega) _)) hb; clear hb
  simp only [Act.put, List.setIfInBounds_toArray, List.set_cons_zero, List.set_cons_succ]
  refine seq_call (args := ?_) Try.func16 (by kernel_rfl) rfl (some 37) rfl rfl (by rfl) rfl ?_ ?_
  rotate_left
  · simp only [List.map_toArray, List.map_cons, List.map_nil]; go_simp; rfl
  with_reducible refine (HSM.out).mono ?_
  rintro e w' ⟨rfl, hb⟩
  refine ⟨_, rfl, bl_next (by repeat (first | with_reducible exact hB | refine Below.alloc ?_ (by have := hB.size; simp; omega) _ | refine bl_dN ?_ _ | refine Below.drew ?_ | refine Below.setCell ?_ (by have := hB.size; simp; omega) _)) hb, ?_⟩
  have hB := bl_next (by repeat (first | with_reducible exact hB | refine Below.alloc ?_ (by have := hB.size; simp; omega) _ | refine bl_dN ?_ _ | refine Below.drew ?_ | refine Below.setCell ?_ (by have := hB.size; simp; omega) _)) hb; clear hb
  simp only [Act.put, List.setIfInBounds_toArray, List.set_cons_zero, List.set_cons_succ]
  refine seq_take (v := ?_) (a' := ?_) (some 11) rfl rfl (by rfl) ?_ ?_ ?_
  rotate_left; rotate_left
  · intro w' hS; go_simp; with_reducible rfl
  · simp only [Act.put, List.setIfInBounds_toArray, List.set_cons_zero, List.set_cons_succ]; rfl
  refine seq_done ?_
  go_upto_region 8 with fail
  have hB := hB.drew
  refine region_seq (fun w' => Below V.heap.size V w') [(0, true), (1, true), (3, true), (4, true), (2, false), (5, false), (6, false), (7, true)] (by kernel_rfl) (by kernel_rfl) (fun _ _ _ _ h => h) hB ?_
  try generalize World.drew _ = wS at hB ⊢
  refine seq_take (v := ?_) (a' := ?_) (some 38) rfl rfl (by rfl) ?_ ?_ ?_
  rotate_left; rotate_left
  · intro w' hS; go_simp; with_reducible rfl
  · simp only [Act.put, List.setIfInBounds_toArray, List.set_cons_zero, List.set_cons_succ]; rfl
  refine seq_take (v := ?_) (a' := ?_) (some 39) rfl rfl (by rfl) ?_ ?_ ?_
  rotate_left; rotate_left
  · intro w' hS; have p0_0 := cb hS c0_0; have p0_1 := cb hS c0_1; have p0_2 := cb hS c0_2; have p0_3 := cb hS c0_3; have p0_4 := cb hS c0_4; have p0_5 := cb hS c0_5; have p0_6 := cb hS c0_6; have p0_7 := cb hS c0_7; have p0_8 := cb hS c0_8; have p0_9 := cb hS c0_9; have p0_10 := cb hS c0_10; have p1_0 := cb hS c1_0; have p1_1 := cb hS c1_1; have p1_2 := cb hS c1_2; have p1_3 := cb hS c1_3; have p1_4 := cb hS c1_4; have p1_5 := cb hS c1_5; have p1_6 := cb hS c1_6; have p1_7 := cb hS c1_7; have p1_8 := cb hS c1_8; have p1_9 := cb hS c1_9; have p1_10 := cb hS c1_10; go_simp; with_reducible rfl
  · simp only [Act.put, List.setIfInBounds_toArray, List.set_cons_zero, List.set_cons_succ]; rfl
  refine seq_take (v := ?_) (a' := ?_) (some 41) rfl rfl (by rfl) ?_ ?_ ?_
  rotate_left; rotate_left
  · intro w' hS; go_simp; with_reducible rfl
  · simp only [Act.put, List.setIfInBounds_toArray, List.set_cons_zero, List.set_cons_succ]; rfl
  refine seq_take (v := ?_) (a' := ?_) (some 42) rfl rfl (by rfl) ?_ ?_ ?_
  rotate_left; rotate_left
  · intro w' hS; have p0_0 := cb hS c0_0; have p0_1 := cb hS c0_1; have p0_2 := cb hS c0_2; have p0_3 := cb hS c0_3; have p0_4 := cb hS c0_4; have p0_5 := cb hS c0_5; have p0_6 := cb hS c0_6; have p0_7 := cb hS c0_7; have p0_8 := cb hS c0_8; have p0_9 := cb hS c0_9; have p0_10 := cb hS c0_10; have p1_0 := cb hS c1_0; have p1_1 := cb hS c1_1; have p1_2 := cb hS c1_2; have p1_3 := cb hS c1_3; have p1_4 := cb hS c1_4; have p1_5 := cb hS c1_5; have p1_6 := cb hS c1_6; have p1_7 := cb hS c1_7; have p1_8 := cb hS c1_8; have p1_9 := cb hS c1_9; have p1_10 := cb hS c1_10; go_simp; with_reducible rfl
  · simp only [Act.put, List.setIfInBounds_toArray, List.set_cons_zero, List.set_cons_succ]; rfl
  refine seq_call (args := ?_) Try.func19 (by kernel_rfl) rfl (some 40) rfl rfl (by rfl) rfl ?_ ?_
  rotate_left
  · simp only [List.map_toArray, List.map_cons, List.map_nil]; go_simp; rfl
  with_reducible refine (HSO.out _ (bl_next HWV.out hB)).mono ?_
  rintro e w' ⟨v1, rfl, HZ, hb⟩
  refine ⟨_, rfl, bl_next (by repeat (first | with_reducible exact hB | refine Below.alloc ?_ (by have := hB.size; simp; omega) _ | refine bl_dN ?_ _ | refine Below.drew ?_ | refine Below.setCell ?_ (by have := hB.size; simp; omega) _)) hb, ?_⟩
  have hB := bl_next (by repeat (first | with_reducible exact hB | refine Below.alloc ?_ (by have := hB.size; simp; omega) _ | refine bl_dN ?_ _ | refine Below.drew ?_ | refine Below.setCell ?_ (by have := hB.size; simp; omega) _)) hb; clear hb
  simp only [Act.put, List.setIfInBounds_toArray, List.set_cons_zero, List.set_cons_succ]
  refine seq_call (args := ?_) Try.func20 (by kernel_rfl) rfl (some 43) rfl rfl (by rfl) rfl ?_ ?_
  rotate_left
  · simp only [List.map_toArray, List.map_cons, List.map_nil]; go_simp; rfl
  with_reducible refine (HRO.out _ (bl_next HWV.out hB)).mono ?_
  rintro e w' ⟨v2, rfl, HY, hb⟩
  (have HZ2 := Lib.hid (show ∃ zs, ObjsS w' v1 zs ∧ oxs zs = srtX kTO (oxs xs) from by obtain ⟨zs, z1, z2⟩ := HZ.out; exact ⟨zs, z1.below hb, z2⟩))
  refine ⟨_, rfl, bl_next (by repeat (first | with_reducible exact hB | refine Below.alloc ?_ (by have := hB.size; simp; omega) _ | refine bl_dN ?_ _ | refine Below.drew ?_ | refine Below.setCell ?_ (by have := hB.size; simp; omega) _)) hb, ?_⟩
  have hB := bl_next (by repeat (first | with_reducible exact hB | refine Below.alloc ?_ (by have := hB.size; simp; omega) _ | refine bl_dN ?_ _ | refine Below.drew ?_ | refine Below.setCell ?_ (by have := hB.size; simp; omega) _)) hb; clear hb
  simp only [Act.put, List.setIfInBounds_toArray, List.set_cons_zero, List.set_cons_succ]
  refine seq_call (args := ?_) Try.func18 (by kernel_rfl) rfl (some 44) rfl rfl (by rfl) rfl ?_ ?_
  rotate_left
  · simp only [List.map_toArray, List.map_cons, List.map_nil]; go_simp; rfl
  with_reducible refine ((by obtain ⟨zs, z1, z2⟩ := HZ2.out; exact HOB.out _ v1 v2 zs z1 z2 HY.out : Calls Try.prog 18 #[v1, v2] _ fun e w' => e = .returned (.bool true) ∧ Below _ _ w')).mono ?_
  rintro e w' ⟨rfl, hb⟩
  refine ⟨_, rfl, bl_next (by repeat (first | with_reducible exact hB | refine Below.alloc ?_ (by have := hB.size; simp; omega) _ | refine bl_dN ?_ _ | refine Below.drew ?_ | refine Below.setCell ?_ (by have := hB.size; simp; omega) _)) hb, ?_⟩
  have hB := bl_next (by repeat (first | with_reducible exact hB | refine Below.alloc ?_ (by have := hB.size; simp; omega) _ | refine bl_dN ?_ _ | refine Below.drew ?_ | refine Below.setCell ?_ (by have := hB.size; simp; omega) _)) hb; clear hb
  simp only [Act.put, List.setIfInBounds_toArray, List.set_cons_zero, List.set_cons_succ]
  refine seq_take (v := ?_) (a' := ?_) (some 12) rfl rfl (by rfl) ?_ ?_ ?_
  rotate_left; rotate_left
  · intro w' hS; go_simp; with_reducible rfl
  · simp only [Act.put, List.setIfInBounds_toArray, List.set_cons_zero, List.set_cons_succ]; rfl
  refine seq_done ?_
  go_upto_region 9 with fail
  have hB := hB.drew
  refine region_seq (fun w' => Below V.heap.size V w') [(0, false), (1, true), (2, true), (3, true), (4, true), (5, true), (6, true), (7, true), (8, true), (9, true), (10, true), (11, true), (12, true), (13, true), (14, true), (15, true), (16, true), (17, true), (18, true), (20, true), (19, false), (21, false), (22, true), (23, true), (24, true), (25, true), (26, true), (28, true), (29, true), (27, false), (30, false), (31, true), (32, true), (33, true)] (by kernel_rfl) (by kernel_rfl) (fun _ _ _ _ h => h) hB ?_
  try generalize World.drew _ = wS at hB ⊢
  refine seq_call (args := ?_) Try.func13 (by kernel_rfl) rfl (some 45) rfl rfl (by rfl) rfl ?_ ?_
  rotate_left
  · simp only [List.map_toArray, List.map_cons, List.map_nil]; go_simp; rfl
  with_reducible refine (alive7_calls _).mono ?_
  rintro e w' ⟨rfl, hb⟩
  refine ⟨_, rfl, bl_next (by repeat (first | with_reducible exact hB | refine Below.alloc ?_ (by have := hB.size; simp; omega) _ | refine bl_dN ?_ _ | refine Below.drew ?_ | refine Below.setCell ?_ (by have := hB.size; simp; omega) _)) hb, ?_⟩
  have hB := bl_next (by repeat (first | with_reducible exact hB | refine Below.alloc ?_ (by have := hB.size; simp; omega) _ | refine bl_dN ?_ _ | refine Below.drew ?_ | refine Below.setCell ?_ (by have := hB.size; simp; omega) _)) hb; clear hb
  simp only [Act.put, List.setIfInBounds_toArray, List.set_cons_zero, List.set_cons_succ]
  refine seq_take (v := ?_) (a' := ?_) (some 46) rfl rfl (by rfl) ?_ ?_ ?_
  rotate_left; rotate_left
  · intro w' hS; go_simp; with_reducible rfl
  · simp only [Act.put, List.setIfInBounds_toArray, List.set_cons_zero, List.set_cons_succ]; rfl
  refine seq_take (v := ?_) (a' := ?_) (some 47) rfl rfl (by rfl) ?_ ?_ ?_
  rotate_left; rotate_left
  · intro w' hS; go_simp; with_reducible rfl
  · simp only [Act.put, List.setIfInBounds_toArray, List.set_cons_zero, List.set_cons_succ]; rfl
  refine seq_take (v := ?_) (a' := ?_) (some 48) rfl rfl (by rfl) ?_ ?_ ?_
  rotate_left; rotate_left
  · intro w' hS; go_simp; with_reducible rfl
  · simp only [Act.put, List.setIfInBounds_toArray, List.set_cons_zero, List.set_cons_succ]; rfl
  refine seq_take (v := ?_) (a' := ?_) (some 49) rfl rfl (by rfl) ?_ ?_ ?_
  rotate_left; rotate_left
  · intro w' hS; go_simp; with_reducible rfl
  · simp only [Act.put, List.setIfInBounds_toArray, List.set_cons_zero, List.set_cons_succ]; rfl
  refine seq_take (v := ?_) (a' := ?_) (some 50) rfl rfl (by rfl) ?_ ?_ ?_
  rotate_left; rotate_left
  · intro w' hS; go_simp; with_reducible rfl
  · simp only [Act.put, List.setIfInBounds_toArray, List.set_cons_zero, List.set_cons_succ]; rfl
  refine seq_take (v := ?_) (a' := ?_) (some 51) rfl rfl (by rfl) ?_ ?_ ?_
  rotate_left; rotate_left
  · intro w' hS; go_simp; with_reducible rfl
  · simp only [Act.put, List.setIfInBounds_toArray, List.set_cons_zero, List.set_cons_succ]; rfl
  refine seq_take (v := ?_) (a' := ?_) (some 52) rfl rfl (by rfl) ?_ ?_ ?_
  rotate_left; rotate_left
  · intro w' hS; go_simp; with_reducible rfl
  · simp only [Act.put, List.setIfInBounds_toArray, List.set_cons_zero, List.set_cons_succ]; rfl
  refine seq_take (v := ?_) (a' := ?_) (some 53) rfl rfl (by rfl) ?_ ?_ ?_
  rotate_left; rotate_left
  · intro w' hS; go_simp; with_reducible rfl
  · simp only [Act.put, List.setIfInBounds_toArray, List.set_cons_zero, List.set_cons_succ]; rfl
  refine seq_take (v := ?_) (a' := ?_) (some 54) rfl rfl (by rfl) ?_ ?_ ?_
  rotate_left; rotate_left
  · intro w' hS; go_simp; with_reducible rfl
  · simp only [Act.put, List.setIfInBounds_toArray, List.set_cons_zero, List.set_cons_succ]; rfl
  refine seq_take (v := ?_) (a' := ?_) (some 55) rfl rfl (by rfl) ?_ ?_ ?_
  rotate_left; rotate_left
  · intro w' hS; go_simp; with_reducible rfl
  · simp only [Act.put, List.setIfInBounds_toArray, List.set_cons_zero, List.set_cons_succ]; rfl
  refine seq_take (v := ?_) (a' := ?_) (some 56) rfl rfl (by rfl) ?_ ?_ ?_
  rotate_left; rotate_left
  · intro w' hS; go_simp; with_reducible rfl
  · simp only [Act.put, List.setIfInBounds_toArray, List.set_cons_zero, List.set_cons_succ]; rfl
  refine seq_take (v := ?_) (a' := ?_) (some 57) rfl rfl (by rfl) ?_ ?_ ?_
  rotate_left; rotate_left
  · intro w' hS; go_simp; with_reducible rfl
  · simp only [Act.put, List.setIfInBounds_toArray, List.set_cons_zero, List.set_cons_succ]; rfl
  refine seq_take (v := ?_) (a' := ?_) (some 58) rfl rfl (by rfl) ?_ ?_ ?_
  rotate_left; rotate_left
  · intro w' hS; go_simp; with_reducible rfl
  · simp only [Act.put, List.setIfInBounds_toArray, List.set_cons_zero, List.set_cons_succ]; rfl
  refine seq_take (v := ?_) (a' := ?_) (some 59) rfl rfl (by rfl) ?_ ?_ ?_
  rotate_left; rotate_left
  · intro w' hS; go_simp; with_reducible rfl
  · simp only [Act.put, List.setIfInBounds_toArray, List.set_cons_zero, List.set_cons_succ]; rfl
  refine seq_take (v := ?_) (a' := ?_) (some 60) rfl rfl (by rfl) ?_ ?_ ?_
  rotate_left; rotate_left
  · intro w' hS; go_simp; with_reducible rfl
  · simp only [Act.put, List.setIfInBounds_toArray, List.set_cons_zero, List.set_cons_succ]; rfl
  refine seq_take (v := ?_) (a' := ?_) (some 61) rfl rfl (by rfl) ?_ ?_ ?_
  rotate_left; rotate_left
  · intro w' hS; go_simp; with_reducible rfl
  · simp only [Act.put, List.setIfInBounds_toArray, List.set_cons_zero, List.set_cons_succ]; rfl
  refine seq_take (v := ?_) (a' := ?_) (some 62) rfl rfl (by rfl) ?_ ?_ ?_
  rotate_left; rotate_left
  · intro w' hS; go_simp; with_reducible rfl
  · simp only [Act.put, List.setIfInBounds_toArray, List.set_cons_zero, List.set_cons_succ]; rfl
  refine seq_take (v := ?_) (a' := ?_) (some 63) rfl rfl (by rfl) ?_ ?_ ?_
  rotate_left; rotate_left
  · intro w' hS; have p0_0 := cb hS c0_0; have p0_1 := cb hS c0_1; have p0_2 := cb hS c0_2; have p0_3 := cb hS c0_3; have p0_4 := cb hS c0_4; have p0_5 := cb hS c0_5; have p0_6 := cb hS c0_6; have p0_7 := cb hS c0_7; have p0_8 := cb hS c0_8; have p0_9 := cb hS c0_9; have p0_10 := cb hS c0_10; have p1_0 := cb hS c1_0; have p1_1 := cb hS c1_1; have p1_2 := cb hS c1_2; have p1_3 := cb hS c1_3; have p1_4 := cb hS c1_4; have p1_5 := cb hS c1_5; have p1_6 := cb hS c1_6; have p1_7 := cb hS c1_7; have p1_8 := cb hS c1_8; have p1_9 := cb hS c1_9; have p1_10 := cb hS c1_10; go_simp; with_reducible rfl
  · simp only [Act.put, List.setIfInBounds_toArray, List.set_cons_zero, List.set_cons_succ]; rfl
  refine seq_take (v := ?_) (a' := ?_) (some 65) rfl rfl (by rfl) ?_ ?_ ?_
  rotate_left; rotate_left
  · intro w' hS; have p0_0 := cb hS c0_0; have p0_1 := cb hS c0_1; have p0_2 := cb hS c0_2; have p0_3 := cb hS c0_3; have p0_4 := cb hS c0_4; have p0_5 := cb hS c0_5; have p0_6 := cb hS c0_6; have p0_7 := cb hS c0_7; have p0_8 := cb hS c0_8; have p0_9 := cb hS c0_9; have p0_10 := cb hS c0_10; have p1_0 := cb hS c1_0; have p1_1 := cb hS c1_1; have p1_2 := cb hS c1_2; have p1_3 := cb hS c1_3; have p1_4 := cb hS c1_4; have p1_5 := cb hS c1_5; have p1_6 := cb hS c1_6; have p1_7 := cb hS c1_7; have p1_8 := cb hS c1_8; have p1_9 := cb hS c1_9; have p1_10 := cb hS c1_10; go_simp; with_reducible rfl
  · simp only [Act.put, List.setIfInBounds_toArray, List.set_cons_zero, List.set_cons_succ]; rfl
  refine seq_call (args := ?_) Try.func21 (by kernel_rfl) rfl (some 64) rfl rfl (by rfl) rfl ?_ ?_
  rotate_left
  · simp only [List.map_toArray, List.map_cons, List.map_nil]; go_simp; rfl
  with_reducible refine (HR1.out _ (bl_next HWV.out hB)).mono ?_
  rintro e w' ⟨rfl, hb⟩
  refine ⟨_, rfl, bl_next (by repeat (first | with_reducible exact hB | refine Below.alloc ?_ (by have := hB.size; simp; omega) _ | refine bl_dN ?_ _ | refine Below.drew ?_ | refine Below.setCell ?_ (by have := hB.size; simp; omega) _)) hb, ?_⟩
  have hB := bl_next (by repeat (first | with_reducible exact hB | refine Below.alloc ?_ (by have := hB.size; simp; omega) _ | refine bl_dN ?_ _ | refine Below.drew ?_ | refine Below.setCell ?_ (by have := hB.size; simp; omega) _)) hb; clear hb
  simp only [Act.put, List.setIfInBounds_toArray, List.set_cons_zero, List.set_cons_succ]
  refine seq_call (args := ?_) Try.func22 (by kernel_rfl) rfl (some 66) rfl rfl (by rfl) rfl ?_ ?_
  rotate_left
  · simp only [List.map_toArray, List.map_cons, List.map_nil]; go_simp; rfl
  with_reducible refine (HR2.out _ (bl_next HWV.out hB)).mono ?_
  rintro e w' ⟨rfl, hb⟩
  refine ⟨_, rfl, bl_next (by repeat (first | with_reducible exact hB | refine Below.alloc ?_ (by have := hB.size; simp; omega) _ | refine bl_dN ?_ _ | refine Below.drew ?_ | refine Below.setCell ?_ (by have := hB.size; simp; omega) _)) hb, ?_⟩
  have hB := bl_next (by repeat (first | with_reducible exact hB | refine Below.alloc ?_ (by have := hB.size; simp; omega) _ | refine bl_dN ?_ _ | refine Below.drew ?_ | refine Below.setCell ?_ (by have := hB.size; simp; omega) _)) hb; clear hb
  simp only [Act.put, List.setIfInBounds_toArray, List.set_cons_zero, List.set_cons_succ]
  refine seq_take (v := ?_) (a' := ?_) (some 67) rfl rfl (by rfl) ?_ ?_ ?_
  rotate_left; rotate_left
  · intro w' hS; go_simp; with_reducible rfl
  · simp only [Act.put, List.setIfInBounds_toArray, List.set_cons_zero, List.set_cons_succ]; rfl
  refine seq_take (v := ?_) (a' := ?_) (some 68) rfl rfl (by rfl) ?_ ?_ ?_
  rotate_left; rotate_left
  · intro w' hS; go_simp; with_reducible rfl
  · simp only [Act.put, List.setIfInBounds_toArray, List.set_cons_zero, List.set_cons_succ]; rfl
  refine seq_take (v := ?_) (a' := ?_) (some 69) rfl rfl (by rfl) ?_ ?_ ?_
  rotate_left; rotate_left
  · intro w' hS; go_simp; with_reducible rfl
  · simp only [Act.put, List.setIfInBounds_toArray, List.set_cons_zero, List.set_cons_succ]; rfl
  refine seq_take (v := ?_) (a' := ?_) (some 70) rfl rfl (by rfl) ?_ ?_ ?_
  rotate_left; rotate_left
  · intro w' hS; have p0_0 := cb hS c0_0; have p0_1 := cb hS c0_1; have p0_2 := cb hS c0_2; have p0_3 := cb hS c0_3; have p0_4 := cb hS c0_4; have p0_5 := cb hS c0_5; have p0_6 := cb hS c0_6; have p0_7 := cb hS c0_7; have p0_8 := cb hS c0_8; have p0_9 := cb hS c0_9; have p0_10 := cb hS c0_10; have p1_0 := cb hS c1_0; have p1_1 := cb hS c1_1; have p1_2 := cb hS c1_2; have p1_3 := cb hS c1_3; have p1_4 := cb hS c1_4; have p1_5 := cb hS c1_5; have p1_6 := cb hS c1_6; have p1_7 := cb hS c1_7; have p1_8 := cb hS c1_8; have p1_9 := cb hS c1_9; have p1_10 := cb hS c1_10; go_simp; with_reducible rfl
  · simp only [Act.put, List.setIfInBounds_toArray, List.set_cons_zero, List.set_cons_succ]; rfl
  refine seq_take (v := ?_) (a' := ?_) (some 71) rfl rfl (by rfl) ?_ ?_ ?_
  rotate_left; rotate_left
  · intro w' hS; have p0_0 := cb hS c0_0; have p0_1 := cb hS c0_1; have p0_2 := cb hS c0_2; have p0_3 := cb hS c0_3; have p0_4 := cb hS c0_4; have p0_5 := cb hS c0_5; have p0_6 := cb hS c0_6; have p0_7 := cb hS c0_7; have p0_8 := cb hS c0_8; have p0_9 := cb hS c0_9; have p0_10 := cb hS c0_10; have p1_0 := cb hS c1_0; have p1_1 := cb hS c1_1; have p1_2 := cb hS c1_2; have p1_3 := cb hS c1_3; have p1_4 := cb hS c1_4; have p1_5 := cb hS c1_5; have p1_6 := cb hS c1_6; have p1_7 := cb hS c1_7; have p1_8 := cb hS c1_8; have p1_9 := cb hS c1_9; have p1_10 := cb hS c1_10; go_simp; with_reducible rfl
  · simp only [Act.put, List.setIfInBounds_toArray, List.set_cons_zero, List.set_cons_succ]; rfl
  refine seq_take (v := ?_) (a' := ?_) (some 73) rfl rfl (by rfl) ?_ ?_ ?_
  rotate_left; rotate_left
  · intro w' hS; have p0_0 := cb hS c0_0; have p0_1 := cb hS c0_1; have p0_2 := cb hS c0_2; have p0_3 := cb hS c0_3; have p0_4 := cb hS c0_4; have p0_5 := cb hS c0_5; have p0_6 := cb hS c0_6; have p0_7 := cb hS c0_7; have p0_8 := cb hS c0_8; have p0_9 := cb hS c0_9; have p0_10 := cb hS c0_10; have p1_0 := cb hS c1_0; have p1_1 := cb hS c1_1; have p1_2 := cb hS c1_2; have p1_3 := cb hS c1_3; have p1_4 := cb hS c1_4; have p1_5 := cb hS c1_5; have p1_6 := cb hS c1_6; have p1_7 := cb hS c1_7; have p1_8 := cb hS c1_8; have p1_9 := cb hS c1_9; have p1_10 := cb hS c1_10; go_simp; with_reducible rfl
  · simp only [Act.put, List.setIfInBounds_toArray, List.set_cons_zero, List.set_cons_succ]; rfl
  refine seq_take (v := ?_) (a' := ?_) (some 74) rfl rfl (by rfl) ?_ ?_ ?_
  rotate_left; rotate_left
  · intro w' hS; have p0_0 := cb hS c0_0; have p0_1 := cb hS c0_1; have p0_2 := cb hS c0_2; have p0_3 := cb hS c0_3; have p0_4 := cb hS c0_4; have p0_5 := cb hS c0_5; have p0_6 := cb hS c0_6; have p0_7 := cb hS c0_7; have p0_8 := cb hS c0_8; have p0_9 := cb hS c0_9; have p0_10 := cb hS c0_10; have p1_0 := cb hS c1_0; have p1_1 := cb hS c1_1; have p1_2 := cb hS c1_2; have p1_3 := cb hS c1_3; have p1_4 := cb hS c1_4; have p1_5 := cb hS c1_5; have p1_6 := cb hS c1_6; have p1_7 := cb hS c1_7; have p1_8 := cb hS c1_8; have p1_9 := cb hS c1_9; have p1_10 := cb hS c1_10; go_simp; with_reducible rfl
  · simp only [Act.put, List.setIfInBounds_toArray, List.set_cons_zero, List.set_cons_succ]; rfl
  refine seq_call (args := ?_) Try.func23 (by kernel_rfl) rfl (some 72) rfl rfl (by rfl) rfl ?_ ?_
  rotate_left
  · simp only [List.map_toArray, List.map_cons, List.map_nil]; go_simp; rfl
  with_reducible refine (HS1.out _ (bl_next HWV.out hB)).mono ?_
  rintro e w' ⟨rfl, hb⟩
  refine ⟨_, rfl, bl_next (by repeat (first | with_reducible exact hB | refine Below.alloc ?_ (by have := hB.size; simp; omega) _ | refine bl_dN ?_ _ | refine Below.drew ?_ | refine Below.setCell ?_ (by have := hB.size; simp; omega) _)) hb, ?_⟩
  have hB := bl_next (by repeat (first | with_reducible exact hB | refine Below.alloc ?_ (by have := hB.size; simp; omega) _ | refine bl_dN ?_ _ | refine Below.drew ?_ | refine Below.setCell ?_ (by have := hB.size; simp; omega) _)) hb; clear hb
  simp only [Act.put, List.setIfInBounds_toArray, List.set_cons_zero, List.set_cons_succ]
  refine seq_call (args := ?_) Try.func16 (by kernel_rfl) rfl (some 75) rfl rfl (by rfl) rfl ?_ ?_
  rotate_left
  · simp only [List.map_toArray, List.map_cons, List.map_nil]; go_simp; rfl
  with_reducible refine (HS2.out _ (bl_next HWV.out hB)).mono ?_
  rintro e w' ⟨rfl, hb⟩
  refine ⟨_, rfl, bl_next (by repeat (first | with_reducible exact hB | refine Below.alloc ?_ (by have := hB.size; simp; omega) _ | refine bl_dN ?_ _ | refine Below.drew ?_ | refine Below.setCell ?_ (by have := hB.size; simp; omega) _)) hb, ?_⟩
  have hB := bl_next (by repeat (first | with_reducible exact hB | refine Below.alloc ?_ (by have := hB.size; simp; omega) _ | refine bl_dN ?_ _ | refine Below.drew ?_ | refine Below.setCell ?_ (by have := hB.size; simp; omega) _)) hb; clear hb
  simp only [Act.put, List.setIfInBounds_toArray, List.set_cons_zero, List.set_cons_succ]
  refine seq_take (v := ?_) (a' := ?_) (some 76) rfl rfl (by rfl) ?_ ?_ ?_
  rotate_left; rotate_left
  · intro w' hS; go_simp; with_reducible rfl
  · simp only [Act.put, List.setIfInBounds_toArray, List.set_cons_zero, List.set_cons_succ]; rfl
  refine seq_take (v := ?_) (a' := ?_) (some 77) rfl rfl (by rfl) ?_ ?_ ?_
  rotate_left; rotate_left
  · intro w' hS; go_simp; with_reducible rfl
  · simp only [Act.put, List.setIfInBounds_toArray, List.set_cons_zero, List.set_cons_succ]; rfl
  refine seq_take (v := ?_) (a' := ?_) (some 4) rfl rfl (by rfl) ?_ ?_ ?_
  rotate_left; rotate_left
  · intro w' hS; go_simp; with_reducible rfl
  · simp only [Act.put, List.setIfInBounds_toArray, List.set_cons_zero, List.set_cons_succ]; rfl
  refine seq_done ?_
  go_wp2_with fail
  go_ret
  exact ⟨rfl, bl_from Hw.out (bl_next HWV.out hB)⟩
theorem eventTellsWalk {W : World} (a : Int × ObjD × Int × List ObjD) (c : List Value) (h : kEv.K W anyB a c) (b : Int × ObjD × Int × List ObjD) (d : List Value) (k : kEv.K W anyB b d) : Calls Try.prog 3 #[.agg c.toArray, .agg d.toArray] W fun e W' => e = .returned (.bool true) ∧ Below W.heap.size W W' := by
  obtain ⟨sa, oa, xa, e1, h1, h2, h3, h4⟩ := ev_of h
  obtain ⟨sb, ob, xb, e2, k1, k2, k3, k4⟩ := ev_of k
  rw [e1, e2]
  exact eventTells_law W _ _ _ _ h1 h2 h3 k1 k2 k3
end Go.Proofs.Ythhfcambdmdgfaa
