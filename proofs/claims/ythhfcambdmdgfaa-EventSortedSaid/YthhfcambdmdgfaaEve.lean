import Derived.Test.YthhfcambdmdgfaaEvd
namespace Go.Proofs.Ythhfcambdmdgfaa
open Go.RowKit Go.Maps
set_option linter.unusedVariables false
set_option linter.unusedSimpArgs false
theorem rights_look {w : World} {mb : Nat} {kd : Int} (h : w.ownsMap Try.prog 22 RV mb 4 (dmA kI fV rightsM)) (hk : in64 kd) :
    (Instr.lookup 87 (.map (some mb)) (.int .i64 kd) true).run Try.prog w = .ok (.tuple #[((getA rightsM kd).map fV).getD .nilFunc, .bool (hasA rightsM kd)]) w := by
  rw [mv_look_ok h kI_keyed Try.underlying87 (zero_fn w) (kI_key hk), val_dmA keyI_lit, has_dmA keyI_lit]
theorem rights_none {kd : Int} (h0 : ¬ kd = 0) (h1 : ¬ kd = 1) (h2 : ¬ kd = 2) (h3 : ¬ kd = 3) : getA rightsM kd = none ∧ hasA rightsM kd = false := by
  have e0 : ¬ (0 : Int) = kd := fun e => h0 e.symm
  have e1 : ¬ (1 : Int) = kd := fun e => h1 e.symm
  have e2 : ¬ (2 : Int) = kd := fun e => h2 e.symm
  have e3 : ¬ (3 : Int) = kd := fun e => h3 e.symm
  have g : getA rightsM kd = none := by unfold rightsM; rw [getA_cons, if_neg e0, getA_cons, if_neg e1, getA_cons, if_neg e2, getA_cons, if_neg e3, getA_nil]
  exact ⟨g, by rw [hasA_get, g]; rfl⟩
set_option maxRecDepth 100000 in
set_option maxHeartbeats 8000000 in
theorem evright_calls (w : World) (kd : Int) {o : ObjD} {sl : Value} (vr : Int) {ol : Value} {xs : List OX} (ho : ObjS w sl o) (hs : objSmall o) (hx : ObjsS w ol xs) (hxs : OSmall (oxs xs)) (hkd : in64 kd) (hl : xs.length ≤ 1000000) :
    Calls Try.prog 21 #[evV kd o sl vr ol] w fun e w' => e = .returned (.bool (rightE ⟨kd, o, vr, oxs xs⟩)) ∧ Below w.heap.size w w' := by
  have HO := Lib.hid ho; have HX := Lib.hid hx; have HSM := Lib.hid hxs; have HS := Lib.hid hs
  obtain ⟨ao, co, rfl⟩ := ho.1.form
  obtain ⟨al, cl, rfl⟩ := hx.form
  have HLL := Lib.hid hl
  clear ho hx hxs hs hl
  unfold evV
  go_enter Try.func21, Try.ntmps21
  go_upto_region 1 with fail
  first | with_reducible refine name_wp ?_ | with_reducible refine name_calls ?_
  intro W hWeq
  have g0 : W.heap[w.heap.size]? = some (.cells #[.int .i64 kd, .string o.key.kind, .string o.key.space, .string o.key.name, .int .i64 o.ver, .string o.cls, .bool o.term, .bool o.best, .slice ao o.charge.length co, .int .i64 vr, .slice al xs.length cl] 30) := by rw [hWeq]; repeat (first | (with_reducible exact blk_newAt _ _ (by simp)) | with_reducible refine blk_drew ?_ | with_reducible refine blk_dN ?_ _ | with_reducible refine blk_old ?_ _)
  have hw : Below w.heap.size w W := by rw [hWeq]; repeat (first | with_reducible exact Below.refl _ _ | with_reducible refine Below.drew ?_ | with_reducible refine bl_dN ?_ _ | with_reducible refine Below.alloc ?_ (by simp <;> omega) _)
  clear hWeq
  have hz : w.heap.size + 1 ≤ W.heap.size := by have := blk_lt g0; omega
  have c0_0 : W.cell? ⟨w.heap.size, 0, none⟩ = some (.int .i64 kd) := blk_cell g0 0
  have c0_1 : W.cell? ⟨w.heap.size, 1, none⟩ = some (.string o.key.kind) := blk_cell g0 1
  have c0_2 : W.cell? ⟨w.heap.size, 2, none⟩ = some (.string o.key.space) := blk_cell g0 2
  have c0_3 : W.cell? ⟨w.heap.size, 3, none⟩ = some (.string o.key.name) := blk_cell g0 3
  have c0_4 : W.cell? ⟨w.heap.size, 4, none⟩ = some (.int .i64 o.ver) := blk_cell g0 4
  have c0_5 : W.cell? ⟨w.heap.size, 5, none⟩ = some (.string o.cls) := blk_cell g0 5
  have c0_6 : W.cell? ⟨w.heap.size, 6, none⟩ = some (.bool o.term) := blk_cell g0 6
  have c0_7 : W.cell? ⟨w.heap.size, 7, none⟩ = some (.bool o.best) := blk_cell g0 7
  have c0_8 : W.cell? ⟨w.heap.size, 8, none⟩ = some (.slice ao o.charge.length co) := blk_cell g0 8
  have c0_9 : W.cell? ⟨w.heap.size, 9, none⟩ = some (.int .i64 vr) := blk_cell g0 9
  have c0_10 : W.cell? ⟨w.heap.size, 10, none⟩ = some (.slice al xs.length cl) := blk_cell g0 10
  have f0 : ∀ j, W.frozen? ⟨w.heap.size, j, none⟩ = false := blk_free g0
  have hB : Below W.heap.size W W := Below.refl _ _
  have G0 := Lib.hid g0; clear g0
  have F0 := Lib.hid f0; clear f0
  have Hw := Lib.hid hw; clear hw
  by_cases h0 : kd = 0
  · subst h0
    have HR := Lib.hid (show rightE ⟨0, o, vr, oxs xs⟩ = rightO o from rfl)
    have HC := Lib.hid (fun (U : World) (h : Below w.heap.size w U) => rights1_calls U 0 vr (HO.out.below h) HS.out (HX.out.below h) HSM.out HLL.out)
    unfold evV at HC
    go_upto_region 1 with fail
    have hB := hB.drew
    refine region_seq (fun w' => Below W.heap.size W w') [(1, true), (2, true), (0, false), (3, false), (4, true), (5, true), (6, true), (7, true), (8, true)] (by kernel_rfl) (by kernel_rfl) (fun _ _ _ _ h => h) hB ?_
    try generalize World.drew _ = wS at hB ⊢
    refine seq_take (v := ?_) (a' := ?_) (some 7) rfl rfl (by rfl) ?_ ?_ ?_
    rotate_left; rotate_left
    · intro w' hS; go_simp; with_reducible rfl
    · simp only [Act.put, List.setIfInBounds_toArray, List.set_cons_zero, List.set_cons_succ]; rfl
    refine seq_take (v := ?_) (a' := ?_) (some 8) rfl rfl (by rfl) ?_ ?_ ?_
    rotate_left; rotate_left
    · intro w' hS; have a0 := cb hS c0_0; go_simp; with_reducible rfl
    · simp only [Act.put, List.setIfInBounds_toArray, List.set_cons_zero, List.set_cons_succ]; rfl
    refine seq_call (args := ?_) Try.func60 (by kernel_rfl) rfl (some 6) rfl rfl (by rfl) rfl ?_ ?_
    rotate_left
    · simp only [List.map_toArray, List.map_cons, List.map_nil]; go_simp; rfl
    with_reducible refine (rights_calls _).mono ?_
    rintro e w' ⟨mb, rfl, hm, hb⟩
    have hlk : (Instr.lookup 87 (.map (some mb)) (.int .i64 0) true).run Try.prog w' = .ok (.tuple #[.func (.func 82) #[] #[], .bool true]) w' := rights_look hm (by unfold in64; omega)
    refine ⟨_, rfl, bl_next (by repeat (first | with_reducible exact hB | refine Below.alloc ?_ (by have := hB.size; simp; omega) _ | refine bl_dN ?_ _ | refine Below.drew ?_ | refine Below.setCell ?_ (by have := hB.size; simp; omega) _)) hb, ?_⟩
    have hB := bl_next (by repeat (first | with_reducible exact hB | refine Below.alloc ?_ (by have := hB.size; simp; omega) _ | refine bl_dN ?_ _ | refine Below.drew ?_ | refine Below.setCell ?_ (by have := hB.size; simp; omega) _)) hb; clear hb
    simp only [Act.put, List.setIfInBounds_toArray, List.set_cons_zero, List.set_cons_succ]
    refine seq_op (some 9) rfl rfl (by rfl) ?_
    apply Exists.intro; apply Exists.intro; apply And.intro
    · skip; go_simp; first | exact ⟨rfl, rfl⟩ | rfl
    apply Exists.intro; apply And.intro
    · simp only [Act.put, List.setIfInBounds_toArray, List.set_cons_zero, List.set_cons_succ]; rfl
    apply And.intro
    · exact (by repeat (first | with_reducible exact hB | refine Below.alloc ?_ (by have := hB.size; simp; omega) _ | refine bl_dN ?_ _ | refine Below.drew ?_ | refine Below.setCell ?_ (by have := hB.size; simp; omega) _))
    refine seq_take (v := ?_) (a' := ?_) (some 5) rfl rfl (by rfl) ?_ ?_ ?_
    rotate_left; rotate_left
    · intro w' hS; go_simp; with_reducible rfl
    · simp only [Act.put, List.setIfInBounds_toArray, List.set_cons_zero, List.set_cons_succ]; rfl
    refine seq_take (v := ?_) (a' := ?_) (some 10) rfl rfl (by rfl) ?_ ?_ ?_
    rotate_left; rotate_left
    · intro w' hS; go_simp; with_reducible rfl
    · simp only [Act.put, List.setIfInBounds_toArray, List.set_cons_zero, List.set_cons_succ]; rfl
    refine seq_take (v := ?_) (a' := ?_) (some 11) rfl rfl (by rfl) ?_ ?_ ?_
    rotate_left; rotate_left
    · intro w' hS; go_simp; with_reducible rfl
    · simp only [Act.put, List.setIfInBounds_toArray, List.set_cons_zero, List.set_cons_succ]; rfl
    refine seq_take (v := ?_) (a' := ?_) (some 3) rfl rfl (by rfl) ?_ ?_ ?_
    rotate_left; rotate_left
    · intro w' hS; go_simp; with_reducible rfl
    · simp only [Act.put, List.setIfInBounds_toArray, List.set_cons_zero, List.set_cons_succ]; rfl
    refine seq_take (v := ?_) (a' := ?_) (some 4) rfl rfl (by rfl) ?_ ?_ ?_
    rotate_left; rotate_left
    · intro w' hS; go_simp; with_reducible rfl
    · simp only [Act.put, List.setIfInBounds_toArray, List.set_cons_zero, List.set_cons_succ]; rfl
    refine seq_done ?_
    clear hlk hm
    have k0_0 := cb hB c0_0; have k0_1 := cb hB c0_1; have k0_2 := cb hB c0_2; have k0_3 := cb hB c0_3; have k0_4 := cb hB c0_4; have k0_5 := cb hB c0_5; have k0_6 := cb hB c0_6; have k0_7 := cb hB c0_7; have k0_8 := cb hB c0_8; have k0_9 := cb hB c0_9; have k0_10 := cb hB c0_10
    go_wp2_with (go_at_call 82; refine (HC.out _ (bl_from Hw.out hB)).mono ?_; rintro e w' ⟨rfl, hb⟩; have hB := bl_next hB hb; clear hb)
    go_ret
    exact ⟨ret_bool HR.out.symm, bl_from Hw.out hB⟩
  by_cases h1 : kd = 1
  · subst h1
    have HR := Lib.hid (show rightE ⟨1, o, vr, oxs xs⟩ = (keyOk o.key && decide (1 ≤ o.ver)) from rfl)
    have HC := Lib.hid (fun (U : World) (h : Below w.heap.size w U) => rights2_calls U 1 vr (HO.out.below h) HS.out (HX.out.below h) HSM.out HLL.out)
    unfold evV at HC
    go_upto_region 1 with fail
    have hB := hB.drew
    refine region_seq (fun w' => Below W.heap.size W w') [(1, true), (2, true), (0, false), (3, false), (4, true), (5, true), (6, true), (7, true), (8, true)] (by kernel_rfl) (by kernel_rfl) (fun _ _ _ _ h => h) hB ?_
    try generalize World.drew _ = wS at hB ⊢
    refine seq_take (v := ?_) (a' := ?_) (some 7) rfl rfl (by rfl) ?_ ?_ ?_
    rotate_left; rotate_left
    · intro w' hS; go_simp; with_reducible rfl
    · simp only [Act.put, List.setIfInBounds_toArray, List.set_cons_zero, List.set_cons_succ]; rfl
    refine seq_take (v := ?_) (a' := ?_) (some 8) rfl rfl (by rfl) ?_ ?_ ?_
    rotate_left; rotate_left
    · intro w' hS; have a0 := cb hS c0_0; go_simp; with_reducible rfl
    · simp only [Act.put, List.setIfInBounds_toArray, List.set_cons_zero, List.set_cons_succ]; rfl
    refine seq_call (args := ?_) Try.func60 (by kernel_rfl) rfl (some 6) rfl rfl (by rfl) rfl ?_ ?_
    rotate_left
    · simp only [List.map_toArray, List.map_cons, List.map_nil]; go_simp; rfl
    with_reducible refine (rights_calls _).mono ?_
    rintro e w' ⟨mb, rfl, hm, hb⟩
    have hlk : (Instr.lookup 87 (.map (some mb)) (.int .i64 1) true).run Try.prog w' = .ok (.tuple #[.func (.func 83) #[] #[], .bool true]) w' := rights_look hm (by unfold in64; omega)
    refine ⟨_, rfl, bl_next (by repeat (first | with_reducible exact hB | refine Below.alloc ?_ (by have := hB.size; simp; omega) _ | refine bl_dN ?_ _ | refine Below.drew ?_ | refine Below.setCell ?_ (by have := hB.size; simp; omega) _)) hb, ?_⟩
    have hB := bl_next (by repeat (first | with_reducible exact hB | refine Below.alloc ?_ (by have := hB.size; simp; omega) _ | refine bl_dN ?_ _ | refine Below.drew ?_ | refine Below.setCell ?_ (by have := hB.size; simp; omega) _)) hb; clear hb
    simp only [Act.put, List.setIfInBounds_toArray, List.set_cons_zero, List.set_cons_succ]
    refine seq_op (some 9) rfl rfl (by rfl) ?_
    apply Exists.intro; apply Exists.intro; apply And.intro
    · skip; go_simp; first | exact ⟨rfl, rfl⟩ | rfl
    apply Exists.intro; apply And.intro
    · simp only [Act.put, List.setIfInBounds_toArray, List.set_cons_zero, List.set_cons_succ]; rfl
    apply And.intro
    · exact (by repeat (first | with_reducible exact hB | refine Below.alloc ?_ (by have := hB.size; simp; omega) _ | refine bl_dN ?_ _ | refine Below.drew ?_ | refine Below.setCell ?_ (by have := hB.size; simp; omega) _))
    refine seq_take (v := ?_) (a' := ?_) (some 5) rfl rfl (by rfl) ?_ ?_ ?_
    rotate_left; rotate_left
    · intro w' hS; go_simp; with_reducible rfl
    · simp only [Act.put, List.setIfInBounds_toArray, List.set_cons_zero, List.set_cons_succ]; rfl
    refine seq_take (v := ?_) (a' := ?_) (some 10) rfl rfl (by rfl) ?_ ?_ ?_
    rotate_left; rotate_left
    · intro w' hS; go_simp; with_reducible rfl
    · simp only [Act.put, List.setIfInBounds_toArray, List.set_cons_zero, List.set_cons_succ]; rfl
    refine seq_take (v := ?_) (a' := ?_) (some 11) rfl rfl (by rfl) ?_ ?_ ?_
    rotate_left; rotate_left
    · intro w' hS; go_simp; with_reducible rfl
    · simp only [Act.put, List.setIfInBounds_toArray, List.set_cons_zero, List.set_cons_succ]; rfl
    refine seq_take (v := ?_) (a' := ?_) (some 3) rfl rfl (by rfl) ?_ ?_ ?_
    rotate_left; rotate_left
    · intro w' hS; go_simp; with_reducible rfl
    · simp only [Act.put, List.setIfInBounds_toArray, List.set_cons_zero, List.set_cons_succ]; rfl
    refine seq_take (v := ?_) (a' := ?_) (some 4) rfl rfl (by rfl) ?_ ?_ ?_
    rotate_left; rotate_left
    · intro w' hS; go_simp; with_reducible rfl
    · simp only [Act.put, List.setIfInBounds_toArray, List.set_cons_zero, List.set_cons_succ]; rfl
    refine seq_done ?_
    clear hlk hm
    have k0_0 := cb hB c0_0; have k0_1 := cb hB c0_1; have k0_2 := cb hB c0_2; have k0_3 := cb hB c0_3; have k0_4 := cb hB c0_4; have k0_5 := cb hB c0_5; have k0_6 := cb hB c0_6; have k0_7 := cb hB c0_7; have k0_8 := cb hB c0_8; have k0_9 := cb hB c0_9; have k0_10 := cb hB c0_10
    go_wp2_with (go_at_call 83; refine (HC.out _ (bl_from Hw.out hB)).mono ?_; rintro e w' ⟨rfl, hb⟩; have hB := bl_next hB hb; clear hb)
    go_ret
    exact ⟨ret_bool HR.out.symm, bl_from Hw.out hB⟩
  by_cases h2 : kd = 2
  · subst h2
    have HR := Lib.hid (show rightE ⟨2, o, vr, oxs xs⟩ = relB vr (oxs xs) from rfl)
    have HC := Lib.hid (fun (U : World) (h : Below w.heap.size w U) => relist_calls U 2 vr (HO.out.below h) HS.out (HX.out.below h) HSM.out HLL.out)
    unfold evV at HC
    go_upto_region 1 with fail
    have hB := hB.drew
    refine region_seq (fun w' => Below W.heap.size W w') [(1, true), (2, true), (0, false), (3, false), (4, true), (5, true), (6, true), (7, true), (8, true)] (by kernel_rfl) (by kernel_rfl) (fun _ _ _ _ h => h) hB ?_
    try generalize World.drew _ = wS at hB ⊢
    refine seq_take (v := ?_) (a' := ?_) (some 7) rfl rfl (by rfl) ?_ ?_ ?_
    rotate_left; rotate_left
    · intro w' hS; go_simp; with_reducible rfl
    · simp only [Act.put, List.setIfInBounds_toArray, List.set_cons_zero, List.set_cons_succ]; rfl
    refine seq_take (v := ?_) (a' := ?_) (some 8) rfl rfl (by rfl) ?_ ?_ ?_
    rotate_left; rotate_left
    · intro w' hS; have a0 := cb hS c0_0; go_simp; with_reducible rfl
    · simp only [Act.put, List.setIfInBounds_toArray, List.set_cons_zero, List.set_cons_succ]; rfl
    refine seq_call (args := ?_) Try.func60 (by kernel_rfl) rfl (some 6) rfl rfl (by rfl) rfl ?_ ?_
    rotate_left
    · simp only [List.map_toArray, List.map_cons, List.map_nil]; go_simp; rfl
    with_reducible refine (rights_calls _).mono ?_
    rintro e w' ⟨mb, rfl, hm, hb⟩
    have hlk : (Instr.lookup 87 (.map (some mb)) (.int .i64 2) true).run Try.prog w' = .ok (.tuple #[.func (.func 84) #[] #[], .bool true]) w' := rights_look hm (by unfold in64; omega)
    refine ⟨_, rfl, bl_next (by repeat (first | with_reducible exact hB | refine Below.alloc ?_ (by have := hB.size; simp; omega) _ | refine bl_dN ?_ _ | refine Below.drew ?_ | refine Below.setCell ?_ (by have := hB.size; simp; omega) _)) hb, ?_⟩
    have hB := bl_next (by repeat (first | with_reducible exact hB | refine Below.alloc ?_ (by have := hB.size; simp; omega) _ | refine bl_dN ?_ _ | refine Below.drew ?_ | refine Below.setCell ?_ (by have := hB.size; simp; omega) _)) hb; clear hb
    simp only [Act.put, List.setIfInBounds_toArray, List.set_cons_zero, List.set_cons_succ]
    refine seq_op (some 9) rfl rfl (by rfl) ?_
    apply Exists.intro; apply Exists.intro; apply And.intro
    · skip; go_simp; first | exact ⟨rfl, rfl⟩ | rfl
    apply Exists.intro; apply And.intro
    · simp only [Act.put, List.setIfInBounds_toArray, List.set_cons_zero, List.set_cons_succ]; rfl
    apply And.intro
    · exact (by repeat (first | with_reducible exact hB | refine Below.alloc ?_ (by have := hB.size; simp; omega) _ | refine bl_dN ?_ _ | refine Below.drew ?_ | refine Below.setCell ?_ (by have := hB.size; simp; omega) _))
    refine seq_take (v := ?_) (a' := ?_) (some 5) rfl rfl (by rfl) ?_ ?_ ?_
    rotate_left; rotate_left
    · intro w' hS; go_simp; with_reducible rfl
    · simp only [Act.put, List.setIfInBounds_toArray, List.set_cons_zero, List.set_cons_succ]; rfl
    refine seq_take (v := ?_) (a' := ?_) (some 10) rfl rfl (by rfl) ?_ ?_ ?_
    rotate_left; rotate_left
    · intro w' hS; go_simp; with_reducible rfl
    · simp only [Act.put, List.setIfInBounds_toArray, List.set_cons_zero, List.set_cons_succ]; rfl
    refine seq_take (v := ?_) (a' := ?_) (some 11) rfl rfl (by rfl) ?_ ?_ ?_
    rotate_left; rotate_left
    · intro w' hS; go_simp; with_reducible rfl
    · simp only [Act.put, List.setIfInBounds_toArray, List.set_cons_zero, List.set_cons_succ]; rfl
    refine seq_take (v := ?_) (a' := ?_) (some 3) rfl rfl (by rfl) ?_ ?_ ?_
    rotate_left; rotate_left
    · intro w' hS; go_simp; with_reducible rfl
    · simp only [Act.put, List.setIfInBounds_toArray, List.set_cons_zero, List.set_cons_succ]; rfl
    refine seq_take (v := ?_) (a' := ?_) (some 4) rfl rfl (by rfl) ?_ ?_ ?_
    rotate_left; rotate_left
    · intro w' hS; go_simp; with_reducible rfl
    · simp only [Act.put, List.setIfInBounds_toArray, List.set_cons_zero, List.set_cons_succ]; rfl
    refine seq_done ?_
    clear hlk hm
    have k0_0 := cb hB c0_0; have k0_1 := cb hB c0_1; have k0_2 := cb hB c0_2; have k0_3 := cb hB c0_3; have k0_4 := cb hB c0_4; have k0_5 := cb hB c0_5; have k0_6 := cb hB c0_6; have k0_7 := cb hB c0_7; have k0_8 := cb hB c0_8; have k0_9 := cb hB c0_9; have k0_10 := cb hB c0_10
    go_wp2_with (go_at_call 84; refine (HC.out _ (bl_from Hw.out hB)).mono ?_; rintro e w' ⟨rfl, hb⟩; have hB := bl_next hB hb; clear hb)
    go_ret
    exact ⟨ret_bool HR.out.symm, bl_from Hw.out hB⟩
  by_cases h3 : kd = 3
  · subst h3
    have HR := Lib.hid (show rightE ⟨3, o, vr, oxs xs⟩ = decide (0 ≤ vr) from rfl)
    have HC := Lib.hid (fun (U : World) (h : Below w.heap.size w U) => rights3_calls U 3 vr (HO.out.below h) HS.out (HX.out.below h) HSM.out HLL.out)
    unfold evV at HC
    go_upto_region 1 with fail
    have hB := hB.drew
    refine region_seq (fun w' => Below W.heap.size W w') [(1, true), (2, true), (0, false), (3, false), (4, true), (5, true), (6, true), (7, true), (8, true)] (by kernel_rfl) (by kernel_rfl) (fun _ _ _ _ h => h) hB ?_
    try generalize World.drew _ = wS at hB ⊢
    refine seq_take (v := ?_) (a' := ?_) (some 7) rfl rfl (by rfl) ?_ ?_ ?_
    rotate_left; rotate_left
    · intro w' hS; go_simp; with_reducible rfl
    · simp only [Act.put, List.setIfInBounds_toArray, List.set_cons_zero, List.set_cons_succ]; rfl
    refine seq_take (v := ?_) (a' := ?_) (some 8) rfl rfl (by rfl) ?_ ?_ ?_
    rotate_left; rotate_left
    · intro w' hS; have a0 := cb hS c0_0; go_simp; with_reducible rfl
    · simp only [Act.put, List.setIfInBounds_toArray, List.set_cons_zero, List.set_cons_succ]; rfl
    refine seq_call (args := ?_) Try.func60 (by kernel_rfl) rfl (some 6) rfl rfl (by rfl) rfl ?_ ?_
    rotate_left
    · simp only [List.map_toArray, List.map_cons, List.map_nil]; go_simp; rfl
    with_reducible refine (rights_calls _).mono ?_
    rintro e w' ⟨mb, rfl, hm, hb⟩
    have hlk : (Instr.lookup 87 (.map (some mb)) (.int .i64 3) true).run Try.prog w' = .ok (.tuple #[.func (.func 85) #[] #[], .bool true]) w' := rights_look hm (by unfold in64; omega)
    refine ⟨_, rfl, bl_next (by repeat (first | with_reducible exact hB | refine Below.alloc ?_ (by have := hB.size; simp; omega) _ | refine bl_dN ?_ _ | refine Below.drew ?_ | refine Below.setCell ?_ (by have := hB.size; simp; omega) _)) hb, ?_⟩
    have hB := bl_next (by repeat (first | with_reducible exact hB | refine Below.alloc ?_ (by have := hB.size; simp; omega) _ | refine bl_dN ?_ _ | refine Below.drew ?_ | refine Below.setCell ?_ (by have := hB.size; simp; omega) _)) hb; clear hb
    simp only [Act.put, List.setIfInBounds_toArray, List.set_cons_zero, List.set_cons_succ]
    refine seq_op (some 9) rfl rfl (by rfl) ?_
    apply Exists.intro; apply Exists.intro; apply And.intro
    · skip; go_simp; first | exact ⟨rfl, rfl⟩ | rfl
    apply Exists.intro; apply And.intro
    · simp only [Act.put, List.setIfInBounds_toArray, List.set_cons_zero, List.set_cons_succ]; rfl
    apply And.intro
    · exact (by repeat (first | with_reducible exact hB | refine Below.alloc ?_ (by have := hB.size; simp; omega) _ | refine bl_dN ?_ _ | refine Below.drew ?_ | refine Below.setCell ?_ (by have := hB.size; simp; omega) _))
    refine seq_take (v := ?_) (a' := ?_) (some 5) rfl rfl (by rfl) ?_ ?_ ?_
    rotate_left; rotate_left
    · intro w' hS; go_simp; with_reducible rfl
    · simp only [Act.put, List.setIfInBounds_toArray, List.set_cons_zero, List.set_cons_succ]; rfl
    refine seq_take (v := ?_) (a' := ?_) (some 10) rfl rfl (by rfl) ?_ ?_ ?_
    rotate_left; rotate_left
    · intro w' hS; go_simp; with_reducible rfl
    · simp only [Act.put, List.setIfInBounds_toArray, List.set_cons_zero, List.set_cons_succ]; rfl
    refine seq_take (v := ?_) (a' := ?_) (some 11) rfl rfl (by rfl) ?_ ?_ ?_
    rotate_left; rotate_left
    · intro w' hS; go_simp; with_reducible rfl
    · simp only [Act.put, List.setIfInBounds_toArray, List.set_cons_zero, List.set_cons_succ]; rfl
    refine seq_take (v := ?_) (a' := ?_) (some 3) rfl rfl (by rfl) ?_ ?_ ?_
    rotate_left; rotate_left
    · intro w' hS; go_simp; with_reducible rfl
    · simp only [Act.put, List.setIfInBounds_toArray, List.set_cons_zero, List.set_cons_succ]; rfl
    refine seq_take (v := ?_) (a' := ?_) (some 4) rfl rfl (by rfl) ?_ ?_ ?_
    rotate_left; rotate_left
    · intro w' hS; go_simp; with_reducible rfl
    · simp only [Act.put, List.setIfInBounds_toArray, List.set_cons_zero, List.set_cons_succ]; rfl
    refine seq_done ?_
    clear hlk hm
    have k0_0 := cb hB c0_0; have k0_1 := cb hB c0_1; have k0_2 := cb hB c0_2; have k0_3 := cb hB c0_3; have k0_4 := cb hB c0_4; have k0_5 := cb hB c0_5; have k0_6 := cb hB c0_6; have k0_7 := cb hB c0_7; have k0_8 := cb hB c0_8; have k0_9 := cb hB c0_9; have k0_10 := cb hB c0_10
    go_wp2_with (go_at_call 85; refine (HC.out _ (bl_from Hw.out hB)).mono ?_; rintro e w' ⟨rfl, hb⟩; have hB := bl_next hB hb; clear hb)
    go_ret
    exact ⟨ret_bool HR.out.symm, bl_from Hw.out hB⟩
  · have HR := Lib.hid (show rightE ⟨kd, o, vr, oxs xs⟩ = false by unfold rightE; simp only; rw [if_neg h0, if_neg h1, if_neg h2, if_neg h3])
    have HN := Lib.hid (rights_none h0 h1 h2 h3)
    have HK := Lib.hid hkd
    clear h0 h1 h2 h3 hkd
    go_upto_region 1 with fail
    have hB := hB.drew
    refine region_seq (fun w' => Below W.heap.size W w') [(1, true), (2, true), (0, false), (3, false), (4, true), (5, true), (6, true), (7, true), (8, true)] (by kernel_rfl) (by kernel_rfl) (fun _ _ _ _ h => h) hB ?_
    try generalize World.drew _ = wS at hB ⊢
    refine seq_take (v := ?_) (a' := ?_) (some 7) rfl rfl (by rfl) ?_ ?_ ?_
    rotate_left; rotate_left
    · intro w' hS; go_simp; with_reducible rfl
    · simp only [Act.put, List.setIfInBounds_toArray, List.set_cons_zero, List.set_cons_succ]; rfl
    refine seq_take (v := ?_) (a' := ?_) (some 8) rfl rfl (by rfl) ?_ ?_ ?_
    rotate_left; rotate_left
    · intro w' hS; have a0 := cb hS c0_0; go_simp; with_reducible rfl
    · simp only [Act.put, List.setIfInBounds_toArray, List.set_cons_zero, List.set_cons_succ]; rfl
    refine seq_call (args := ?_) Try.func60 (by kernel_rfl) rfl (some 6) rfl rfl (by rfl) rfl ?_ ?_
    rotate_left
    · simp only [List.map_toArray, List.map_cons, List.map_nil]; go_simp; rfl
    with_reducible refine (rights_calls _).mono ?_
    rintro e w' ⟨mb, rfl, hm, hb⟩
    have hlk : (Instr.lookup 87 (.map (some mb)) (.int .i64 kd) true).run Try.prog w' = .ok (.tuple #[.nilFunc, .bool false]) w' := by (have q := rights_look hm HK.out; rw [HN.out.1, HN.out.2] at q; exact q)
    refine ⟨_, rfl, bl_next (by repeat (first | with_reducible exact hB | refine Below.alloc ?_ (by have := hB.size; simp; omega) _ | refine bl_dN ?_ _ | refine Below.drew ?_ | refine Below.setCell ?_ (by have := hB.size; simp; omega) _)) hb, ?_⟩
    have hB := bl_next (by repeat (first | with_reducible exact hB | refine Below.alloc ?_ (by have := hB.size; simp; omega) _ | refine bl_dN ?_ _ | refine Below.drew ?_ | refine Below.setCell ?_ (by have := hB.size; simp; omega) _)) hb; clear hb
    simp only [Act.put, List.setIfInBounds_toArray, List.set_cons_zero, List.set_cons_succ]
    refine seq_op (some 9) rfl rfl (by rfl) ?_
    apply Exists.intro; apply Exists.intro; apply And.intro
    · skip; go_simp; first | exact ⟨rfl, rfl⟩ | rfl
    apply Exists.intro; apply And.intro
    · simp only [Act.put, List.setIfInBounds_toArray, List.set_cons_zero, List.set_cons_succ]; rfl
    apply And.intro
    · exact (by repeat (first | with_reducible exact hB | refine Below.alloc ?_ (by have := hB.size; simp; omega) _ | refine bl_dN ?_ _ | refine Below.drew ?_ | refine Below.setCell ?_ (by have := hB.size; simp; omega) _))
    refine seq_take (v := ?_) (a' := ?_) (some 5) rfl rfl (by rfl) ?_ ?_ ?_
    rotate_left; rotate_left
    · intro w' hS; go_simp; with_reducible rfl
    · simp only [Act.put, List.setIfInBounds_toArray, List.set_cons_zero, List.set_cons_succ]; rfl
    refine seq_take (v := ?_) (a' := ?_) (some 10) rfl rfl (by rfl) ?_ ?_ ?_
    rotate_left; rotate_left
    · intro w' hS; go_simp; with_reducible rfl
    · simp only [Act.put, List.setIfInBounds_toArray, List.set_cons_zero, List.set_cons_succ]; rfl
    refine seq_take (v := ?_) (a' := ?_) (some 11) rfl rfl (by rfl) ?_ ?_ ?_
    rotate_left; rotate_left
    · intro w' hS; go_simp; with_reducible rfl
    · simp only [Act.put, List.setIfInBounds_toArray, List.set_cons_zero, List.set_cons_succ]; rfl
    refine seq_take (v := ?_) (a' := ?_) (some 3) rfl rfl (by rfl) ?_ ?_ ?_
    rotate_left; rotate_left
    · intro w' hS; go_simp; with_reducible rfl
    · simp only [Act.put, List.setIfInBounds_toArray, List.set_cons_zero, List.set_cons_succ]; rfl
    refine seq_take (v := ?_) (a' := ?_) (some 4) rfl rfl (by rfl) ?_ ?_ ?_
    rotate_left; rotate_left
    · intro w' hS; go_simp; with_reducible rfl
    · simp only [Act.put, List.setIfInBounds_toArray, List.set_cons_zero, List.set_cons_succ]; rfl
    refine seq_done ?_
    clear hlk hm
    have k0_0 := cb hB c0_0; have k0_1 := cb hB c0_1; have k0_2 := cb hB c0_2; have k0_3 := cb hB c0_3; have k0_4 := cb hB c0_4; have k0_5 := cb hB c0_5; have k0_6 := cb hB c0_6; have k0_7 := cb hB c0_7; have k0_8 := cb hB c0_8; have k0_9 := cb hB c0_9; have k0_10 := cb hB c0_10
    go_wp2_with fail
    go_ret
    exact ⟨ret_bool HR.out.symm, bl_from Hw.out hB⟩
set_option maxRecDepth 100000 in
set_option maxHeartbeats 8000000 in
theorem evver_calls (w : World) (kd : Int) {o : ObjD} {sl : Value} (vr : Int) {ol : Value} {xs : List OX} (ho : ObjS w sl o) (hs : objSmall o) (hx : ObjsS w ol xs) (hxs : OSmall (oxs xs)) (hkd : in64 kd) (hl : xs.length ≤ 1000000) :
    Calls Try.prog 14 #[evV kd o sl vr ol] w fun e w' => e = .returned (.tuple #[.int .i64 (verE ⟨kd, o, vr, oxs xs⟩).1, .int .i64 (verE ⟨kd, o, vr, oxs xs⟩).2]) ∧ Below w.heap.size w w' := by
  have HO := Lib.hid ho; have HX := Lib.hid hx; have HSM := Lib.hid hxs; have HS := Lib.hid hs
  obtain ⟨ao, co, rfl⟩ := ho.1.form
  obtain ⟨al, cl, rfl⟩ := hx.form
  have HC := Lib.hid (fun (U : World) (h : Below w.heap.size w U) => evright_calls U kd vr (HO.out.below h) HS.out (HX.out.below h) HSM.out hkd hl)
  obtain ⟨rb, hrb⟩ : ∃ b, rightE ⟨kd, o, vr, oxs xs⟩ = b := ⟨_, rfl⟩
  have HRB := Lib.hid hrb
  have HV := Lib.hid (show verE ⟨kd, o, vr, oxs xs⟩ = if rb then (if kd = 0 ∨ kd = 1 then o.ver else vr, 0) else (0, 1) by rw [← hrb]; rfl)
  clear ho hx hxs hs hl hrb hkd
  unfold evV at HC
  unfold evV
  go_enter Try.func14, Try.ntmps14
  go_upto_region 1 with fail
  first | with_reducible refine name_wp ?_ | with_reducible refine name_calls ?_
  intro W hWeq
  have g0 : W.heap[w.heap.size]? = some (.cells #[.int .i64 kd, .string o.key.kind, .string o.key.space, .string o.key.name, .int .i64 o.ver, .string o.cls, .bool o.term, .bool o.best, .slice ao o.charge.length co, .int .i64 vr, .slice al xs.length cl] 30) := by rw [hWeq]; repeat (first | (with_reducible exact blk_newAt _ _ (by simp)) | with_reducible refine blk_drew ?_ | with_reducible refine blk_dN ?_ _ | with_reducible refine blk_old ?_ _)
  have hw : Below w.heap.size w W := by rw [hWeq]; repeat (first | with_reducible exact Below.refl _ _ | with_reducible refine Below.drew ?_ | with_reducible refine bl_dN ?_ _ | with_reducible refine Below.alloc ?_ (by simp <;> omega) _)
  clear hWeq
  have hz : w.heap.size + 1 ≤ W.heap.size := by have := blk_lt g0; omega
  have c0_0 : W.cell? ⟨w.heap.size, 0, none⟩ = some (.int .i64 kd) := blk_cell g0 0
  have c0_1 : W.cell? ⟨w.heap.size, 1, none⟩ = some (.string o.key.kind) := blk_cell g0 1
  have c0_2 : W.cell? ⟨w.heap.size, 2, none⟩ = some (.string o.key.space) := blk_cell g0 2
  have c0_3 : W.cell? ⟨w.heap.size, 3, none⟩ = some (.string o.key.name) := blk_cell g0 3
  have c0_4 : W.cell? ⟨w.heap.size, 4, none⟩ = some (.int .i64 o.ver) := blk_cell g0 4
  have c0_5 : W.cell? ⟨w.heap.size, 5, none⟩ = some (.string o.cls) := blk_cell g0 5
  have c0_6 : W.cell? ⟨w.heap.size, 6, none⟩ = some (.bool o.term) := blk_cell g0 6
  have c0_7 : W.cell? ⟨w.heap.size, 7, none⟩ = some (.bool o.best) := blk_cell g0 7
  have c0_8 : W.cell? ⟨w.heap.size, 8, none⟩ = some (.slice ao o.charge.length co) := blk_cell g0 8
  have c0_9 : W.cell? ⟨w.heap.size, 9, none⟩ = some (.int .i64 vr) := blk_cell g0 9
  have c0_10 : W.cell? ⟨w.heap.size, 10, none⟩ = some (.slice al xs.length cl) := blk_cell g0 10
  have f0 : ∀ j, W.frozen? ⟨w.heap.size, j, none⟩ = false := blk_free g0
  have hB : Below W.heap.size W W := Below.refl _ _
  have G0 := Lib.hid g0; clear g0
  have F0 := Lib.hid f0; clear f0
  have Hw := Lib.hid hw; clear hw
  cases rb with
  | false =>
    go_wp2_with (go_at_call 21; refine (HC.out _ Hw.out).mono ?_; rintro e w' ⟨rfl, hb⟩; rw [HRB.out]; have hB := bl_next hB hb; clear hb)
    go_ret2
    exact ⟨ret_ver (by rw [HV.out]; rfl) (by rw [HV.out]; rfl), bl_from Hw.out hB⟩
  | true =>
    by_cases h0 : kd = 0
    · subst h0
      go_wp2_with (go_at_call 21; refine (HC.out _ Hw.out).mono ?_; rintro e w' ⟨rfl, hb⟩; rw [HRB.out]; have hB := bl_next hB hb; clear hb; have k0_0 := cb hB c0_0; have k0_1 := cb hB c0_1; have k0_2 := cb hB c0_2; have k0_3 := cb hB c0_3; have k0_4 := cb hB c0_4; have k0_5 := cb hB c0_5; have k0_6 := cb hB c0_6; have k0_7 := cb hB c0_7; have k0_8 := cb hB c0_8; have k0_9 := cb hB c0_9; have k0_10 := cb hB c0_10)
      go_ret2
      exact ⟨ret_ver (by rw [HV.out]; rfl) (by rw [HV.out]; rfl), bl_from Hw.out hB⟩
    · have b0 : (kd == 0) = false := by simpa using h0
      by_cases h1 : kd = 1
      · subst h1
        go_wp2_with (go_at_call 21; refine (HC.out _ Hw.out).mono ?_; rintro e w' ⟨rfl, hb⟩; rw [HRB.out]; have hB := bl_next hB hb; clear hb; have k0_0 := cb hB c0_0; have k0_1 := cb hB c0_1; have k0_2 := cb hB c0_2; have k0_3 := cb hB c0_3; have k0_4 := cb hB c0_4; have k0_5 := cb hB c0_5; have k0_6 := cb hB c0_6; have k0_7 := cb hB c0_7; have k0_8 := cb hB c0_8; have k0_9 := cb hB c0_9; have k0_10 := cb hB c0_10)
        go_ret2
        exact ⟨ret_ver (by rw [HV.out]; rfl) (by rw [HV.out]; rfl), bl_from Hw.out hB⟩
      · have b1 : (kd == 1) = false := by simpa using h1
        have HVV := Lib.hid (show verE ⟨kd, o, vr, oxs xs⟩ = (vr, 0) by rw [HV.out, if_pos rfl, if_neg (by omega)])
        go_wp2_with (go_at_call 21; refine (HC.out _ Hw.out).mono ?_; rintro e w' ⟨rfl, hb⟩; rw [HRB.out]; have hB := bl_next hB hb; clear hb; have k0_0 := cb hB c0_0; have k0_1 := cb hB c0_1; have k0_2 := cb hB c0_2; have k0_3 := cb hB c0_3; have k0_4 := cb hB c0_4; have k0_5 := cb hB c0_5; have k0_6 := cb hB c0_6; have k0_7 := cb hB c0_7; have k0_8 := cb hB c0_8; have k0_9 := cb hB c0_9; have k0_10 := cb hB c0_10)
        go_ret2
        exact ⟨ret_ver (by rw [HVV.out]) (by rw [HVV.out]), bl_from Hw.out hB⟩
set_option maxRecDepth 100000 in
set_option maxHeartbeats 8000000 in
theorem eqf_calls (w : World) {u v : Value} {l m : List OX} (hu : ObjsS w u l) (hv : ObjsS w v m) (hl : l.length ≤ 1000000) (hm : m.length ≤ 1000000) (hsl : OSmall (oxs l)) (hsm : OSmall (oxs m)) :
    Calls Try.prog 64 #[u, v, .func (.func 63) #[] #[]] w fun e w' => e = .returned (.bool (decide (oxs l = oxs m))) ∧ Below w.heap.size w w' := by
  have hB := Below.refl w.heap.size w
  have HU := Lib.hid hu
  have HV := Lib.hid hv
  have HSL := Lib.hid hsl; have HSM := Lib.hid hsm
  obtain ⟨au, cu, rfl⟩ := hu.form
  obtain ⟨av, cv, rfl⟩ := hv.form
  clear hu hv hsl hsm
  by_cases hlen : l.length = m.length
  · have HL := Lib.hid hlen
    rw [hlen] at hl ⊢
    rw [hlen] at HU
    have HLM := Lib.hid (show ∀ j (h1 : j < m.length), j < l.length from fun j h => by omega)
    clear hlen
    go_enter Try.func64, Try.ntmps64
    go_wp2
    go_loopw [17] (fun i wr => ∃ k : Nat, i = .int .i64 k ∧ k ≤ m.length ∧ Hid ((oxs l).take k = (oxs m).take k) ∧ Hid (Below w.heap.size w wr)) (fun i _ => m.length - (intOf i).toNat)
    case atStart => exact ⟨0, rfl, Nat.zero_le _, Lib.hid rfl, Lib.hid hB⟩
    case round =>
      clear hB
      obtain ⟨k, rfl, hk, HT, HBr⟩ := hrel
      by_cases hkl : k < m.length
      · have hkI : (k : Int) < m.length := by omega
        have hk2 := HLM.out k hkl
        obtain ⟨b1, o1, d1, he1, q1, s1⟩ := HU.out.at' hk2
        obtain ⟨b2, o2, d2, he2, q2, s2⟩ := HV.out.at' hkl
        rw [HL.out] at he1
        cases he1
        cases he2
        have HX := Lib.hid (oxs_take hk2)
        have HY := Lib.hid (oxs_take hkl)
        have HNE := Lib.hid (show (l[k]'hk2).1 ≠ (m[k]'hkl).1 → oxs l ≠ oxs m from fun h e => h (by
          have e1 : (oxs l)[k]? = some (l[k]'hk2).1 := by simp [oxs, hk2]
          have e2 : (oxs m)[k]? = some (m[k]'hkl).1 := by simp [oxs, hkl]
          rw [e, e2] at e1; exact (Option.some.inj e1).symm))
        have z1 := small_at HSL.out hk2
        have z2 := small_at HSM.out hkl
        generalize l[k]'hk2 = x at q1 s1 z1 HX HNE
        generalize m[k]'hkl = y at q2 s2 z2 HY HNE
        obtain ⟨x1, x2⟩ := x
        obtain ⟨y1, y2⟩ := y
        simp only at s1 s2 z1 z2 HX HY HNE
        obtain ⟨ax, cx, rfl⟩ := s1.1.form
        obtain ⟨ay, cy, rfl⟩ := s2.1.form
        obtain ⟨V, rfl⟩ : ∃ V : World, V = wr := ⟨_, rfl⟩
        have q1 := q1.below HBr.out; have q2 := q2.below HBr.out
        have S1 := Lib.hid (s1.below HBr.out); have S2 := Lib.hid (s2.below HBr.out)
        have hz : x1.charge.length ≤ 1000000 ∧ y1.charge.length ≤ 1000000 := by have := z1.2.2.1; have := z2.2.2.1; omega
        have a0 := q1.c0; have a1 := q1.c1; have a2 := q1.c2; have a3 := q1.c3; have a4 := q1.c4; have a5 := q1.c5; have a6 := q1.c6; have a7 := q1.c7
        have b0 := q2.c0; have b1' := q2.c1; have b2' := q2.c2; have b3 := q2.c3; have b4 := q2.c4; have b5 := q2.c5; have b6 := q2.c6; have b7 := q2.c7
        simp only at a0 a1 a2 a3 a4 a5 a6 a7 b0 b1' b2' b3 b4 b5 b6 b7
        have hlt1 := lt_of_cell a0; have hlt2 := lt_of_cell b0
        simp only at hlt1 hlt2
        clear q1 q2 s1 s2 z1 z2
        have HC := Lib.hid (fun (U : World) (h : Below V.heap.size V U) => osame_calls U (S1.out.below h) (S2.out.below h) hz)
        clear hz
        unfold objV at HC
        obtain ⟨sb, hsb⟩ : ∃ b, sameO x1 y1 = b := ⟨_, rfl⟩
        have HSB := Lib.hid hsb
        clear hsb
        have hVw := HBr.out.size
        go_upto_region 7 with fail
        first | with_reducible refine name_wp ?_ | with_reducible refine name_calls ?_
        intro U hU
        have hw9 : Below V.heap.size V U := by rw [hU]; exact ((Below.refl V.heap.size V).alloc (Nat.le_refl _) _).alloc (by simp) _
        clear a0 a1 a2 a3 a4 a5 a6 a7 b0 b1' b2' b3 b4 b5 b6 b7
        have gA : U.heap[V.heap.size]? = some (.cells #[.string x1.key.kind, .string x1.key.space, .string x1.key.name, .int .i64 x1.ver, .string x1.cls, .bool x1.term, .bool x1.best, .slice ax x1.charge.length cx] 27) := by rw [hU]; exact blk_old (blk_new V _) _
        have gB : U.heap[V.heap.size + 1]? = some (.cells #[.string y1.key.kind, .string y1.key.space, .string y1.key.name, .int .i64 y1.ver, .string y1.cls, .bool y1.term, .bool y1.best, .slice ay y1.charge.length cy] 27) := by rw [hU]; exact blk_new1 V _ _
        clear hU
        have a0 := blk_cell gA 0; have a1 := blk_cell gA 1; have a2 := blk_cell gA 2; have a3 := blk_cell gA 3; have a4 := blk_cell gA 4; have a5 := blk_cell gA 5; have a6 := blk_cell gA 6; have a7 := blk_cell gA 7
        have b0 := blk_cell gB 0; have b1' := blk_cell gB 1; have b2' := blk_cell gB 2; have b3 := blk_cell gB 3; have b4 := blk_cell gB 4; have b5 := blk_cell gB 5; have b6 := blk_cell gB 6; have b7 := blk_cell gB 7
        clear gA gB
        have HBU := Lib.hid (bl_next HBr.out hw9)
        have HW9 := Lib.hid hw9
        clear hw9
        cases sb with
        | true =>
          have HXY := Lib.hid (show x1 = y1 from objD_ext HSB.out)
          go_wp2_with (go_at_call 63; refine (HC.out _ HW9.out).mono ?_; rintro e w' ⟨rfl, hb⟩; rw [HSB.out]; have HBq := Lib.hid (bl_next HBU.out hb); clear hb)
          go_roundw
          case rel => exact ⟨k + 1, by simp, by omega, Lib.hid (by rw [HX.out, HY.out, HT.out, HXY.out]), HBq⟩
          case measure => simp [intOf]; omega
        | false =>
          have HXY := Lib.hid (HNE.out (fun e => by have := HSB.out; rw [e, sameO_refl] at this; cases this))
          go_wp2_with (go_at_call 63; refine (HC.out _ HW9.out).mono ?_; rintro e w' ⟨rfl, hb⟩; rw [HSB.out]; have HBq := Lib.hid (bl_next HBU.out hb); clear hb)
          go_ret
          exact ⟨ret_bool (by rw [decide_eq_false HXY.out]), HBq.out⟩
      · obtain rfl : k = m.length := by omega
        go_wp2
        go_ret
        exact ⟨ret_bool (by rw [decide_eq_true]; have := HT.out; rw [← oxs_len m, List.take_length, oxs_len, ← HL.out, ← oxs_len l, List.take_length] at this; exact this), HBr.out⟩
  · have hlm : ¬ (l.length = m.length) := hlen
    have HNE := Lib.hid (show oxs l ≠ oxs m from fun e => hlen (by rw [← oxs_len, e, oxs_len]))
    clear hlen
    go_enter Try.func64, Try.ntmps64
    go_wp2
    go_ret
    exact ⟨ret_bool (by rw [decide_eq_false HNE.out]), hB⟩
set_option maxRecDepth 100000 in
set_option maxHeartbeats 8000000 in
theorem evsame_calls (w : World) (kd kd' : Int) {o o' : ObjD} {sl sl' : Value} (vr vr' : Int) {ol ol' : Value} {xs ys : List OX} (ho : ObjS w sl o) (hs : objSmall o) (hx : ObjsS w ol xs) (hxs : OSmall (oxs xs)) (hl : xs.length ≤ 1000000) (ho' : ObjS w sl' o') (hs' : objSmall o') (hx' : ObjsS w ol' ys) (hys : OSmall (oxs ys)) (hl' : ys.length ≤ 1000000) :
    Calls Try.prog 23 #[evV kd o sl vr ol, evV kd' o' sl' vr' ol'] w fun e w' => e = .returned (.bool (sameE ⟨kd, o, vr, oxs xs⟩ ⟨kd', o', vr', oxs ys⟩)) ∧ Below w.heap.size w w' := by
  have HO := Lib.hid ho; have HX := Lib.hid hx; have HSM := Lib.hid hxs; have HS := Lib.hid hs
  have HO' := Lib.hid ho'; have HX' := Lib.hid hx'; have HSM' := Lib.hid hys; have HS' := Lib.hid hs'
  have hch : o.charge.length ≤ 1000000 ∧ o'.charge.length ≤ 1000000 := by have := hs.2.2.1; have := hs'.2.2.1; omega
  obtain ⟨ao, co, rfl⟩ := ho.1.form
  obtain ⟨al, cl, rfl⟩ := hx.form
  obtain ⟨ao', co', rfl⟩ := ho'.1.form
  obtain ⟨al', cl', rfl⟩ := hx'.form
  have HC1 := Lib.hid (fun (U : World) (h : Below w.heap.size w U) => osame_calls U (HO.out.below h) (HO'.out.below h) hch)
  have HC2 := Lib.hid (fun (U : World) (h : Below w.heap.size w U) => eqf_calls U (HX.out.below h) (HX'.out.below h) hl hl' HSM.out HSM'.out)
  obtain ⟨s1, hs1⟩ : ∃ b, sameO o o' = b := ⟨_, rfl⟩
  obtain ⟨s2, hs2⟩ : ∃ b, decide (oxs xs = oxs ys) = b := ⟨_, rfl⟩
  have HE := Lib.hid (show sameE ⟨kd, o, vr, oxs xs⟩ ⟨kd', o', vr', oxs ys⟩ = (s1 && s2 && decide (kd = kd') && decide (vr = vr')) by rw [← hs1, ← hs2]; rfl)
  have HS1 := Lib.hid hs1; have HS2 := Lib.hid hs2
  clear ho hx hxs hs hl ho' hx' hys hs' hl' hch hs1 hs2
  unfold objV at HC1
  unfold evV
  go_enter Try.func23, Try.ntmps23
  go_upto_region 1 with fail
  first | with_reducible refine name_wp ?_ | with_reducible refine name_calls ?_
  intro W hWeq
  have g0 : W.heap[w.heap.size]? = some (.cells #[.int .i64 kd, .string o.key.kind, .string o.key.space, .string o.key.name, .int .i64 o.ver, .string o.cls, .bool o.term, .bool o.best, .slice ao o.charge.length co, .int .i64 vr, .slice al xs.length cl] 30) := by rw [hWeq]; repeat (first | (with_reducible exact blk_newAt _ _ (by simp)) | with_reducible refine blk_drew ?_ | with_reducible refine blk_dN ?_ _ | with_reducible refine blk_old ?_ _)
  have g1 : W.heap[w.heap.size + 1]? = some (.cells #[.int .i64 kd', .string o'.key.kind, .string o'.key.space, .string o'.key.name, .int .i64 o'.ver, .string o'.cls, .bool o'.term, .bool o'.best, .slice ao' o'.charge.length co', .int .i64 vr', .slice al' ys.length cl'] 30) := by rw [hWeq]; repeat (first | (with_reducible exact blk_newAt _ _ (by simp)) | with_reducible refine blk_drew ?_ | with_reducible refine blk_dN ?_ _ | with_reducible refine blk_old ?_ _)
  have hw : Below w.heap.size w W := by rw [hWeq]; repeat (first | with_reducible exact Below.refl _ _ | with_reducible refine Below.drew ?_ | with_reducible refine bl_dN ?_ _ | with_reducible refine Below.alloc ?_ (by simp <;> omega) _)
  clear hWeq
  have hz : w.heap.size + 2 ≤ W.heap.size := by have := blk_lt g1; omega
  have c0_0 : W.cell? ⟨w.heap.size, 0, none⟩ = some (.int .i64 kd) := blk_cell g0 0
  have c0_1 : W.cell? ⟨w.heap.size, 1, none⟩ = some (.string o.key.kind) := blk_cell g0 1
  have c0_2 : W.cell? ⟨w.heap.size, 2, none⟩ = some (.string o.key.space) := blk_cell g0 2
  have c0_3 : W.cell? ⟨w.heap.size, 3, none⟩ = some (.string o.key.name) := blk_cell g0 3
  have c0_4 : W.cell? ⟨w.heap.size, 4, none⟩ = some (.int .i64 o.ver) := blk_cell g0 4
  have c0_5 : W.cell? ⟨w.heap.size, 5, none⟩ = some (.string o.cls) := blk_cell g0 5
  have c0_6 : W.cell? ⟨w.heap.size, 6, none⟩ = some (.bool o.term) := blk_cell g0 6
  have c0_7 : W.cell? ⟨w.heap.size, 7, none⟩ = some (.bool o.best) := blk_cell g0 7
  have c0_8 : W.cell? ⟨w.heap.size, 8, none⟩ = some (.slice ao o.charge.length co) := blk_cell g0 8
  have c0_9 : W.cell? ⟨w.heap.size, 9, none⟩ = some (.int .i64 vr) := blk_cell g0 9
  have c0_10 : W.cell? ⟨w.heap.size, 10, none⟩ = some (.slice al xs.length cl) := blk_cell g0 10
  have f0 : ∀ j, W.frozen? ⟨w.heap.size, j, none⟩ = false := blk_free g0
  have c1_0 : W.cell? ⟨w.heap.size + 1, 0, none⟩ = some (.int .i64 kd') := blk_cell g1 0
  have c1_1 : W.cell? ⟨w.heap.size + 1, 1, none⟩ = some (.string o'.key.kind) := blk_cell g1 1
  have c1_2 : W.cell? ⟨w.heap.size + 1, 2, none⟩ = some (.string o'.key.space) := blk_cell g1 2
  have c1_3 : W.cell? ⟨w.heap.size + 1, 3, none⟩ = some (.string o'.key.name) := blk_cell g1 3
  have c1_4 : W.cell? ⟨w.heap.size + 1, 4, none⟩ = some (.int .i64 o'.ver) := blk_cell g1 4
  have c1_5 : W.cell? ⟨w.heap.size + 1, 5, none⟩ = some (.string o'.cls) := blk_cell g1 5
  have c1_6 : W.cell? ⟨w.heap.size + 1, 6, none⟩ = some (.bool o'.term) := blk_cell g1 6
  have c1_7 : W.cell? ⟨w.heap.size + 1, 7, none⟩ = some (.bool o'.best) := blk_cell g1 7
  have c1_8 : W.cell? ⟨w.heap.size + 1, 8, none⟩ = some (.slice ao' o'.charge.length co') := blk_cell g1 8
  have c1_9 : W.cell? ⟨w.heap.size + 1, 9, none⟩ = some (.int .i64 vr') := blk_cell g1 9
  have c1_10 : W.cell? ⟨w.heap.size + 1, 10, none⟩ = some (.slice al' ys.length cl') := blk_cell g1 10
  have f1 : ∀ j, W.frozen? ⟨w.heap.size + 1, j, none⟩ = false := blk_free g1
  have hB : Below W.heap.size W W := Below.refl _ _
  have G0 := Lib.hid g0; clear g0
  have F0 := Lib.hid f0; clear f0
  have G1 := Lib.hid g1; clear g1
  have F1 := Lib.hid f1; clear f1
  have Hw := Lib.hid hw; clear hw
  by_cases hkk : kd = kd'
  · subst hkk
    by_cases hvv : vr = vr'
    · subst hvv
      cases s1 with
      | false =>
        go_wp2_with (first | (go_at_call 63; ((with_reducible refine (HC1.out _ Hw.out).mono ?_); rintro e w' ⟨rfl, hb⟩; rw [HS1.out]; have hB := bl_next hB hb; clear hb; have k0_0 := cb hB c0_0; have k0_1 := cb hB c0_1; have k0_2 := cb hB c0_2; have k0_3 := cb hB c0_3; have k0_4 := cb hB c0_4; have k0_5 := cb hB c0_5; have k0_6 := cb hB c0_6; have k0_7 := cb hB c0_7; have k0_8 := cb hB c0_8; have k0_9 := cb hB c0_9; have k0_10 := cb hB c0_10; have k1_0 := cb hB c1_0; have k1_1 := cb hB c1_1; have k1_2 := cb hB c1_2; have k1_3 := cb hB c1_3; have k1_4 := cb hB c1_4; have k1_5 := cb hB c1_5; have k1_6 := cb hB c1_6; have k1_7 := cb hB c1_7; have k1_8 := cb hB c1_8; have k1_9 := cb hB c1_9; have k1_10 := cb hB c1_10)) | (go_at_call 64; ((with_reducible refine (HC2.out _ (bl_from Hw.out hB)).mono ?_); rintro e w' ⟨rfl, hb⟩; rw [HS2.out]; have hB := bl_next hB hb; clear hb)))
        go_ret
        exact ⟨ret_bool (by rw [HE.out]; rfl), bl_from Hw.out hB⟩
      | true =>
        have HE2 := Lib.hid (show sameE ⟨kd, o, vr, oxs xs⟩ ⟨kd, o', vr, oxs ys⟩ = s2 by rw [HE.out]; simp)
        go_wp2_with (first | (go_at_call 63; ((with_reducible refine (HC1.out _ Hw.out).mono ?_); rintro e w' ⟨rfl, hb⟩; rw [HS1.out]; have hB := bl_next hB hb; clear hb; have k0_0 := cb hB c0_0; have k0_1 := cb hB c0_1; have k0_2 := cb hB c0_2; have k0_3 := cb hB c0_3; have k0_4 := cb hB c0_4; have k0_5 := cb hB c0_5; have k0_6 := cb hB c0_6; have k0_7 := cb hB c0_7; have k0_8 := cb hB c0_8; have k0_9 := cb hB c0_9; have k0_10 := cb hB c0_10; have k1_0 := cb hB c1_0; have k1_1 := cb hB c1_1; have k1_2 := cb hB c1_2; have k1_3 := cb hB c1_3; have k1_4 := cb hB c1_4; have k1_5 := cb hB c1_5; have k1_6 := cb hB c1_6; have k1_7 := cb hB c1_7; have k1_8 := cb hB c1_8; have k1_9 := cb hB c1_9; have k1_10 := cb hB c1_10)) | (go_at_call 64; ((with_reducible refine (HC2.out _ (bl_from Hw.out hB)).mono ?_); rintro e w' ⟨rfl, hb⟩; rw [HS2.out]; have hB := bl_next hB hb; clear hb)))
        go_ret
        exact ⟨ret_bool HE2.out.symm, bl_from Hw.out hB⟩
    · have HN := Lib.hid (show sameE ⟨kd, o, vr, oxs xs⟩ ⟨kd, o', vr', oxs ys⟩ = false by rw [HE.out, decide_eq_false hvv]; simp)
      have hkb : (vr == vr') = false := by simpa using hvv
      clear HE
      go_wp2_with (first | (go_at_call 63; ((with_reducible refine (HC1.out _ Hw.out).mono ?_); rintro e w' ⟨rfl, hb⟩; rw [HS1.out]; have hB := bl_next hB hb; clear hb; have k0_0 := cb hB c0_0; have k0_1 := cb hB c0_1; have k0_2 := cb hB c0_2; have k0_3 := cb hB c0_3; have k0_4 := cb hB c0_4; have k0_5 := cb hB c0_5; have k0_6 := cb hB c0_6; have k0_7 := cb hB c0_7; have k0_8 := cb hB c0_8; have k0_9 := cb hB c0_9; have k0_10 := cb hB c0_10; have k1_0 := cb hB c1_0; have k1_1 := cb hB c1_1; have k1_2 := cb hB c1_2; have k1_3 := cb hB c1_3; have k1_4 := cb hB c1_4; have k1_5 := cb hB c1_5; have k1_6 := cb hB c1_6; have k1_7 := cb hB c1_7; have k1_8 := cb hB c1_8; have k1_9 := cb hB c1_9; have k1_10 := cb hB c1_10)) | (go_at_call 64; ((with_reducible refine (HC2.out _ (bl_from Hw.out hB)).mono ?_); rintro e w' ⟨rfl, hb⟩; rw [HS2.out]; have hB := bl_next hB hb; clear hb)))
      go_ret
      exact ⟨ret_bool HN.out.symm, bl_from Hw.out hB⟩
  · have HN := Lib.hid (show sameE ⟨kd, o, vr, oxs xs⟩ ⟨kd', o', vr', oxs ys⟩ = false by rw [HE.out, decide_eq_false hkk]; simp)
    have hkb : (kd == kd') = false := by simpa using hkk
    clear HE
    go_wp2_with (first | (go_at_call 63; ((with_reducible refine (HC1.out _ Hw.out).mono ?_); rintro e w' ⟨rfl, hb⟩; rw [HS1.out]; have hB := bl_next hB hb; clear hb; have k0_0 := cb hB c0_0; have k0_1 := cb hB c0_1; have k0_2 := cb hB c0_2; have k0_3 := cb hB c0_3; have k0_4 := cb hB c0_4; have k0_5 := cb hB c0_5; have k0_6 := cb hB c0_6; have k0_7 := cb hB c0_7; have k0_8 := cb hB c0_8; have k0_9 := cb hB c0_9; have k0_10 := cb hB c0_10; have k1_0 := cb hB c1_0; have k1_1 := cb hB c1_1; have k1_2 := cb hB c1_2; have k1_3 := cb hB c1_3; have k1_4 := cb hB c1_4; have k1_5 := cb hB c1_5; have k1_6 := cb hB c1_6; have k1_7 := cb hB c1_7; have k1_8 := cb hB c1_8; have k1_9 := cb hB c1_9; have k1_10 := cb hB c1_10)) | (go_at_call 64; ((with_reducible refine (HC2.out _ (bl_from Hw.out hB)).mono ?_); rintro e w' ⟨rfl, hb⟩; rw [HS2.out]; have hB := bl_next hB hb; clear hb)))
    go_ret
    exact ⟨ret_bool HN.out.symm, bl_from Hw.out hB⟩
end Go.Proofs.Ythhfcambdmdgfaa
