import Derived.Test.YthhfcambdmdgfaaKstae
import Derived.Test.YthhfcambdmdgfaaKstaa
namespace Go.Proofs.Ythhfcambdmdgfaa
open Go.RowKit Go.Maps
set_option linter.unusedVariables false
set_option linter.unusedSimpArgs false
theorem rights_look {w : World} {mb : Nat} {kd : Int} (h : w.ownsMap Try.prog 22 RV mb 4 (dmA kI fV rightsM)) (hk : in64 kd) :
    (Instr.lookup 87 (.map (some mb)) (.int .i64 kd) true).run Try.prog w = .ok (.tuple #[((getA rightsM kd).map fV).getD .nilFunc, .bool (hasA rightsM kd)]) w := by
  rw [mv_look_ok h kI_keyed Try.underlying87 (zero_fn w) (kI_key hk), val_dmA keyI_lit, has_dmA keyI_lit]
theorem rights_none {kd : Int} (h0 : ¬ kd = 0) (h1 : ¬ kd = 1) (h2 : ¬ kd = 2) (h3 : ¬ kd = 3) : getA rightsM kd = none ∧ hasA rightsM kd = false := by
  have e0 : ¬ (0 : Int) = kd := fun e => h0 e.symm
  have e1 : ¬ (1 : Int) = kd := fun e => h1 e.symm
  have e2 : ¬ (2 : Int) = kd := fun e => h2 e.symm
  have e3 : ¬ (3 : Int) = kd := fun e => h3 e.symm
  have g : getA rightsM kd = none := by unfold rightsM; rw [getA_cons, if_neg e0, getA_cons, if_neg e1, getA_cons, if_neg e2, getA_cons, if_neg e3, getA_nil]
  exact ⟨g, by rw [hasA_get, g]; rfl⟩
set_option maxRecDepth 100000 in
set_option maxHeartbeats 8000000 in
theorem evright_calls (w : World) (kd : Int) {o : ObjD} {sl : Value} (vr : Int) {ol : Value} {xs : List OX} (ho : ObjS w sl o) (hs : objSmall o) (hx : ObjsS w ol xs) (hxs : OSmall (oxs xs)) (hkd : in64 kd) (hl : xs.length ≤ 1000000) :
    Calls Try.prog 21 #[evV kd o sl vr ol] w fun e w' => e = .returned (.bool (rightE ⟨kd, o, vr, oxs xs⟩)) ∧ Below w.heap.size w w' := by
  have HO := Lib.hid ho; have HX := Lib.hid hx; have HSM := Lib.hid hxs; have HS := Lib.hid hs
  obtain ⟨ao, co, rfl⟩ := ho.1.form
  obtain ⟨al, cl, rfl⟩ := hx.form
  have HLL := Lib.hid hl
  clear ho hx hxs hs hl
  unfold evV
  go_enter Try.func21, Try.ntmps21
  go_upto_region 1 with fail
  first | with_reducible refine name_wp ?_ | with_reducible refine name_calls ?_
  intro W hWeq
  have g0 : W.heap[w.heap.size]? = some (.cells #[.int .i64 kd, .string o.key.kind, .string o.key.space, .string o.key.name, .int .i64 o.ver, .string o.cls, .bool o.term, .bool o.best, .slice ao o.charge.length co, .int .i64 vr, .slice al xs.length cl] 30) := by rw [hWeq]; repeat (first | (with_reducible exact blk_newAt _ _ (by simp)) | with_reducible refine blk_drew ?_ | with_reducible refine blk_dN ?_ _ | with_reducible refine blk_old ?_ _)
  have hw : Below w.heap.size w W := by rw [hWeq]; repeat (first | with_reducible exact Below.refl _ _ | with_reducible refine Below.drew ?_ | with_reducible refine bl_dN ?_ _ | with_reducible refine Below.alloc ?_ (by simp <;> omega) _)
  clear hWeq
  have hz : w.heap.size + 1 ≤ W.heap.size := by have := blk_lt g0; omega
  have c0_0 : W.cell? ⟨w.heap.size, 0, none⟩ = some (.int .i64 kd) := blk_cell g0 0
  have c0_1 : W.cell? ⟨w.heap.size, 1, none⟩ = some (.string o.key.kind) := blk_cell g0 1
  have c0_2 : W.cell? ⟨w.heap.size, 2, none⟩ = some (.string o.key.space) := blk_cell g0 2
  have c0_3 : W.cell? ⟨w.heap.size, 3, none⟩ = some (.string o.key.name) := blk_cell g0 3
  have c0_4 : W.cell? ⟨w.heap.size, 4, none⟩ = some (.int .i64 o.ver) := blk_cell g0 4
  have c0_5 : W.cell? ⟨w.heap.size, 5, none⟩ = some (.string o.cls) := blk_cell g0 5
  have c0_6 : W.cell? ⟨w.heap.size, 6, none⟩ = some (.bool o.term) := blk_cell g0 6
  have c0_7 : W.cell? ⟨w.heap.size, 7, none⟩ = some (.bool o.best) := blk_cell g0 7
  have c0_8 : W.cell? ⟨w.heap.size, 8, none⟩ = some (.slice ao o.charge.length co) := blk_cell g0 8
  have c0_9 : W.cell? ⟨w.heap.size, 9, none⟩ = some (.int .i64 vr) := blk_cell g0 9
  have c0_10 : W.cell? ⟨w.heap.size, 10, none⟩ = some (.slice al xs.length cl) := blk_cell g0 10
  have f0 : ∀ j, W.frozen? ⟨w.heap.size, j, none⟩ = false := blk_free g0
  have hB : Below W.heap.size W W := Below.refl _ _
  have G0 := Lib.hid g0; clear g0
  have F0 := Lib.hid f0; clear f0
  have Hw := Lib.hid hw; clear hw
  by_cases h0 : kd = 0
  · subst h0
    have HR := Lib.hid (show rightE ⟨0, o, vr, oxs xs⟩ = rightO o from rfl)
    have HC := Lib.hid (fun (U : World) (h : Below w.heap.size w U) => rights1_calls U 0 vr (HO.out.below h) HS.out (HX.out.below h) HSM.out HLL.out)
    unfold evV at HC
    go_upto_region 1 with fail
    have hB := hB.drew
    refine region_seq (fun w' => Below W.heap.size W w') [(1, true), (2, true), (0, false), (3, false), (4, true), (5, true), (6, true), (7, true), (8, true)] (by kernel_rfl) (by kernel_rfl) (fun _ _ _ _ h => h) hB ?_
    try generalize World.drew _ = wS at hB ⊢
    refine seq_take (v := ?_) (a' := ?_) (some 7) rfl rfl (by rfl) ?_ ?_ ?_
    rotate_left; rotate_left
    · intro w' hS; go_simp; with_reducible rfl
    · simp only [Act.put, List.setIfInBounds_toArray, List.set_cons_zero, List.set_cons_succ]; rfl
    refine seq_take (v := ?_) (a' := ?_) (some 8) rfl rfl (by rfl) ?_ ?_ ?_
    rotate_left; rotate_left
    · intro w' hS; have a0 := cb hS c0_0; go_simp; with_reducible rfl
    · simp only [Act.put, List.setIfInBounds_toArray, List.set_cons_zero, List.set_cons_succ]; rfl
    refine seq_call (args := ?_) Try.func60 (by kernel_rfl) rfl (some 6) rfl rfl (by rfl) rfl ?_ ?_
    rotate_left
    · simp only [List.map_toArray, List.map_cons, List.map_nil]; go_simp; rfl
    with_reducible refine (rights_calls _).mono ?_
    rintro e w' ⟨mb, rfl, hm, hb⟩
    have hlk : (Instr.lookup 87 (.map (some mb)) (.int .i64 0) true).run Try.prog w' = .ok (.tuple #[.func (.func 82) #[] #[], .bool true]) w' := rights_look hm (by unfold in64; omega)
    refine ⟨_, rfl, bl_next (by repeat (first | with_reducible exact hB | refine Below.alloc ?_ (by have := hB.size; simp; omega) _ | refine bl_dN ?_ _ | refine Below.drew ?_ | refine Below.setCell ?_ (by have := hB.size; simp; omega) _)) hb, ?_⟩
    have hB := bl_next (by repeat (first | with_reducible exact hB | refine Below.alloc ?_ (by have := hB.size; simp; omega) _ | refine bl_dN ?_ _ | refine Below.drew ?_ | refine Below.setCell ?_ (by have := hB.size; simp; omega) _)) hb; clear hb
    simp only [Act.put, List.setIfInBounds_toArray, List.set_cons_zero, List.set_cons_succ]
    refine seq_op (some 9) rfl rfl (by rfl) ?_
    apply Exists.intro; apply Exists.intro; apply And.intro
    · skip; go_simp; first | exact ⟨rfl, rfl⟩ | rfl
    apply Exists.intro; apply And.intro
    · simp only [Act.put, List.setIfInBounds_toArray, List.set_cons_zero, List.set_cons_succ]; rfl
    apply And.intro
    · exact (by repeat (first | with_reducible exact hB | refine Below.alloc ?_ (by have := hB.size; simp; omega) _ | refine bl_dN ?_ _ | refine Below.drew ?_ | refine Below.setCell ?_ (by have := hB.size; simp; omega) _))
    refine seq_take (v := ?_) (a' := ?_) (some 5) rfl rfl (by rfl) ?_ ?_ ?_
    rotate_left; rotate_left
    · intro w' hS; go_simp; with_reducible rfl
    · simp only [Act.put, List.setIfInBounds_toArray, List.set_cons_zero, List.set_cons_succ]; rfl
    refine seq_take (v := ?_) (a' := ?_) (some 10) rfl rfl (by rfl) ?_ ?_ ?_
    rotate_left; rotate_left
    · intro w' hS; go_simp; with_reducible rfl
    · simp only [Act.put, List.setIfInBounds_toArray, List.set_cons_zero, List.set_cons_succ]; rfl
    refine seq_take (v := ?_) (a' := ?_) (some 11) rfl rfl (by rfl) ?_ ?_ ?_
    rotate_left; rotate_left
    · intro w' hS; go_simp; with_reducible rfl
    · simp only [Act.put, List.setIfInBounds_toArray, List.set_cons_zero, List.set_cons_succ]; rfl
    refine seq_take (v := ?_) (a' := ?_) (some 3) rfl rfl (by rfl) ?_ ?_ ?_
    rotate_left; rotate_left
    · intro w' hS; go_simp; with_reducible rfl
    · simp only [Act.put, List.setIfInBounds_toArray, List.set_cons_zero, List.set_cons_succ]; rfl
    refine seq_take (v := ?_) (a' := ?_) (some 4) rfl rfl (by rfl) ?_ ?_ ?_
    rotate_left; rotate_left
    · intro w' hS; go_simp; with_reducible rfl
    · simp only [Act.put, List.setIfInBounds_toArray, List.set_cons_zero, List.set_cons_succ]; rfl
    refine seq_done ?_
    clear hlk hm
    have k0_0 := cb hB c0_0; have k0_1 := cb hB c0_1; have k0_2 := cb hB c0_2; have k0_3 := cb hB c0_3; have k0_4 := cb hB c0_4; have k0_5 := cb hB c0_5; have k0_6 := cb hB c0_6; have k0_7 := cb hB c0_7; have k0_8 := cb hB c0_8; have k0_9 := cb hB c0_9; have k0_10 := cb hB c0_10
    go_wp2_with (go_at_call 82; refine (HC.out _ (bl_from Hw.out hB)).mono ?_; rintro e w' ⟨rfl, hb⟩; have hB := bl_next hB hb; clear hb)
    go_ret
    exact ⟨ret_bool HR.out.symm, bl_from Hw.out hB⟩
  by_cases h1 : kd = 1
  · subst h1
    have HR := Lib.hid (show rightE ⟨1, o, vr, oxs xs⟩ = (keyOk o.key && decide (1 ≤ o.ver)) from rfl)
    have HC := Lib.hid (fun (U : World) (h : Below w.heap.size w U) => rights2_calls U 1 vr (HO.out.below h) HS.out (HX.out.below h) HSM.out HLL.out)
    unfold evV at HC
    go_upto_region 1 with fail
    have hB := hB.drew
    refine region_seq (fun w' => Below W.heap.size W w') [(1, true), (2, true), (0, false), (3, false), (4, true), (5, true), (6, true), (7, true), (8, true)] (by kernel_rfl) (by kernel_rfl) (fun _ _ _ _ h => h) hB ?_
    try generalize World.drew _ = wS at hB ⊢
    refine seq_take (v := ?_) (a' := ?_) (some 7) rfl rfl (by rfl) ?_ ?_ ?_
    rotate_left; rotate_left
    · intro w' hS; go_simp; with_reducible rfl
    · simp only [Act.put, List.setIfInBounds_toArray, List.set_cons_zero, List.set_cons_succ]; rfl
    refine seq_take (v := ?_) (a' := ?_) (some 8) rfl rfl (by rfl) ?_ ?_ ?_
    rotate_left; rotate_left
    · intro w' hS; have a0 := cb hS c0_0; go_simp; with_reducible rfl
    · simp only [Act.put, List.setIfInBounds_toArray, List.set_cons_zero, List.set_cons_succ]; rfl
    refine seq_call (args := ?_) Try.func60 (by kernel_rfl) rfl (some 6) rfl rfl (by rfl) rfl ?_ ?_
    rotate_left
    · simp only [List.map_toArray, List.map_cons, List.map_nil]; go_simp; rfl
    with_reducible refine (rights_calls _).mono ?_
    rintro e w' ⟨mb, rfl, hm, hb⟩
    have hlk : (Instr.lookup 87 (.map (some mb)) (.int .i64 1) true).run Try.prog w' = .ok (.tuple #[.func (.func 83) #[] #[], .bool true]) w' := rights_look hm (by unfold in64; omega)
    refine ⟨_, rfl, bl_next (by repeat (first | with_reducible exact hB | refine Below.alloc ?_ (by have := hB.size; simp; omega) _ | refine bl_dN ?_ _ | refine Below.drew ?_ | refine Below.setCell ?_ (by have := hB.size; simp; omega) _)) hb, ?_⟩
    have hB := bl_next (by repeat (first | with_reducible exact hB | refine Below.alloc ?_ (by have := hB.size; simp; omega) _ | refine bl_dN ?_ _ | refine Below.drew ?_ | refine Below.setCell ?_ (by have := hB.size; simp; omega) _)) hb; clear hb
    simp only [Act.put, List.setIfInBounds_toArray, List.set_cons_zero, List.set_cons_succ]
    refine seq_op (some 9) rfl rfl (by rfl) ?_
    apply Exists.intro; apply Exists.intro; apply And.intro
    · skip; go_simp; first | exact ⟨rfl, rfl⟩ | rfl
    apply Exists.intro; apply And.intro
    · simp only [Act.put, List.setIfInBounds_toArray, List.set_cons_zero, List.set_cons_succ]; rfl
    apply And.intro
    · exact (by repeat (first | with_reducible exact hB | refine Below.alloc ?_ (by have := hB.size; simp; omega) _ | refine bl_dN ?_ _ | refine Below.drew ?_ | refine Below.setCell ?_ (by have := hB.size; simp; omega) _))
    refine seq_take (v := ?_) (a' := ?_) (some 5) rfl rfl (by rfl) ?_ ?_ ?_
    rotate_left; rotate_left
    · intro w' hS; go_simp; with_reducible rfl
    · simp only [Act.put, List.setIfInBounds_toArray, List.set_cons_zero, List.set_cons_succ]; rfl
    refine seq_take (v := ?_) (a' := ?_) (some 10) rfl rfl (by rfl) ?_ ?_ ?_
    rotate_left; rotate_left
    · intro w' hS; go_simp; with_reducible rfl
    · simp only [Act.put, List.setIfInBounds_toArray, List.set_cons_zero, List.set_cons_succ]; rfl
    refine seq_take (v := ?_) (a' := ?_) (some 11) rfl rfl (by rfl) ?_ ?_ ?_
    rotate_left; rotate_left
    · intro w' hS; go_simp; with_reducible rfl
    · simp only [Act.put, List.setIfInBounds_toArray, List.set_cons_zero, List.set_cons_succ]; rfl
    refine seq_take (v := ?_) (a' := ?_) (some 3) rfl rfl (by rfl) ?_ ?_ ?_
    rotate_left; rotate_left
    · intro w' hS; go_simp; with_reducible rfl
    · simp only [Act.put, List.setIfInBounds_toArray, List.set_cons_zero, List.set_cons_succ]; rfl
    refine seq_take (v := ?_) (a' := ?_) (some 4) rfl rfl (by rfl) ?_ ?_ ?_
    rotate_left; rotate_left
    · intro w' hS; go_simp; with_reducible rfl
    · simp only [Act.put, List.setIfInBounds_toArray, List.set_cons_zero, List.set_cons_succ]; rfl
    refine seq_done ?_
    clear hlk hm
    have k0_0 := cb hB c0_0; have k0_1 := cb hB c0_1; have k0_2 := cb hB c0_2; have k0_3 := cb hB c0_3; have k0_4 := cb hB c0_4; have k0_5 := cb hB c0_5; have k0_6 := cb hB c0_6; have k0_7 := cb hB c0_7; have k0_8 := cb hB c0_8; have k0_9 := cb hB c0_9; have k0_10 := cb hB c0_10
    go_wp2_with (go_at_call 83; refine (HC.out _ (bl_from Hw.out hB)).mono ?_; rintro e w' ⟨rfl, hb⟩; have hB := bl_next hB hb; clear hb)
    go_ret
    exact ⟨ret_bool HR.out.symm, bl_from Hw.out hB⟩
  by_cases h2 : kd = 2
  · subst h2
    have HR := Lib.hid (show rightE ⟨2, o, vr, oxs xs⟩ = relB vr (oxs xs) from rfl)
    have HC := Lib.hid (fun (U : World) (h : Below w.heap.size w U) => relist_calls U 2 vr (HO.out.below h) HS.out (HX.out.below h) HSM.out HLL.out)
    unfold evV at HC
    go_upto_region 1 with fail
    have hB := hB.drew
    refine region_seq (fun w' => Below W.heap.size W w') [(1, true), (2, true), (0, false), (3, false), (4, true), (5, true), (6, true), (7, true), (8, true)] (by kernel_rfl) (by kernel_rfl) (fun _ _ _ _ h => h) hB ?_
    try generalize World.drew _ = wS at hB ⊢
    refine seq_take (v := ?_) (a' := ?_) (some 7) rfl rfl (by rfl) ?_ ?_ ?_
    rotate_left; rotate_left
    · intro w' hS; go_simp; with_reducible rfl
    · simp only [Act.put, List.setIfInBounds_toArray, List.set_cons_zero, List.set_cons_succ]; rfl
    refine seq_take (v := ?_) (a' := ?_) (some 8) rfl rfl (by rfl) ?_ ?_ ?_
    rotate_left; rotate_left
    · intro w' hS; have a0 := cb hS c0_0; go_simp; with_reducible rfl
    · simp only [Act.put, List.setIfInBounds_toArray, List.set_cons_zero, List.set_cons_succ]; rfl
    refine seq_call (args := ?_) Try.func60 (by kernel_rfl) rfl (some 6) rfl rfl (by rfl) rfl ?_ ?_
    rotate_left
    · simp only [List.map_toArray, List.map_cons, List.map_nil]; go_simp; rfl
    with_reducible refine (rights_calls _).mono ?_
    rintro e w' ⟨mb, rfl, hm, hb⟩
    have hlk : (Instr.lookup 87 (.map (some mb)) (.int .i64 2) true).run Try.prog w' = .ok (.tuple #[.func (.func 84) #[] #[], .bool true]) w' := rights_look hm (by unfold in64; omega)
    refine ⟨_, rfl, bl_next (by repeat (first | with_reducible exact hB | refine Below.alloc ?_ (by have := hB.size; simp; omega) _ | refine bl_dN ?_ _ | refine Below.drew ?_ | refine Below.setCell ?_ (by have := hB.size; simp; omega) _)) hb, ?_⟩
    have hB := bl_next (by repeat (first | with_reducible exact hB | refine Below.alloc ?_ (by have := hB.size; simp; omega) _ | refine bl_dN ?_ _ | refine Below.drew ?_ | refine Below.setCell ?_ (by have := hB.size; simp; omega) _)) hb; clear hb
    simp only [Act.put, List.setIfInBounds_toArray, List.set_cons_zero, List.set_cons_succ]
    refine seq_op (some 9) rfl rfl (by rfl) ?_
    apply Exists.intro; apply Exists.intro; apply And.intro
    · skip; go_simp; first | exact ⟨rfl, rfl⟩ | rfl
    apply Exists.intro; apply And.intro
    · simp only [Act.put, List.setIfInBounds_toArray, List.set_cons_zero, List.set_cons_succ]; rfl
    apply And.intro
    · exact (by repeat (first | with_reducible exact hB | refine Below.alloc ?_ (by have := hB.size; simp; omega) _ | refine bl_dN ?_ _ | refine Below.drew ?_ | refine Below.setCell ?_ (by have := hB.size; simp; omega) _))
    refine seq_take (v := ?_) (a' := ?_) (some 5) rfl rfl (by rfl) ?_ ?_ ?_
    rotate_left; rotate_left
    · intro w' hS; go_simp; with_reducible rfl
    · simp only [Act.put, List.setIfInBounds_toArray, List.set_cons_zero, List.set_cons_succ]; rfl
    refine seq_take (v := ?_) (a' := ?_) (some 10) rfl rfl (by rfl) ?_ ?_ ?_
    rotate_left; rotate_left
    · intro w' hS; go_simp; with_reducible rfl
    · simp only [Act.put, List.setIfInBounds_toArray, List.set_cons_zero, List.set_cons_succ]; rfl
    refine seq_take (v := ?_) (a' := ?_) (some 11) rfl rfl (by rfl) ?_ ?_ ?_
    rotate_left; rotate_left
    · intro w' hS; go_simp; with_reducible rfl
    · simp only [Act.put, List.setIfInBounds_toArray, List.set_cons_zero, List.set_cons_succ]; rfl
    refine seq_take (v := ?_) (a' := ?_) (some 3) rfl rfl (by rfl) ?_ ?_ ?_
    rotate_left; rotate_left
    · intro w' hS; go_simp; with_reducible rfl
    · simp only [Act.put, List.setIfInBounds_toArray, List.set_cons_zero, List.set_cons_succ]; rfl
    refine seq_take (v := ?_) (a' := ?_) (some 4) rfl rfl (by rfl) ?_ ?_ ?_
    rotate_left; rotate_left
    · intro w' hS; go_simp; with_reducible rfl
    · simp only [Act.put, List.setIfInBounds_toArray, List.set_cons_zero, List.set_cons_succ]; rfl
    refine seq_done ?_
    clear hlk hm
    have k0_0 := cb hB c0_0; have k0_1 := cb hB c0_1; have k0_2 := cb hB c0_2; have k0_3 := cb hB c0_3; have k0_4 := cb hB c0_4; have k0_5 := cb hB c0_5; have k0_6 := cb hB c0_6; have k0_7 := cb hB c0_7; have k0_8 := cb hB c0_8; have k0_9 := cb hB c0_9; have k0_10 := cb hB c0_10
    go_wp2_with (go_at_call 84; refine (HC.out _ (bl_from Hw.out hB)).mono ?_; rintro e w' ⟨rfl, hb⟩; have hB := bl_next hB hb; clear hb)
    go_ret
    exact ⟨ret_bool HR.out.symm, bl_from Hw.out hB⟩
  by_cases h3 : kd = 3
  · subst h3
    have HR := Lib.hid (show rightE ⟨3, o, vr, oxs xs⟩ = decide (0 ≤ vr) from rfl)
    have HC := Lib.hid (fun (U : World) (h : Below w.heap.size w U) => rights3_calls U 3 vr (HO.out.below h) HS.out (HX.out.below h) HSM.out HLL.out)
    unfold evV at HC
    go_upto_region 1 with fail
    have hB := hB.drew
    refine region_seq (fun w' => Below W.heap.size W w') [(1, true), (2, true), (0, false), (3, false), (4, true), (5, true), (6, true), (7, true), (8, true)] (by kernel_rfl) (by kernel_rfl) (fun _ _ _ _ h => h) hB ?_
    try generalize World.drew _ = wS at hB ⊢
    refine seq_take (v := ?_) (a' := ?_) (some 7) rfl rfl (by rfl) ?_ ?_ ?_
    rotate_left; rotate_left
    · intro w' hS; go_simp; with_reducible rfl
    · simp only [Act.put, List.setIfInBounds_toArray, List.set_cons_zero, List.set_cons_succ]; rfl
    refine seq_take (v := ?_) (a' := ?_) (some 8) rfl rfl (by rfl) ?_ ?_ ?_
    rotate_left; rotate_left
    · intro w' hS; have a0 := cb hS c0_0; go_simp; with_reducible rfl
    · simp only [Act.put, List.setIfInBounds_toArray, List.set_cons_zero, List.set_cons_succ]; rfl
    refine seq_call (args := ?_) Try.func60 (by kernel_rfl) rfl (some 6) rfl rfl (by rfl) rfl ?_ ?_
    rotate_left
    · simp only [List.map_toArray, List.map_cons, List.map_nil]; go_simp; rfl
    with_reducible refine (rights_calls _).mono ?_
    rintro e w' ⟨mb, rfl, hm, hb⟩
    have hlk : (Instr.lookup 87 (.map (some mb)) (.int .i64 3) true).run Try.prog w' = .ok (.tuple #[.func (.func 85) #[] #[], .bool true]) w' := rights_look hm (by unfold in64; omega)
    refine ⟨_, rfl, bl_next (by repeat (first | with_reducible exact hB | refine Below.alloc ?_ (by have := hB.size; simp; omega) _ | refine bl_dN ?_ _ | refine Below.drew ?_ | refine Below.setCell ?_ (by have := hB.size; simp; omega) _)) hb, ?_⟩
    have hB := bl_next (by repeat (first | with_reducible exact hB | refine Below.alloc ?_ (by have := hB.size; simp; omega) _ | refine bl_dN ?_ _ | refine Below.drew ?_ | refine Below.setCell ?_ (by have := hB.size; simp; omega) _)) hb; clear hb
    simp only [Act.put, List.setIfInBounds_toArray, List.set_cons_zero, List.set_cons_succ]
    refine seq_op (some 9) rfl rfl (by rfl) ?_
    apply Exists.intro; apply Exists.intro; apply And.intro
    · skip; go_simp; first | exact ⟨rfl, rfl⟩ | rfl
    apply Exists.intro; apply And.intro
    · simp only [Act.put, List.setIfInBounds_toArray, List.set_cons_zero, List.set_cons_succ]; rfl
    apply And.intro
    · exact (by repeat (first | with_reducible exact hB | refine Below.alloc ?_ (by have := hB.size; simp; omega) _ | refine bl_dN ?_ _ | refine Below.drew ?_ | refine Below.setCell ?_ (by have := hB.size; simp; omega) _))
    refine seq_take (v := ?_) (a' := ?_) (some 5) rfl rfl (by rfl) ?_ ?_ ?_
    rotate_left; rotate_left
    · intro w' hS; go_simp; with_reducible rfl
    · simp only [Act.put, List.setIfInBounds_toArray, List.set_cons_zero, List.set_cons_succ]; rfl
    refine seq_take (v := ?_) (a' := ?_) (some 10) rfl rfl (by rfl) ?_ ?_ ?_
    rotate_left; rotate_left
    · intro w' hS; go_simp; with_reducible rfl
    · simp only [Act.put, List.setIfInBounds_toArray, List.set_cons_zero, List.set_cons_succ]; rfl
    refine seq_take (v := ?_) (a' := ?_) (some 11) rfl rfl (by rfl) ?_ ?_ ?_
    rotate_left; rotate_left
    · intro w' hS; go_simp; with_reducible rfl
    · simp only [Act.put, List.setIfInBounds_toArray, List.set_cons_zero, List.set_cons_succ]; rfl
    refine seq_take (v := ?_) (a' := ?_) (some 3) rfl rfl (by rfl) ?_ ?_ ?_
    rotate_left; rotate_left
    · intro w' hS; go_simp; with_reducible rfl
    · simp only [Act.put, List.setIfInBounds_toArray, List.set_cons_zero, List.set_cons_succ]; rfl
    refine seq_take (v := ?_) (a' := ?_) (some 4) rfl rfl (by rfl) ?_ ?_ ?_
    rotate_left; rotate_left
    · intro w' hS; go_simp; with_reducible rfl
    · simp only [Act.put, List.setIfInBounds_toArray, List.set_cons_zero, List.set_cons_succ]; rfl
    refine seq_done ?_
    clear hlk hm
    have k0_0 := cb hB c0_0; have k0_1 := cb hB c0_1; have k0_2 := cb hB c0_2; have k0_3 := cb hB c0_3; have k0_4 := cb hB c0_4; have k0_5 := cb hB c0_5; have k0_6 := cb hB c0_6; have k0_7 := cb hB c0_7; have k0_8 := cb hB c0_8; have k0_9 := cb hB c0_9; have k0_10 := cb hB c0_10
    go_wp2_with (go_at_call 85; refine (HC.out _ (bl_from Hw.out hB)).mono ?_; rintro e w' ⟨rfl, hb⟩; have hB := bl_next hB hb; clear hb)
    go_ret
    exact ⟨ret_bool HR.out.symm, bl_from Hw.out hB⟩
  · have HR := Lib.hid (show rightE ⟨kd, o, vr, oxs xs⟩ = false by unfold rightE; simp only; rw [if_neg h0, if_neg h1, if_neg h2, if_neg h3])
    have HN := Lib.hid (rights_none h0 h1 h2 h3)
    have HK := Lib.hid hkd
    clear h0 h1 h2 h3 hkd
    go_upto_region 1 with fail
    have hB := hB.drew
    refine region_seq (fun w' => Below W.heap.size W w') [(1, true), (2, true), (0, false), (3, false), (4, true), (5, true), (6, true), (7, true), (8, true)] (by kernel_rfl) (by kernel_rfl) (fun _ _ _ _ h => h) hB ?_
    try generalize World.drew _ = wS at hB ⊢
    refine seq_take (v := ?_) (a' := ?_) (some 7) rfl rfl (by rfl) ?_ ?_ ?_
    rotate_left; rotate_left
    · intro w' hS; go_simp; with_reducible rfl
    · simp only [Act.put, List.setIfInBounds_toArray, List.set_cons_zero, List.set_cons_succ]; rfl
    refine seq_take (v := ?_) (a' := ?_) (some 8) rfl rfl (by rfl) ?_ ?_ ?_
    rotate_left; rotate_left
    · intro w' hS; have a0 := cb hS c0_0; go_simp; with_reducible rfl
    · simp only [Act.put, List.setIfInBounds_toArray, List.set_cons_zero, List.set_cons_succ]; rfl
    refine seq_call (args := ?_) Try.func60 (by kernel_rfl) rfl (some 6) rfl rfl (by rfl) rfl ?_ ?_
    rotate_left
    · simp only [List.map_toArray, List.map_cons, List.map_nil]; go_simp; rfl
    with_reducible refine (rights_calls _).mono ?_
    rintro e w' ⟨mb, rfl, hm, hb⟩
    have hlk : (Instr.lookup 87 (.map (some mb)) (.int .i64 kd) true).run Try.prog w' = .ok (.tuple #[.nilFunc, .bool false]) w' := by (have q := rights_look hm HK.out; rw [HN.out.1, HN.out.2] at q; exact q)
    refine ⟨_, rfl, bl_next (by repeat (first | with_reducible exact hB | refine Below.alloc ?_ (by have := hB.size; simp; omega) _ | refine bl_dN ?_ _ | refine Below.drew ?_ | refine Below.setCell ?_ (by have := hB.size; simp; omega) _)) hb, ?_⟩
    have hB := bl_next (by repeat (first | with_reducible exact hB | refine Below.alloc ?_ (by have := hB.size; simp; omega) _ | refine bl_dN ?_ _ | refine Below.drew ?_ | refine Below.setCell ?_ (by have := hB.size; simp; omega) _)) hb; clear hb
    simp only [Act.put, List.setIfInBounds_toArray, List.set_cons_zero, List.set_cons_succ]
    refine seq_op (some 9) rfl rfl (by rfl) ?_
    apply Exists.intro; apply Exists.intro; apply And.intro
    · skip; go_simp; first | exact ⟨rfl, rfl⟩ | rfl
    apply Exists.intro; apply And.intro
    · simp only [Act.put, List.setIfInBounds_toArray, List.set_cons_zero, List.set_cons_succ]; rfl
    apply And.intro
    · exact (by repeat (first | with_reducible exact hB | refine Below.alloc ?_ (by have := hB.size; simp; omega) _ | refine bl_dN ?_ _ | refine Below.drew ?_ | refine Below.setCell ?_ (by have := hB.size; simp; omega) _))
    refine seq_take (v := ?_) (a' := ?_) (some 5) rfl rfl (by rfl) ?_ ?_ ?_
    rotate_left; rotate_left
    · intro w' hS; go_simp; with_reducible rfl
    · simp only [Act.put, List.setIfInBounds_toArray, List.set_cons_zero, List.set_cons_succ]; rfl
    refine seq_take (v := ?_) (a' := ?_) (some 10) rfl rfl (by rfl) ?_ ?_ ?_
    rotate_left; rotate_left
    · intro w' hS; go_simp; with_reducible rfl
    · simp only [Act.put, List.setIfInBounds_toArray, List.set_cons_zero, List.set_cons_succ]; rfl
    refine seq_take (v := ?_) (a' := ?_) (some 11) rfl rfl (by rfl) ?_ ?_ ?_
    rotate_left; rotate_left
    · intro w' hS; go_simp; with_reducible rfl
    · simp only [Act.put, List.setIfInBounds_toArray, List.set_cons_zero, List.set_cons_succ]; rfl
    refine seq_take (v := ?_) (a' := ?_) (some 3) rfl rfl (by rfl) ?_ ?_ ?_
    rotate_left; rotate_left
    · intro w' hS; go_simp; with_reducible rfl
    · simp only [Act.put, List.setIfInBounds_toArray, List.set_cons_zero, List.set_cons_succ]; rfl
    refine seq_take (v := ?_) (a' := ?_) (some 4) rfl rfl (by rfl) ?_ ?_ ?_
    rotate_left; rotate_left
    · intro w' hS; go_simp; with_reducible rfl
    · simp only [Act.put, List.setIfInBounds_toArray, List.set_cons_zero, List.set_cons_succ]; rfl
    refine seq_done ?_
    clear hlk hm
    have k0_0 := cb hB c0_0; have k0_1 := cb hB c0_1; have k0_2 := cb hB c0_2; have k0_3 := cb hB c0_3; have k0_4 := cb hB c0_4; have k0_5 := cb hB c0_5; have k0_6 := cb hB c0_6; have k0_7 := cb hB c0_7; have k0_8 := cb hB c0_8; have k0_9 := cb hB c0_9; have k0_10 := cb hB c0_10
    go_wp2_with fail
    go_ret
    exact ⟨ret_bool HR.out.symm, bl_from Hw.out hB⟩
set_option maxRecDepth 100000 in
set_option maxHeartbeats 8000000 in
theorem evver_calls (w : World) (kd : Int) {o : ObjD} {sl : Value} (vr : Int) {ol : Value} {xs : List OX} (ho : ObjS w sl o) (hs : objSmall o) (hx : ObjsS w ol xs) (hxs : OSmall (oxs xs)) (hkd : in64 kd) (hl : xs.length ≤ 1000000) :
    Calls Try.prog 14 #[evV kd o sl vr ol] w fun e w' => e = .returned (.tuple #[.int .i64 (verE ⟨kd, o, vr, oxs xs⟩).1, .int .i64 (verE ⟨kd, o, vr, oxs xs⟩).2]) ∧ Below w.heap.size w w' := by
  have HO := Lib.hid ho; have HX := Lib.hid hx; have HSM := Lib.hid hxs; have HS := Lib.hid hs
  obtain ⟨ao, co, rfl⟩ := ho.1.form
  obtain ⟨al, cl, rfl⟩ := hx.form
  have HC := Lib.hid (fun (U : World) (h : Below w.heap.size w U) => evright_calls U kd vr (HO.out.below h) HS.out (HX.out.below h) HSM.out hkd hl)
  obtain ⟨rb, hrb⟩ : ∃ b, rightE ⟨kd, o, vr, oxs xs⟩ = b := ⟨_, rfl⟩
  have HRB := Lib.hid hrb
  have HV := Lib.hid (show verE ⟨kd, o, vr, oxs xs⟩ = if rb then (if kd = 0 ∨ kd = 1 then o.ver else vr, 0) else (0, 1) by rw [← hrb]; rfl)
  clear ho hx hxs hs hl hrb hkd
  unfold evV at HC
  unfold evV
  go_enter Try.func14, Try.ntmps14
  go_upto_region 1 with fail
  first | with_reducible refine name_wp ?_ | with_reducible refine name_calls ?_
  intro W hWeq
  have g0 : W.heap[w.heap.size]? = some (.cells #[.int .i64 kd, .string o.key.kind, .string o.key.space, .string o.key.name, .int .i64 o.ver, .string o.cls, .bool o.term, .bool o.best, .slice ao o.charge.length co, .int .i64 vr, .slice al xs.length cl] 30) := by rw [hWeq]; repeat (first | (with_reducible exact blk_newAt _ _ (by simp)) | with_reducible refine blk_drew ?_ | with_reducible refine blk_dN ?_ _ | with_reducible refine blk_old ?_ _)
  have hw : Below w.heap.size w W := by rw [hWeq]; repeat (first | with_reducible exact Below.refl _ _ | with_reducible refine Below.drew ?_ | with_reducible refine bl_dN ?_ _ | with_reducible refine Below.alloc ?_ (by simp <;> omega) _)
  clear hWeq
  have hz : w.heap.size + 1 ≤ W.heap.size := by have := blk_lt g0; omega
  have c0_0 : W.cell? ⟨w.heap.size, 0, none⟩ = some (.int .i64 kd) := blk_cell g0 0
  have c0_1 : W.cell? ⟨w.heap.size, 1, none⟩ = some (.string o.key.kind) := blk_cell g0 1
  have c0_2 : W.cell? ⟨w.heap.size, 2, none⟩ = some (.string o.key.space) := blk_cell g0 2
  have c0_3 : W.cell? ⟨w.heap.size, 3, none⟩ = some (.string o.key.name) := blk_cell g0 3
  have c0_4 : W.cell? ⟨w.heap.size, 4, none⟩ = some (.int .i64 o.ver) := blk_cell g0 4
  have c0_5 : W.cell? ⟨w.heap.size, 5, none⟩ = some (.string o.cls) := blk_cell g0 5
  have c0_6 : W.cell? ⟨w.heap.size, 6, none⟩ = some (.bool o.term) := blk_cell g0 6
  have c0_7 : W.cell? ⟨w.heap.size, 7, none⟩ = some (.bool o.best) := blk_cell g0 7
  have c0_8 : W.cell? ⟨w.heap.size, 8, none⟩ = some (.slice ao o.charge.length co) := blk_cell g0 8
  have c0_9 : W.cell? ⟨w.heap.size, 9, none⟩ = some (.int .i64 vr) := blk_cell g0 9
  have c0_10 : W.cell? ⟨w.heap.size, 10, none⟩ = some (.slice al xs.length cl) := blk_cell g0 10
  have f0 : ∀ j, W.frozen? ⟨w.heap.size, j, none⟩ = false := blk_free g0
  have hB : Below W.heap.size W W := Below.refl _ _
  have G0 := Lib.hid g0; clear g0
  have F0 := Lib.hid f0; clear f0
  have Hw := Lib.hid hw; clear hw
  cases rb with
  | false =>
    go_wp2_with (go_at_call 21; refine (HC.out _ Hw.out).mono ?_; rintro e w' ⟨rfl, hb⟩; rw [HRB.out]; have hB := bl_next hB hb; clear hb)
    go_ret2
    exact ⟨ret_ver (by rw [HV.out]; rfl) (by rw [HV.out]; rfl), bl_from Hw.out hB⟩
  | true =>
    by_cases h0 : kd = 0
    · subst h0
      go_wp2_with (go_at_call 21; refine (HC.out _ Hw.out).mono ?_; rintro e w' ⟨rfl, hb⟩; rw [HRB.out]; have hB := bl_next hB hb; clear hb; have k0_0 := cb hB c0_0; have k0_1 := cb hB c0_1; have k0_2 := cb hB c0_2; have k0_3 := cb hB c0_3; have k0_4 := cb hB c0_4; have k0_5 := cb hB c0_5; have k0_6 := cb hB c0_6; have k0_7 := cb hB c0_7; have k0_8 := cb hB c0_8; have k0_9 := cb hB c0_9; have k0_10 := cb hB c0_10)
      go_ret2
      exact ⟨ret_ver (by rw [HV.out]; rfl) (by rw [HV.out]; rfl), bl_from Hw.out hB⟩
    · have b0 : (kd == 0) = false := by simpa using h0
      by_cases h1 : kd = 1
      · subst h1
        go_wp2_with (go_at_call 21; refine (HC.out _ Hw.out).mono ?_; rintro e w' ⟨rfl, hb⟩; rw [HRB.out]; have hB := bl_next hB hb; clear hb; have k0_0 := cb hB c0_0; have k0_1 := cb hB c0_1; have k0_2 := cb hB c0_2; have k0_3 := cb hB c0_3; have k0_4 := cb hB c0_4; have k0_5 := cb hB c0_5; have k0_6 := cb hB c0_6; have k0_7 := cb hB c0_7; have k0_8 := cb hB c0_8; have k0_9 := cb hB c0_9; have k0_10 := cb hB c0_10)
        go_ret2
        exact ⟨ret_ver (by rw [HV.out]; rfl) (by rw [HV.out]; rfl), bl_from Hw.out hB⟩
      · have b1 : (kd == 1) = false := by simpa using h1
        have HVV := Lib.hid (show verE ⟨kd, o, vr, oxs xs⟩ = (vr, 0) by rw [HV.out, if_pos rfl, if_neg (by omega)])
        go_wp2_with (go_at_call 21; refine (HC.out _ Hw.out).mono ?_; rintro e w' ⟨rfl, hb⟩; rw [HRB.out]; have hB := bl_next hB hb; clear hb; have k0_0 := cb hB c0_0; have k0_1 := cb hB c0_1; have k0_2 := cb hB c0_2; have k0_3 := cb hB c0_3; have k0_4 := cb hB c0_4; have k0_5 := cb hB c0_5; have k0_6 := cb hB c0_6; have k0_7 := cb hB c0_7; have k0_8 := cb hB c0_8; have k0_9 := cb hB c0_9; have k0_10 := cb hB c0_10)
        go_ret2
        exact ⟨ret_ver (by rw [HVV.out]) (by rw [HVV.out]), bl_from Hw.out hB⟩
end Go.Proofs.Ythhfcambdmdgfaa
namespace Go.Proofs.Ythhfcambdmdgfaa.Srt
set_option linter.unusedVariables false
set_option linter.unusedSectionVars false
set_option linter.unusedSimpArgs false
structure TO {κ : Type} (lt : κ → κ → Bool) : Prop where
  irr : ∀ x, lt x x = false
  tr : ∀ x y z, lt x y = true → lt y z = true → lt x z = true
  tot : ∀ x y, lt x y = false → lt y x = false → x = y
section
variable {κ : Type} {lt : κ → κ → Bool}
theorem TO.asym (h : TO lt) {x y : κ} (q : lt x y = true) : lt y x = false := by
  cases e : lt y x with
  | false => rfl
  | true => have := h.tr _ _ _ q e; rw [h.irr] at this; cases this
/-- Not behind, then not behind. -/
theorem TO.le_tr (h : TO lt) {x y z : κ} (q : lt y x = false) (r : lt z y = false) : lt z x = false := by
  cases e : lt z x with
  | false => rfl
  | true =>
    cases f : lt x y with
    | true => rw [h.tr _ _ _ e f] at r; cases r
    | false => have := h.tot x y f q; subst this; rw [e] at r; cases r
theorem TO.lt_le (h : TO lt) {x y z : κ} (q : lt x y = true) (r : lt z y = false) : lt x z = true := by
  cases e : lt x z with
  | true => rfl
  | false => rw [h.le_tr r e] at q; cases q
theorem TO.le_lt (h : TO lt) {x y z : κ} (q : lt y x = false) (r : lt y z = true) : lt x z = true := by
  cases e : lt x z with
  | true => rfl
  | false => rw [h.le_tr e q] at r; cases r
end
section
variable {α κ : Type} [DecidableEq κ] {K : α → κ} {lt : κ → κ → Bool}
def rowF (d : Nat → α) (n : Nat) : List α := (List.range n).map d
theorem rowF_len (d : Nat → α) (n : Nat) : (rowF d n).length = n := by simp [rowF]
theorem rowF_get (d : Nat → α) (n : Nat) {i : Nat} (h : i < n) : (rowF d n)[i]? = some (d i) := by simp [rowF, h]
/-- A piece. -/
def pc (d : Nat → α) (a b : Nat) : List α := (List.range' a (b - a)).map d
theorem pc_app (d : Nat → α) {a b c : Nat} (h1 : a ≤ b) (h2 : b ≤ c) : pc d a c = pc d a b ++ pc d b c := by
  unfold pc
  rw [← List.map_append]
  congr 1
  have := List.range'_append_1 (s := a) (m := b - a) (n := c - b)
  rw [show a + (b - a) = b by omega, show b - a + (c - b) = c - a by omega] at this
  exact this.symm
theorem rowF_pc (d : Nat → α) (n : Nat) : rowF d n = pc d 0 n := by unfold rowF pc; rw [List.range_eq_range', Nat.sub_zero]
theorem mem_pc {d : Nat → α} {a b : Nat} {x : α} : x ∈ pc d a b ↔ ∃ i, a ≤ i ∧ i < b ∧ d i = x := by
  unfold pc
  simp only [List.mem_map, List.mem_range'_1]
  exact ⟨fun ⟨i, h1, h2⟩ => ⟨i, h1.1, by omega, h2⟩, fun ⟨i, h1, h2, h3⟩ => ⟨i, ⟨h1, by omega⟩, h3⟩⟩
theorem pc_shift {d e : Nat → α} {a b c : Nat} (h : ∀ i, i < b - a → e (c + i) = d (a + i)) : pc e c (c + (b - a)) = pc d a b := by
  unfold pc
  rw [show c + (b - a) - c = b - a by omega]
  apply List.ext_getElem?
  intro i
  simp only [List.getElem?_map]
  by_cases hi : i < b - a
  · rw [List.getElem?_range' hi, List.getElem?_range' hi]
    simp [h i hi]
  · rw [List.getElem?_eq_none (by simp; omega), List.getElem?_eq_none (by simp; omega)]; rfl
theorem pc_same {d e : Nat → α} {a b : Nat} (h : ∀ i, a ≤ i → i < b → e i = d i) : pc e a b = pc d a b := by
  by_cases hab : a ≤ b
  · have := pc_shift (d := d) (e := e) (a := a) (b := b) (c := a) (fun i hi => h _ (by omega) (by omega))
    rwa [show a + (b - a) = b by omega] at this
  · unfold pc; rw [show b - a = 0 by omega]; rfl
/-- Two at a time. -/
def swF (d : Nat → α) (x y : Nat) : Nat → α := fun i => if i = x then d y else if i = y then d x else d i
def swR (d : Nat → α) (a b n : Nat) : Nat → α := fun i => if a ≤ i ∧ i < a + n then d (i - a + b) else if b ≤ i ∧ i < b + n then d (i - b + a) else d i
def rot (d : Nat → α) (s m e : Nat) : Nat → α := fun i => if s ≤ i ∧ i < e then (if i < s + (e - m) then d (i + (m - s)) else d (i - (e - m))) else d i
theorem swR_zero (d : Nat → α) (a b : Nat) : swR d a b 0 = d := by
  funext i; unfold swR; rw [if_neg (by omega), if_neg (by omega)]
theorem swR_succ (d : Nat → α) {a b n : Nat} (h : a + n < b) : swF (swR d a b n) (a + n) (b + n) = swR d a b (n + 1) := by
  funext i
  unfold swF swR
  by_cases h1 : i = a + n
  · subst h1
    rw [if_pos rfl, if_neg (by omega), if_neg (by omega), if_pos (by omega)]; congr 1; omega
  · rw [if_neg h1]
    by_cases h2 : i = b + n
    · subst h2
      rw [if_pos rfl, if_neg (by omega), if_neg (by omega), if_neg (by omega), if_pos (by omega)]; congr 1; omega
    · rw [if_neg h2]
      by_cases h3 : a ≤ i ∧ i < a + n
      · rw [if_pos h3, if_pos (show a ≤ i ∧ i < a + (n + 1) by omega)]
      · rw [if_neg h3, if_neg (show ¬ (a ≤ i ∧ i < a + (n + 1)) by omega)]
        by_cases h4 : b ≤ i ∧ i < b + n
        · rw [if_pos h4, if_pos (show b ≤ i ∧ i < b + (n + 1) by omega)]
        · rw [if_neg h4, if_neg (show ¬ (b ≤ i ∧ i < b + (n + 1)) by omega)]
theorem rot_left (d : Nat → α) {m i j : Nat} (hi : i ≤ m) (hj : j < i) : rot (swR d (m - i) m j) (m - (i - j)) m (m + j) = rot d (m - i) m (m + j) := by
  funext x
  unfold rot swR
  by_cases h1 : m - (i - j) ≤ x ∧ x < m + j
  · rw [if_pos h1, if_pos (show m - i ≤ x ∧ x < m + j by omega)]
    by_cases h2 : x < m - (i - j) + (m + j - m)
    · rw [if_pos h2, if_neg (show ¬ x < m - i + (m + j - m) by omega), if_neg (by omega), if_pos (by omega)]; congr 1; omega
    · rw [if_neg h2, if_neg (show ¬ x < m - i + (m + j - m) by omega), if_neg (by omega), if_neg (by omega)]
  · rw [if_neg h1]
    by_cases h2 : m - i ≤ x ∧ x < m + j
    · rw [if_pos h2, if_pos (show m - i ≤ x ∧ x < m - i + j by omega), if_pos (by omega)]; congr 1; omega
    · rw [if_neg h2, if_neg (by omega), if_neg (by omega)]
theorem rot_right (d : Nat → α) {m i j : Nat} (hi : i ≤ m) (hj : i < j) : rot (swR d (m - i) (m + j - i) i) (m - i) m (m + (j - i)) = rot d (m - i) m (m + j) := by
  funext x
  unfold rot swR
  by_cases h1 : m - i ≤ x ∧ x < m + (j - i)
  · rw [if_pos h1, if_pos (show m - i ≤ x ∧ x < m + j by omega)]
    by_cases h2 : x < m - i + (m + (j - i) - m)
    · rw [if_pos h2, if_pos (show x < m - i + (m + j - m) by omega), if_neg (by omega), if_neg (by omega)]
    · rw [if_neg h2, if_pos (show x < m - i + (m + j - m) by omega), if_pos (by omega)]; congr 1; omega
  · rw [if_neg h1]
    by_cases h2 : m - i ≤ x ∧ x < m + j
    · rw [if_pos h2, if_neg (by omega), if_pos (show m + j - i ≤ x ∧ x < m + j - i + i by omega), if_neg (by omega)]; congr 1; omega
    · rw [if_neg h2, if_neg (by omega), if_neg (by omega)]
theorem rot_even (d : Nat → α) {m i : Nat} (hi : i ≤ m) : swR d (m - i) m i = rot d (m - i) m (m + i) := by
  funext x
  unfold rot swR
  by_cases h1 : m - i ≤ x ∧ x < m - i + i
  · rw [if_pos h1, if_pos (by omega), if_pos (by omega)]; congr 1; omega
  · rw [if_neg h1]
    by_cases h2 : m ≤ x ∧ x < m + i
    · rw [if_pos h2, if_pos (by omega), if_neg (by omega)]; congr 1; omega
    · rw [if_neg h2, if_neg (by omega)]
theorem rot_nilL (d : Nat → α) {s e : Nat} (h : s ≤ e) : rot d s s e = d := by
  funext x; unfold rot
  by_cases h1 : s ≤ x ∧ x < e
  · rw [if_pos h1, if_pos (by omega)]; congr 1; omega
  · rw [if_neg h1]
theorem rot_nilR (d : Nat → α) {s m : Nat} (h : s ≤ m) : rot d s m m = d := by
  funext x; unfold rot
  by_cases h1 : s ≤ x ∧ x < m
  · rw [if_pos h1, if_neg (by omega)]; congr 1; omega
  · rw [if_neg h1]
/-- One up. -/
theorem rot_up (d : Nat → α) {a k : Nat} (h : a ≤ k) : swF (rot d a (a + 1) (k + 1)) k (k + 1) = rot d a (a + 1) (k + 2) := by
  funext x
  unfold swF rot
  by_cases h1 : x = k
  · subst h1; rw [if_pos rfl, if_neg (by omega), if_pos (by omega), if_pos (by omega)]; congr 1; omega
  · rw [if_neg h1]
    by_cases h2 : x = k + 1
    · subst h2; rw [if_pos rfl, if_pos (by omega), if_neg (by omega), if_pos (by omega), if_neg (by omega)]; congr 1; omega
    · rw [if_neg h2]
      by_cases h3 : a ≤ x ∧ x < k + 1
      · rw [if_pos h3, if_pos (by omega), if_pos (by omega), if_pos (by omega)]
      · rw [if_neg h3, if_neg (by omega)]
/-- One down. -/
theorem rot_down (d : Nat → α) {k m : Nat} (h : k < m) : swF (rot d (k + 1) m (m + 1)) (k + 1) k = rot d k m (m + 1) := by
  funext x
  unfold swF rot
  by_cases h1 : x = k + 1
  · subst h1; rw [if_pos rfl, if_neg (by omega), if_pos (by omega), if_neg (by omega)]; congr 1; omega
  · rw [if_neg h1]
    by_cases h2 : x = k
    · subst h2; rw [if_pos rfl, if_pos (by omega), if_pos (by omega), if_pos (by omega), if_pos (by omega)]; congr 1; omega
    · rw [if_neg h2]
      by_cases h3 : k + 1 ≤ x ∧ x < m + 1
      · rw [if_pos h3, if_neg (by omega), if_pos (by omega), if_neg (by omega)]
      · rw [if_neg h3, if_neg (by omega)]
theorem rot_out (d : Nat → α) (s m e : Nat) {i : Nat} (h : i < s ∨ e ≤ i) : rot d s m e i = d i := by unfold rot; rw [if_neg (by omega)]
/-- In pieces. -/
theorem pc_rot (d : Nat → α) {s m e n : Nat} (h1 : s ≤ m) (h2 : m ≤ e) (h3 : e ≤ n) : pc (rot d s m e) 0 n = pc d 0 s ++ pc d m e ++ pc d s m ++ pc d e n := by
  rw [pc_app (rot d s m e) (Nat.zero_le s) (show s ≤ n by omega), pc_app (rot d s m e) (show s ≤ s + (e - m) by omega) (show s + (e - m) ≤ n by omega), pc_app (rot d s m e) (show s + (e - m) ≤ e by omega) h3]
  rw [pc_same (d := d) (a := 0) (b := s) (fun i _ hi => rot_out d s m e (.inl hi)), pc_same (d := d) (a := e) (b := n) (fun i hi _ => rot_out d s m e (.inr hi))]
  rw [pc_shift (d := d) (e := rot d s m e) (a := m) (b := e) (c := s) (fun i hi => by unfold rot; rw [if_pos (by omega), if_pos (by omega)]; congr 1; omega)]
  have := pc_shift (d := d) (e := rot d s m e) (a := s) (b := m) (c := s + (e - m)) (fun i hi => by unfold rot; rw [if_pos (by omega), if_neg (by omega)]; congr 1; omega)
  rw [show s + (e - m) + (m - s) = e by omega] at this
  rw [this]
  simp [List.append_assoc]
/-- Each class in its own order. -/
def Stab (K : α → κ) (l m : List α) : Prop := ∀ c, l.filter (fun x => decide (K x = c)) = m.filter (fun x => decide (K x = c))
theorem Stab.refl (l : List α) : Stab K l l := fun _ => rfl
theorem Stab.trans {l m o : List α} (h : Stab K l m) (k : Stab K m o) : Stab K l o := fun c => (h c).trans (k c)
theorem Stab.mem {l m : List α} (h : Stab K l m) {x : α} : x ∈ l ↔ x ∈ m := by
  have e : ∀ q : List α, x ∈ q ↔ x ∈ q.filter (fun y => decide (K y = K x)) := fun q => by simp
  rw [e l, e m, h (K x)]
theorem stab_app {l m l' m' : List α} (h : Stab K l l') (k : Stab K m m') : Stab K (l ++ m) (l' ++ m') := fun c => by rw [List.filter_append, List.filter_append, h c, k c]
theorem stab_swap {X Y : List α} (h : ∀ x ∈ X, ∀ y ∈ Y, K x ≠ K y) : Stab K (X ++ Y) (Y ++ X) := fun c => by
  rw [List.filter_append, List.filter_append]
  by_cases hX : X.filter (fun x => decide (K x = c)) = []
  · rw [hX]; simp
  · have hY : Y.filter (fun x => decide (K x = c)) = [] := by
      rw [List.filter_eq_nil_iff]
      intro y hy hyc
      obtain ⟨x, hx⟩ := List.exists_mem_of_ne_nil _ hX
      rw [List.mem_filter] at hx
      exact h x hx.1 y hy (by simp at hyc hx; rw [hx.2, hyc])
    rw [hY]; simp
theorem stab_rot (d : Nat → α) {s m e n : Nat} (h1 : s ≤ m) (h2 : m ≤ e) (h3 : e ≤ n) (h : ∀ i j, s ≤ i → i < m → m ≤ j → j < e → K (d i) ≠ K (d j)) : Stab K (rowF d n) (rowF (rot d s m e) n) := by
  rw [rowF_pc, rowF_pc, pc_rot d h1 h2 h3, pc_app d (Nat.zero_le s) (show s ≤ n by omega), pc_app d h1 (show m ≤ n by omega), pc_app d h2 h3]
  have hs := stab_swap (K := K) (X := pc d s m) (Y := pc d m e) (fun x hx y hy => by
    obtain ⟨i, h4, h5, rfl⟩ := mem_pc.1 hx
    obtain ⟨j, h6, h7, rfl⟩ := mem_pc.1 hy
    exact h i j h4 h5 h6 h7)
  have := stab_app (Stab.refl (K := K) (pc d 0 s)) (stab_app hs (Stab.refl (K := K) (pc d e n)))
  simpa [List.append_assoc] using this
def SrtF (K : α → κ) (lt : κ → κ → Bool) (d : Nat → α) (a b : Nat) : Prop := ∀ i j, a ≤ i → i < j → j < b → lt (K (d j)) (K (d i)) = false
/-- What a piece of work may do. -/
structure Wk (K : α → κ) (n : Nat) (d d' : Nat → α) (a b : Nat) : Prop where
  out : ∀ i, i < a ∨ b ≤ i → d' i = d i
  stab : Stab K (rowF d n) (rowF d' n)
theorem Wk.refl {n : Nat} (d : Nat → α) (a b : Nat) : Wk K n d d a b := ⟨fun _ _ => rfl, Stab.refl _⟩
theorem Wk.trans {n : Nat} {d e f : Nat → α} {a b : Nat} (h : Wk K n d e a b) (k : Wk K n e f a b) : Wk K n d f a b := ⟨fun i hi => (k.out i hi).trans (h.out i hi), h.stab.trans k.stab⟩
theorem Wk.wider {n : Nat} {d e : Nat → α} {a b a' b' : Nat} (h : Wk K n d e a b) (ha : a' ≤ a) (hb : b ≤ b') : Wk K n d e a' b' := ⟨fun i hi => h.out i (by omega), h.stab⟩
/-- The piece itself is in its classes' order. -/
theorem Wk.piece {n : Nat} {d e : Nat → α} {a b : Nat} (h : Wk K n d e a b) (hab : a ≤ b) (hb : b ≤ n) : Stab K (pc d a b) (pc e a b) := by
  intro c
  have := h.stab c
  rw [rowF_pc, rowF_pc, pc_app d (Nat.zero_le a) (show a ≤ n by omega), pc_app d hab hb, pc_app e (Nat.zero_le a) (show a ≤ n by omega), pc_app e hab hb,
    pc_same (d := d) (e := e) (a := 0) (b := a) (fun i _ hi => h.out i (.inl hi)), pc_same (d := d) (e := e) (a := b) (b := n) (fun i hi _ => h.out i (.inr hi))] at this
  simp only [List.filter_append] at this
  exact List.append_cancel_right (List.append_cancel_left this)
theorem Wk.all {n : Nat} {d e : Nat → α} {a b : Nat} (h : Wk K n d e a b) (hb : b ≤ n) {p : α → Prop} (hp : ∀ i, a ≤ i → i < b → p (d i)) : ∀ i, a ≤ i → i < b → p (e i) := by
  intro i h1 h2
  have hm : e i ∈ pc e a b := mem_pc.2 ⟨i, h1, h2, rfl⟩
  obtain ⟨j, h3, h4, h5⟩ := mem_pc.1 (((h.piece (by omega) hb).mem).2 hm)
  rw [← h5]; exact hp j h3 h4
/-- Two halves in order, one not behind the other. -/
theorem srt_join {d : Nat → α} {a m b : Nat} (h1 : SrtF K lt d a m) (h2 : SrtF K lt d m b) (h : ∀ i j, a ≤ i → i < m → m ≤ j → j < b → lt (K (d j)) (K (d i)) = false) : SrtF K lt d a b := by
  intro i j hi hij hj
  by_cases q : j < m
  · exact h1 i j hi hij q
  · by_cases r : i < m
    · exact h i j hi r (by omega) hj
    · exact h2 i j (by omega) hij hj
theorem srt_same {d e : Nat → α} {a b : Nat} (h : SrtF K lt d a b) (he : ∀ i, a ≤ i → i < b → e i = d i) : SrtF K lt e a b := by
  intro i j hi hij hj; rw [he i hi (by omega), he j (by omega) hj]; exact h i j hi hij hj
theorem srt_sub {d : Nat → α} {a b a' b' : Nat} (h : SrtF K lt d a b) (ha : a ≤ a') (hb : b' ≤ b) : SrtF K lt d a' b' := fun i j hi hij hj => h i j (by omega) hij (by omega)
/-- Sorted, in their classes' order: there is one. -/
theorem srt_unique (T : TO lt) : ∀ (l m : List α), l.Pairwise (fun x y => lt (K y) (K x) = false) → m.Pairwise (fun x y => lt (K y) (K x) = false) → Stab K l m → l = m
  | [], [], _, _, _ => rfl
  | [], y :: r, _, _, h => by have := h (K y); simp at this
  | x :: r, [], _, _, h => by have := h (K x); simp at this
  | x :: r, y :: s, h1, h2, h => by
    have hx : K x = K y := by
      have mx : x ∈ y :: s := h.mem.1 (by simp)
      have my : y ∈ x :: r := h.mem.2 (by simp)
      rw [List.pairwise_cons] at h1 h2
      refine T.tot _ _ ?_ ?_
      · rcases List.mem_cons.1 mx with e | e
        · rw [e]; exact T.irr _
        · exact h2.1 x e
      · rcases List.mem_cons.1 my with e | e
        · rw [e]; exact T.irr _
        · exact h1.1 y e
    have h0 := h (K x)
    rw [List.filter_cons, List.filter_cons, if_pos (by simp), if_pos (by simp [hx])] at h0
    have hxy : x = y := (List.cons.inj h0).1
    subst hxy
    rw [List.pairwise_cons] at h1 h2
    rw [srt_unique T r s h1.2 h2.2 (fun c => by
      have := h c
      rw [List.filter_cons, List.filter_cons] at this
      by_cases q : K x = c
      · rw [if_pos (by simpa using q), if_pos (by simpa using q)] at this; exact (List.cons.inj this).2
      · rw [if_neg (by simpa using q), if_neg (by simpa using q)] at this; exact this)]
theorem srt_row {d : Nat → α} {n : Nat} (h : SrtF K lt d 0 n) : (rowF d n).Pairwise (fun x y => lt (K y) (K x) = false) := by
  rw [List.pairwise_iff_getElem]
  intro i j hi hj hij
  rw [rowF_len] at hi hj
  have e1 := rowF_get d n hi; have e2 := rowF_get d n hj
  rw [List.getElem?_eq_getElem (by rw [rowF_len]; exact hi)] at e1
  rw [List.getElem?_eq_getElem (by rw [rowF_len]; exact hj)] at e2
  rw [Option.some.inj e1, Option.some.inj e2]
  exact h i j (Nat.zero_le _) hij hj
/-- What the search of the one ahead has found: [m, i) are ahead of d a, the others are not. -/
theorem merge_one {n : Nat} {d : Nat → α} (T : TO lt) {a i b : Nat} (h1 : a + 1 ≤ i) (h2 : i ≤ b) (hb : b ≤ n) (hs : SrtF K lt d (a + 1) b)
    (hl : ∀ j, a + 1 ≤ j → j < i → lt (K (d j)) (K (d a)) = true) (hr : ∀ j, i ≤ j → j < b → lt (K (d j)) (K (d a)) = false) : Wk K n d (rot d a (a + 1) i) a b ∧ SrtF K lt (rot d a (a + 1) i) a b := by
  refine ⟨⟨fun x hx => rot_out _ _ _ _ (by omega), stab_rot d (by omega) h1 (by omega) (fun x y h3 h4 h5 h6 => ?_)⟩, ?_⟩
  · obtain rfl : x = a := by omega
    intro e
    have := hl y h5 h6
    rw [e, T.irr] at this; cases this
  · have g : ∀ x, a ≤ x → x < b → (x < i - 1 ∧ rot d a (a + 1) i x = d (x + 1)) ∨ (x = i - 1 ∧ rot d a (a + 1) i x = d a) ∨ (i ≤ x ∧ rot d a (a + 1) i x = d x) := fun x h3 h4 => by
      by_cases q : x < i - 1
      · left; refine ⟨q, ?_⟩; unfold rot; rw [if_pos (by omega), if_pos (by omega)]; congr 1; omega
      · by_cases r : x = i - 1
        · right; left; refine ⟨r, ?_⟩; unfold rot; rw [if_pos (by omega), if_neg (by omega)]; congr 1; omega
        · right; right; exact ⟨by omega, rot_out _ _ _ _ (by omega)⟩
    intro x y hx hxy hy
    rcases g x hx (by omega) with ⟨q1, q2⟩ | ⟨q1, q2⟩ | ⟨q1, q2⟩ <;> rcases g y (by omega) hy with ⟨r1, r2⟩ | ⟨r1, r2⟩ | ⟨r1, r2⟩ <;> rw [q2, r2]
    · exact hs _ _ (by omega) (by omega) (by omega)
    · exact T.asym (hl _ (by omega) (by omega))
    · exact hs _ _ (by omega) (by omega) (by omega)
    · omega
    · omega
    · exact hr _ (by omega) hy
    · omega
    · omega
    · exact hs _ _ (by omega) hxy hy
theorem merge_last {n : Nat} {d : Nat → α} (T : TO lt) {a i m : Nat} (h1 : a ≤ i) (h2 : i ≤ m) (hb : m + 1 ≤ n) (hs : SrtF K lt d a m)
    (hl : ∀ j, a ≤ j → j < i → lt (K (d m)) (K (d j)) = false) (hr : ∀ j, i ≤ j → j < m → lt (K (d m)) (K (d j)) = true) : Wk K n d (rot d i m (m + 1)) a (m + 1) ∧ SrtF K lt (rot d i m (m + 1)) a (m + 1) := by
  refine ⟨⟨fun x hx => rot_out _ _ _ _ (by omega), stab_rot d (by omega) (by omega) (by omega) (fun x y h3 h4 h5 h6 => ?_)⟩, ?_⟩
  · obtain rfl : y = m := by omega
    intro e
    have := hr x h3 h4
    rw [e, T.irr] at this; cases this
  · have g : ∀ x, a ≤ x → x < m + 1 → (x < i ∧ rot d i m (m + 1) x = d x) ∨ (x = i ∧ rot d i m (m + 1) x = d m) ∨ (i < x ∧ rot d i m (m + 1) x = d (x - 1)) := fun x h3 h4 => by
      by_cases q : x < i
      · left; exact ⟨q, rot_out _ _ _ _ (by omega)⟩
      · by_cases r : x = i
        · right; left; refine ⟨r, ?_⟩; unfold rot; rw [if_pos (by omega), if_pos (by omega)]; congr 1; omega
        · right; right; refine ⟨by omega, ?_⟩; unfold rot; rw [if_pos (by omega), if_neg (by omega)]; congr 1; omega
    intro x y hx hxy hy
    rcases g x hx (by omega) with ⟨q1, q2⟩ | ⟨q1, q2⟩ | ⟨q1, q2⟩ <;> rcases g y (by omega) hy with ⟨r1, r2⟩ | ⟨r1, r2⟩ | ⟨r1, r2⟩ <;> rw [q2, r2]
    · exact hs _ _ (by omega) (by omega) (by omega)
    · exact hl _ (by omega) (by omega)
    · exact hs _ _ (by omega) (by omega) (by omega)
    · omega
    · omega
    · exact T.asym (hr _ (by omega) (by omega))
    · omega
    · omega
    · exact hs _ _ (by omega) (by omega) (by omega)
/-- The halves behind the rotation. -/
theorem merge_halves {n : Nat} {d : Nat → α} (T : TO lt) {a s m e b : Nat} (h1 : a ≤ s) (h2 : s ≤ m) (h3 : m ≤ e) (h4 : e ≤ b) (hb : b ≤ n) (hL : SrtF K lt d a m) (hR : SrtF K lt d m b)
    (hx : s < m → m < e → lt (K (d (e - 1))) (K (d s)) = true) (hy : a < s → e < b → lt (K (d e)) (K (d (s - 1))) = false) :
    Wk K n d (rot d s m e) a b ∧ SrtF K lt (rot d s m e) a s ∧ SrtF K lt (rot d s m e) s (s + (e - m)) ∧ SrtF K lt (rot d s m e) (s + (e - m)) e ∧ SrtF K lt (rot d s m e) e b ∧
    (∀ i j, a ≤ i → i < s + (e - m) → s + (e - m) ≤ j → j < b → lt (K (rot d s m e j)) (K (rot d s m e i)) = false) := by
  have hlt : ∀ i j, s ≤ i → i < m → m ≤ j → j < e → lt (K (d j)) (K (d i)) = true := fun i j q1 q2 q3 q4 => by
    have q := hx (by omega) (by omega)
    have r1 : lt (K (d i)) (K (d s)) = false := by
      rcases Nat.lt_or_ge s i with z | z
      · exact hL _ _ h1 z q2
      · obtain rfl : i = s := by omega
        exact T.irr _
    have r2 : lt (K (d (e - 1))) (K (d j)) = false := by
      rcases Nat.lt_or_ge j (e - 1) with z | z
      · exact hR _ _ q3 z (by omega)
      · obtain rfl : j = e - 1 := by omega
        exact T.irr _
    exact T.lt_le (T.le_lt r2 q) r1
  have hle : ∀ i j, a ≤ i → i < s → e ≤ j → j < b → lt (K (d j)) (K (d i)) = false := fun i j q1 q2 q3 q4 => by
    have q := hy (by omega) (by omega)
    have r1 : lt (K (d (s - 1))) (K (d i)) = false := by
      rcases Nat.lt_or_ge i (s - 1) with z | z
      · exact hL _ _ q1 z (by omega)
      · obtain rfl : i = s - 1 := by omega
        exact T.irr _
    have r2 : lt (K (d j)) (K (d e)) = false := by
      rcases Nat.lt_or_ge e j with z | z
      · exact hR _ _ h3 z q4
      · obtain rfl : j = e := by omega
        exact T.irr _
    exact T.le_tr (T.le_tr r1 q) r2
  have gA : ∀ x, x < s → rot d s m e x = d x := fun x hx => rot_out _ _ _ _ (.inl hx)
  have gB : ∀ x, s ≤ x → x < s + (e - m) → rot d s m e x = d (x + (m - s)) := fun x h5 h6 => by unfold rot; rw [if_pos (by omega), if_pos h6]
  have gC : ∀ x, s + (e - m) ≤ x → x < e → rot d s m e x = d (x - (e - m)) := fun x h5 h6 => by unfold rot; rw [if_pos (by omega), if_neg (by omega)]
  have gD : ∀ x, e ≤ x → rot d s m e x = d x := fun x hx => rot_out _ _ _ _ (.inr hx)
  refine ⟨⟨fun x hx => rot_out _ _ _ _ (by omega), stab_rot d h2 h3 (by omega) (fun i j q1 q2 q3 q4 z => ?_)⟩, ?_, ?_, ?_, ?_, ?_⟩
  · have := hlt i j q1 q2 q3 q4
    rw [z, T.irr] at this; cases this
  · exact srt_same (srt_sub hL (Nat.le_refl _) h2) (fun i _ hi => gA i hi)
  · intro i j q1 q2 q3; rw [gB i q1 (by omega), gB j (by omega) q3]; exact hR _ _ (by omega) (by omega) (by omega)
  · intro i j q1 q2 q3; rw [gC i q1 (by omega), gC j (by omega) q3]; exact hL _ _ (by omega) (by omega) (by omega)
  · exact srt_same (srt_sub hR h3 (Nat.le_refl _)) (fun i hi _ => gD i hi)
  · intro i j q1 q2 q3 q4
    by_cases hi : i < s
    · rw [gA i hi]
      by_cases hj : j < e
      · rw [gC j q3 hj]; exact hL _ _ q1 (by omega) (by omega)
      · rw [gD j (by omega)]; exact hle i j q1 hi (by omega) q4
    · rw [gB i (by omega) q2]
      by_cases hj : j < e
      · rw [gC j q3 hj]; exact T.asym (hlt _ _ (by omega) (by omega) (by omega) (by omega))
      · rw [gD j (by omega)]; exact hR _ _ (by omega) (by omega) q4
/-- The halves, each in order. -/
theorem merge_join {n : Nat} {d e f : Nat → α} {a mid b : Nat} (h1 : Wk K n d e a mid) (h2 : Wk K n e f mid b) (ha : a ≤ mid) (hm : mid ≤ b) (hb : b ≤ n) (hs1 : SrtF K lt e a mid) (hs2 : SrtF K lt f mid b)
    (h : ∀ i j, a ≤ i → i < mid → mid ≤ j → j < b → lt (K (d j)) (K (d i)) = false) : Wk K n d f a b ∧ SrtF K lt f a b := by
  refine ⟨(h1.wider (Nat.le_refl _) hm).trans (h2.wider ha (Nat.le_refl _)), srt_join (srt_same hs1 (fun i _ hi => h2.out i (.inl hi))) hs2 ?_⟩
  have q1 : ∀ i, a ≤ i → i < mid → ∀ j, mid ≤ j → j < b → lt (K (d j)) (K (e i)) = false := fun i hi hi2 j hj hj2 =>
    (h1.all (p := fun x => lt (K (d j)) (K x) = false) (by omega) (fun i hi hi2 => h i j hi hi2 hj hj2)) i hi hi2
  intro i j hi hi2 hj hj2
  rw [h2.out i (.inl hi2)]
  refine (h2.all (p := fun x => lt (K x) (K (e i)) = false) hb (fun j hj hj2 => ?_)) j hj hj2
  rw [h1.out j (.inr hj)]
  exact q1 i hi hi2 j hj hj2
end
end Go.Proofs.Ythhfcambdmdgfaa.Srt
namespace Go.Proofs.Ythhfcambdmdgfaa
open Srt
set_option linter.unusedVariables false
set_option linter.unusedSimpArgs false
set_option linter.unusedSectionVars false
theorem toB : TO ltB := ⟨ltB_irrefl, fun _ _ _ h k => ltB_trans h k, fun x y h k => by
  by_cases e : x = y
  · exact e
  · rcases ltB_total e with q | q
    · rw [h] at q; cases q
    · rw [k] at q; cases q⟩
section
variable {α : Type} {t : α → ByteArray}
def insX (t : α → ByteArray) (x : α) : List α → List α
  | [] => [x]
  | y :: r => if ltB (t x) (t y) then x :: y :: r else y :: insX t x r
def srtX (t : α → ByteArray) (l : List α) : List α := l.foldl (fun a x => insX t x a) []
def SrtL (t : α → ByteArray) (l : List α) : Prop := l.Pairwise (fun x y => ltB (t y) (t x) = false)
theorem insX_mem {x z : α} : ∀ (l : List α), z ∈ insX t x l ↔ z = x ∨ z ∈ l
  | [] => by simp [insX]
  | y :: r => by
    unfold insX
    split
    · simp
    · simp only [List.mem_cons, insX_mem r]
      constructor
      · rintro (h | h | h) <;> simp_all
      · rintro (h | h | h) <;> simp_all
theorem insX_len (x : α) : ∀ (l : List α), (insX t x l).length = l.length + 1
  | [] => rfl
  | y :: r => by unfold insX; split <;> simp [insX_len x r]
theorem insX_stab (x : α) : ∀ (l : List α), SrtL t l → Stab t (insX t x l) (l ++ [x])
  | [], _ => Stab.refl _
  | y :: r, h => by
    have h' := List.pairwise_cons.1 h
    unfold insX
    split
    · rename_i hlt
      exact stab_swap (K := t) (X := [x]) (Y := y :: r) (fun a ha b hb => by
        obtain rfl := List.mem_singleton.1 ha
        intro e
        rcases List.mem_cons.1 hb with rfl | hb
        · rw [e, ltB_irrefl] at hlt; cases hlt
        · have := h'.1 b hb
          rw [← e, hlt] at this; cases this)
    · exact stab_app (Stab.refl (K := t) [y]) (insX_stab x r h'.2)
theorem insX_srt (x : α) : ∀ (l : List α), SrtL t l → SrtL t (insX t x l)
  | [], _ => List.pairwise_singleton _ _
  | y :: r, h => by
    have h' := List.pairwise_cons.1 h
    unfold insX
    split
    · rename_i hlt
      refine List.pairwise_cons.2 ⟨fun z hz => ?_, h⟩
      rcases List.mem_cons.1 hz with rfl | hz
      · exact ltB_asymm hlt
      · exact toB.asym (toB.lt_le hlt (h'.1 z hz))
    · rename_i hlt
      refine List.pairwise_cons.2 ⟨fun z hz => ?_, insX_srt x r h'.2⟩
      rcases (insX_mem r).1 hz with rfl | hz
      · simpa using hlt
      · exact h'.1 z hz
theorem srtX_go : ∀ (l a : List α), SrtL t a → SrtL t (l.foldl (fun a x => insX t x a) a) ∧ Stab t (l.foldl (fun a x => insX t x a) a) (a ++ l)
  | [], a, h => ⟨h, by simpa using Stab.refl a⟩
  | x :: r, a, h => by
    obtain ⟨h1, h2⟩ := srtX_go r (insX t x a) (insX_srt x a h)
    refine ⟨h1, Stab.trans (K := t) h2 ?_⟩
    have := stab_app (insX_stab x a h) (Stab.refl (K := t) r)
    simpa [List.append_assoc] using this
theorem srtX_srt (l : List α) : SrtL t (srtX t l) := (srtX_go l [] List.Pairwise.nil).1
theorem srtX_stab (l : List α) : Stab t (srtX t l) l := (srtX_go (t := t) l [] List.Pairwise.nil).2
theorem Stab_symm {κ : Type} [DecidableEq κ] {K : α → κ} {l m : List α} (h : Stab K l m) : Stab K m l := fun c => (h c).symm
theorem srtX_of {l m : List α} (h : SrtL t m) (k : Stab t l m) : m = srtX t l :=
  srt_unique toB _ _ h (srtX_srt l) (Stab.trans (Stab_symm k) (Stab_symm (srtX_stab l)))
theorem srtX_same {l : List α} (h : SrtL t l) : srtX t l = l := (srtX_of h (Stab.refl l)).symm
theorem srtX_mem {l : List α} {x : α} : x ∈ srtX t l ↔ x ∈ l := (srtX_stab l).mem
theorem srtX_len (l : List α) : (srtX t l).length = l.length := by
  have : ∀ (l a : List α), (l.foldl (fun a x => insX t x a) a).length = a.length + l.length := by
    intro l
    induction l with
    | nil => intro a; rfl
    | cons x r ih => intro a; rw [List.foldl_cons, ih, insX_len, List.length_cons]; omega
  have h := this l []
  rw [List.length_nil, Nat.zero_add] at h
  exact h
end
end Go.Proofs.Ythhfcambdmdgfaa
namespace Go.Proofs.Ythhfcambdmdgfaa
open Go.RowKit Go.Maps
set_option linter.unusedVariables false
set_option linter.unusedSimpArgs false
theorem info_obj : (Try.prog.info? 27).map (fun i => (i.zero, i.size, i.bytes)) = some (some (.agg #[.string ⟨#[]⟩, .string ⟨#[]⟩, .string ⟨#[]⟩, .int .i64 0, .string ⟨#[]⟩, .bool false, .bool false, .slice none 0 0]), 8, 104) := by kernel_rfl
theorem app_obj {ops : Array Oper} {rest : List Oper} {o : Oper} {a : Act} {Q : Exit → Act → World → Prop} {w : World} (hgd : o.guard = none) (s x : Operand)
    (ho : o.op = .call { callee := .builtin .append, args := #[s, x], argTypes := #[28, 28] })
    (base : Nat) (tb : TypeId) (v : Value) (l : List OX) (u : OX) (au : Option Addr) (nu cu : Nat) (hu : u.2 = .slice au nu cu) (hs : a.eval s = v) (hown : w.ownsRow base 27 8 v l.length (objC l)) (c : Nat) (hx : a.eval x = .slice (some ⟨w.heap.size, 0, none⟩) 1 c)
    (hbase : base ≤ w.heap.size) (hlen : l.length + 1 ≤ 100000000)
    (h : ∀ g cap w1, w1.ownsRow base 27 8 (.slice (some ⟨g, 0, none⟩) (l.length + 1) cap) (l ++ [u]).length (objC (l ++ [u])) → Kept (fun k => v.ownBlock = some k) w w1 → wpList Try.prog ops Q rest (a.put o.dst (.slice (some ⟨g, 0, none⟩) (l.length + 1) cap)) w1) :
    wpList Try.prog ops Q (o :: rest) a (w.alloc (.cells #[.string u.1.key.kind, .string u.1.key.space, .string u.1.key.name, .int .i64 u.1.ver, .string u.1.cls, .bool u.1.term, .bool u.1.best, .slice au nu cu] tb)) := by
  obtain ⟨i0, hi, hz0, hz1, hz2⟩ := info_parts info_obj
  refine app_rw hgd s x _ ho base _ i0 _ 8 104 Try.underlying28 hi hz0 hz1 hz2 rfl (by decide) tb v l.length (objC l) [.string u.1.key.kind, .string u.1.key.space, .string u.1.key.name, .int .i64 u.1.ver, .string u.1.cls, .bool u.1.term, .bool u.1.best, .slice au nu cu] hs hown c hx rfl (by simp [Value.oneCell']) hbase hlen (by decide) ?_
  intro g cap w1 h1 h2 h3
  refine h g cap w1 ?_ h2
  rw [List.length_append, objC_app]
  have e : objX u = [.string u.1.key.kind, .string u.1.key.space, .string u.1.key.name, .int .i64 u.1.ver, .string u.1.cls, .bool u.1.term, .bool u.1.best, .slice au nu cu] := by unfold objX; rw [hu]
  rw [e]; exact h1
def oIn (o : ObjD) : Prop := in64 o.ver ∧ ∀ r ∈ o.charge, in64 r.2
theorem ObjS.oIn {w : World} {v : Value} {o : ObjD} (h : ObjS w v o) : oIn o := ⟨h.2, h.1.2⟩
theorem ResF.mono {w : World} {b b' : Nat} {x : Value} {l : Res} (h : ResF w b x l) (hb : b' ≤ b) : ResF w b' x l := by
  obtain ⟨g, h1, h2, h3⟩ := h; exact ⟨g, by omega, h2, h3⟩
theorem ResF.form {w : World} {b : Nat} {x : Value} {l : Res} (h : ResF w b x l) : ∃ g, x = .slice (some ⟨g, 0, none⟩) l.length l.length := by
  obtain ⟨g, h1, h2, h3⟩ := h; exact ⟨g, h2⟩
theorem ResF.kept {X : Nat → Prop} {w w' : World} {b : Nat} {x : Value} {l : Res} (h : ResF w b x l) (hk : Kept X w w') (hX : ∀ k, X k → ∀ c, w.heap[k]? = some (.cells c 112) → False) : ResF w' b x l := by
  obtain ⟨g, h1, h2, h3⟩ := h
  exact ⟨g, h1, h2, hk.heap h3 (fun q => hX g q _ h3)⟩
theorem ResF.below {w w' : World} {b : Nat} {x : Value} {l : Res} (h : ResF w b x l) (hb : Below w.heap.size w w') : ResF w' b x l := h.kept (kept_of_below (X := fun _ => False) hb) (fun _ q => q.elim)
/-- A list of objects in a row of the call's own, each with a list of its own. -/
def ObjsF (w : World) (b : Nat) (v : Value) (ys : List OX) : Prop := w.ownsRow b 27 8 v ys.length (objC ys) ∧ ∀ p ∈ ys, ResF w b p.2 p.1.charge
theorem ObjsF.objsS {w : World} {b : Nat} {v : Value} {ys : List OX} (h : ObjsF w b v ys) (hi : ∀ p ∈ ys, oIn p.1) : ObjsS w v ys := ⟨sliS_of h.1, fun p hp => ⟨(h.2 p hp).resS (hi p hp).2, (hi p hp).1⟩⟩
theorem row_apart {w : World} {b n : Nat} {v : Value} {cs : List Value} (h : w.ownsRow b 27 8 v n cs) : ∀ k, v.ownBlock = some k → ∀ c, w.heap[k]? = some (.cells c 112) → False := fun k hk c hc => rw_other h hc (by decide) hk
theorem ObjsF.kept {X : Nat → Prop} {w w' : World} {b : Nat} {v : Value} {ys : List OX} (h : ObjsF w b v ys) (hk : Kept X w w') (h1 : ∀ k, v.ownBlock = some k → ¬ X k) (h2 : ∀ k, X k → ∀ c, w.heap[k]? = some (.cells c 112) → False) : ObjsF w' b v ys :=
  ⟨rw_kept h.1 hk h1, fun p hp => (h.2 p hp).kept hk h2⟩
theorem ObjsF.below {w w' : World} {b : Nat} {v : Value} {ys : List OX} (h : ObjsF w b v ys) (hb : Below w.heap.size w w') : ObjsF w' b v ys := h.kept (kept_of_below (X := fun _ => False) hb) (fun _ _ q => q) (fun _ q => q.elim)
theorem ObjsF.mono {w : World} {b b' : Nat} {v : Value} {ys : List OX} (h : ObjsF w b v ys) (hb : b' ≤ b) : ObjsF w b' v ys := ⟨rw_mono h.1 hb, fun p hp => (h.2 p hp).mono hb⟩
theorem objsF_nil (w : World) (b : Nat) : ObjsF w b (.slice none 0 0) [] := ⟨⟨rfl, .inl ⟨rfl, rfl⟩⟩, by rintro p ⟨⟩⟩
theorem ObjsF.form {w : World} {b : Nat} {v : Value} {ys : List OX} (h : ObjsF w b v ys) : ∃ A c, v = .slice A ys.length c := rw_form h.1
/-- One more. -/
theorem ObjsF.snoc {w w' : World} {b : Nat} {v v' : Value} {ys : List OX} {p : OX} (h : ObjsF w b v ys) (hp : ResF w b p.2 p.1.charge) (hr : w'.ownsRow b 27 8 v' (ys ++ [p]).length (objC (ys ++ [p]))) (hk : Kept (fun k => v.ownBlock = some k) w w') : ObjsF w' b v' (ys ++ [p]) :=
  ⟨hr, fun q hq => by
    rcases List.mem_append.1 hq with r | r
    · exact (h.2 q r).kept hk (row_apart h.1)
    · obtain rfl := List.mem_singleton.1 r; exact hp.kept hk (row_apart h.1)⟩
theorem row_below {w w' : World} {b n : Nat} {v : Value} {cs : List Value} (h : w.ownsRow b 27 8 v n cs) (hk : Kept (fun k => v.ownBlock = some k) w w') (hb : b ≤ w.heap.size) : Below b w w' := hk.below hb (fun k q => (rw_type h q).1)
/-- A block of cells of a type. -/
def TyB (w : World) (b : Nat) (T : TypeId) : Prop := ∃ c, w.heap[b]? = some (.cells c T)
theorem TyB.set {w : World} {b : Nat} {T : TypeId} (h : TyB w b T) (g j : Nat) (u : Value) : TyB (w.setCell ⟨g, j, none⟩ u) b T := by
  obtain ⟨c, hc⟩ := h
  by_cases e : b = g
  · subst e; exact ⟨_, heap_setCell_same w b j c T u hc⟩
  · exact ⟨c, (Below.heap_setCell w ⟨g, j, none⟩ u b e).trans hc⟩
theorem TyB.below {w w' : World} {b : Nat} {T : TypeId} (h : TyB w b T) (hb : Below w.heap.size w w') : TyB w' b T := by
  obtain ⟨c, hc⟩ := h; exact ⟨c, blk_below hc hb⟩
theorem TyB.ne {w : World} {b : Nat} {T : TypeId} (h : TyB w b T) {c : Array Value} {T' : TypeId} (hc : w.heap[b]? = some (.cells c T')) (hT : T ≠ T') : False := by
  obtain ⟨d, hd⟩ := h; rw [hc] at hd; cases hd; exact hT rfl
theorem Kept.setCell' {X : Nat → Prop} {a w : World} (h : Kept X a w) (g j : Nat) (u : Value) (hp : X g) : Kept X a (w.setCell ⟨g, j, none⟩ u) := h.setCell _ _ (.inl hp)
end Go.Proofs.Ythhfcambdmdgfaa
namespace Go.Proofs.Ythhfcambdmdgfaa
open Go.RowKit Go.Maps
set_option linter.unusedVariables false
set_option linter.unusedSimpArgs false
def OwnO (w : World) (o : ObjD) (e : Ending) (w' : World) : Prop := ∃ g, e = .returned (.agg #[.string o.key.kind, .string o.key.space, .string o.key.name, .int .i64 o.ver, .string o.cls, .bool o.term, .bool o.best, .slice (some ⟨g, 0, none⟩) o.charge.length o.charge.length]) ∧ Hid (ResF w' w.heap.size (.slice (some ⟨g, 0, none⟩) o.charge.length o.charge.length) o.charge) ∧ Below w.heap.size w w'
theorem ownO_calls (w : World) {sl : Value} {o : ObjD} (h : ObjS w sl o) (hs : objSmall o) : Calls Try.prog 56 #[objV o sl] w (OwnO w o) :=
  (own_calls w h (by have := hs.2.2.1; omega)).mono fun e w' ⟨x, he, hx, hb⟩ => by
    obtain ⟨g, rfl⟩ := hx.form
    exact ⟨g, he, Lib.hid hx, hb⟩
def OwnE (w : World) (kd : Int) (o : ObjD) (vr : Int) (xs : List OX) (e : Ending) (w' : World) : Prop := ∃ x ov ys, e = .returned (evV kd o x vr ov) ∧ ResF w' w.heap.size x o.charge ∧ ObjsF w' w.heap.size ov ys ∧ oxs ys = oxs xs ∧ Below w.heap.size w w'
set_option maxRecDepth 100000 in
set_option maxHeartbeats 16000000 in
theorem evown_calls (w : World) (kd : Int) {o : ObjD} {sl : Value} (vr : Int) {ol : Value} {xs : List OX} (ho : ObjS w sl o) (hs : objSmall o) (hx : ObjsS w ol xs) (hxs : OSmall (oxs xs)) (hl : xs.length ≤ 1000000) :
    Calls Try.prog 17 #[evV kd o sl vr ol] w (OwnE w kd o vr xs) := by
  have HO := Lib.hid ho; have HX := Lib.hid hx; have HSM := Lib.hid hxs; have HS := Lib.hid hs
  obtain ⟨ao, co, rfl⟩ := ho.1.form
  obtain ⟨al, cl, rfl⟩ := hx.form
  have HC := Lib.hid (fun (U : World) (h : Below w.heap.size w U) => ownO_calls U (HO.out.below h) HS.out)
  clear ho hx hxs hs
  unfold objV at HC
  unfold evV
  go_enter Try.func17, Try.ntmps17
  go_upto_region 1 with fail
  first | with_reducible refine name_wp ?_ | with_reducible refine name_calls ?_
  intro W hWeq
  have g0 : W.heap[w.heap.size]? = some (.cells #[.int .i64 kd, .string o.key.kind, .string o.key.space, .string o.key.name, .int .i64 o.ver, .string o.cls, .bool o.term, .bool o.best, .slice ao o.charge.length co, .int .i64 vr, .slice al xs.length cl] 30) := by rw [hWeq]; repeat (first | (with_reducible exact blk_newAt _ _ (by simp)) | with_reducible refine blk_drew ?_ | with_reducible refine blk_dN ?_ _ | with_reducible refine blk_old ?_ _)
  have g1 : W.heap[w.heap.size + 1]? = some (.cells #[.int .i64 0, .string ⟨#[]⟩, .string ⟨#[]⟩, .string ⟨#[]⟩, .int .i64 0, .string ⟨#[]⟩, .bool false, .bool false, .slice none 0 0, .int .i64 0, .slice none 0 0] 30) := by rw [hWeq]; repeat (first | (with_reducible exact blk_newAt _ _ (by simp)) | with_reducible refine blk_drew ?_ | with_reducible refine blk_dN ?_ _ | with_reducible refine blk_old ?_ _)
  have hw : Below w.heap.size w W := by rw [hWeq]; repeat (first | with_reducible exact Below.refl _ _ | with_reducible refine Below.drew ?_ | with_reducible refine bl_dN ?_ _ | with_reducible refine Below.alloc ?_ (by simp <;> omega) _)
  clear hWeq
  have hz : w.heap.size + 2 ≤ W.heap.size := by have := blk_lt g1; omega
  have c0_0 : W.cell? ⟨w.heap.size, 0, none⟩ = some (.int .i64 kd) := blk_cell g0 0
  have c0_1 : W.cell? ⟨w.heap.size, 1, none⟩ = some (.string o.key.kind) := blk_cell g0 1
  have c0_2 : W.cell? ⟨w.heap.size, 2, none⟩ = some (.string o.key.space) := blk_cell g0 2
  have c0_3 : W.cell? ⟨w.heap.size, 3, none⟩ = some (.string o.key.name) := blk_cell g0 3
  have c0_4 : W.cell? ⟨w.heap.size, 4, none⟩ = some (.int .i64 o.ver) := blk_cell g0 4
  have c0_5 : W.cell? ⟨w.heap.size, 5, none⟩ = some (.string o.cls) := blk_cell g0 5
  have c0_6 : W.cell? ⟨w.heap.size, 6, none⟩ = some (.bool o.term) := blk_cell g0 6
  have c0_7 : W.cell? ⟨w.heap.size, 7, none⟩ = some (.bool o.best) := blk_cell g0 7
  have c0_8 : W.cell? ⟨w.heap.size, 8, none⟩ = some (.slice ao o.charge.length co) := blk_cell g0 8
  have c0_9 : W.cell? ⟨w.heap.size, 9, none⟩ = some (.int .i64 vr) := blk_cell g0 9
  have c0_10 : W.cell? ⟨w.heap.size, 10, none⟩ = some (.slice al xs.length cl) := blk_cell g0 10
  have f0 : ∀ j, W.frozen? ⟨w.heap.size, j, none⟩ = false := blk_free g0
  have c1_0 : W.cell? ⟨w.heap.size + 1, 0, none⟩ = some (.int .i64 0) := blk_cell g1 0
  have c1_1 : W.cell? ⟨w.heap.size + 1, 1, none⟩ = some (.string ⟨#[]⟩) := blk_cell g1 1
  have c1_2 : W.cell? ⟨w.heap.size + 1, 2, none⟩ = some (.string ⟨#[]⟩) := blk_cell g1 2
  have c1_3 : W.cell? ⟨w.heap.size + 1, 3, none⟩ = some (.string ⟨#[]⟩) := blk_cell g1 3
  have c1_4 : W.cell? ⟨w.heap.size + 1, 4, none⟩ = some (.int .i64 0) := blk_cell g1 4
  have c1_5 : W.cell? ⟨w.heap.size + 1, 5, none⟩ = some (.string ⟨#[]⟩) := blk_cell g1 5
  have c1_6 : W.cell? ⟨w.heap.size + 1, 6, none⟩ = some (.bool false) := blk_cell g1 6
  have c1_7 : W.cell? ⟨w.heap.size + 1, 7, none⟩ = some (.bool false) := blk_cell g1 7
  have c1_8 : W.cell? ⟨w.heap.size + 1, 8, none⟩ = some (.slice none 0 0) := blk_cell g1 8
  have c1_9 : W.cell? ⟨w.heap.size + 1, 9, none⟩ = some (.int .i64 0) := blk_cell g1 9
  have c1_10 : W.cell? ⟨w.heap.size + 1, 10, none⟩ = some (.slice none 0 0) := blk_cell g1 10
  have f1 : ∀ j, W.frozen? ⟨w.heap.size + 1, j, none⟩ = false := blk_free g1
  have hB : Below W.heap.size W W := Below.refl _ _
  have G0 := Lib.hid g0; clear g0
  have F0 := Lib.hid f0; clear f0
  have G1 := Lib.hid g1; clear g1
  have F1 := Lib.hid f1; clear f1
  have Hw := Lib.hid hw; clear hw
  have HWX := Lib.hid (HX.out.below Hw.out)
  have G0' := G0; have G1' := G1
  go_upto_region 2 with (go_at_call 56; refine (HC.out _ Hw.out).mono ?_; rintro e w1 ⟨g, rfl, HF, hb⟩; have HB1 := Lib.hid hb; have k0_0 := cb hb c0_0; have kf0_0 := fb hb (lt_of_cell c0_0) (F0.out 0); have k0_1 := cb hb c0_1; have kf0_1 := fb hb (lt_of_cell c0_1) (F0.out 1); have k0_2 := cb hb c0_2; have kf0_2 := fb hb (lt_of_cell c0_2) (F0.out 2); have k0_3 := cb hb c0_3; have kf0_3 := fb hb (lt_of_cell c0_3) (F0.out 3); have k0_4 := cb hb c0_4; have kf0_4 := fb hb (lt_of_cell c0_4) (F0.out 4); have k0_5 := cb hb c0_5; have kf0_5 := fb hb (lt_of_cell c0_5) (F0.out 5); have k0_6 := cb hb c0_6; have kf0_6 := fb hb (lt_of_cell c0_6) (F0.out 6); have k0_7 := cb hb c0_7; have kf0_7 := fb hb (lt_of_cell c0_7) (F0.out 7); have k0_8 := cb hb c0_8; have kf0_8 := fb hb (lt_of_cell c0_8) (F0.out 8); have k0_9 := cb hb c0_9; have kf0_9 := fb hb (lt_of_cell c0_9) (F0.out 9); have k0_10 := cb hb c0_10; have kf0_10 := fb hb (lt_of_cell c0_10) (F0.out 10); have k1_0 := cb hb c1_0; have kf1_0 := fb hb (lt_of_cell c1_0) (F1.out 0); have k1_1 := cb hb c1_1; have kf1_1 := fb hb (lt_of_cell c1_1) (F1.out 1); have k1_2 := cb hb c1_2; have kf1_2 := fb hb (lt_of_cell c1_2) (F1.out 2); have k1_3 := cb hb c1_3; have kf1_3 := fb hb (lt_of_cell c1_3) (F1.out 3); have k1_4 := cb hb c1_4; have kf1_4 := fb hb (lt_of_cell c1_4) (F1.out 4); have k1_5 := cb hb c1_5; have kf1_5 := fb hb (lt_of_cell c1_5) (F1.out 5); have k1_6 := cb hb c1_6; have kf1_6 := fb hb (lt_of_cell c1_6) (F1.out 6); have k1_7 := cb hb c1_7; have kf1_7 := fb hb (lt_of_cell c1_7) (F1.out 7); have k1_8 := cb hb c1_8; have kf1_8 := fb hb (lt_of_cell c1_8) (F1.out 8); have k1_9 := cb hb c1_9; have kf1_9 := fb hb (lt_of_cell c1_9) (F1.out 9); have k1_10 := cb hb c1_10; have kf1_10 := fb hb (lt_of_cell c1_10) (F1.out 10); clear hB hb)
  first | with_reducible refine name_wp ?_ | with_reducible refine name_calls ?_
  intro U hU
  have hkU : Kept (fun k => k = w.heap.size) w1 U := by
    rw [hU]
    repeat (refine Kept.setCell ?_ _ _ (.inl rfl))
    exact Kept.refl _ _
  have u0_0 : U.cell? ⟨w.heap.size, 0, none⟩ = some (.int .i64 kd) := by rw [hU]; go_simp
  have u0_1 : U.cell? ⟨w.heap.size, 1, none⟩ = some (.string o.key.kind) := by rw [hU]; go_simp
  have u0_2 : U.cell? ⟨w.heap.size, 2, none⟩ = some (.string o.key.space) := by rw [hU]; go_simp
  have u0_3 : U.cell? ⟨w.heap.size, 3, none⟩ = some (.string o.key.name) := by rw [hU]; go_simp
  have u0_4 : U.cell? ⟨w.heap.size, 4, none⟩ = some (.int .i64 o.ver) := by rw [hU]; go_simp
  have u0_5 : U.cell? ⟨w.heap.size, 5, none⟩ = some (.string o.cls) := by rw [hU]; go_simp
  have u0_6 : U.cell? ⟨w.heap.size, 6, none⟩ = some (.bool o.term) := by rw [hU]; go_simp
  have u0_7 : U.cell? ⟨w.heap.size, 7, none⟩ = some (.bool o.best) := by rw [hU]; go_simp
  have u0_8 : U.cell? ⟨w.heap.size, 8, none⟩ = some (.slice (some ⟨g, 0, none⟩) o.charge.length o.charge.length) := by rw [hU]; go_simp
  have u0_9 : U.cell? ⟨w.heap.size, 9, none⟩ = some (.int .i64 vr) := by rw [hU]; go_simp
  have u0_10 : U.cell? ⟨w.heap.size, 10, none⟩ = some (.slice al xs.length cl) := by rw [hU]; go_simp
  have u1_0 : U.cell? ⟨w.heap.size + 1, 0, none⟩ = some (.int .i64 0) := by rw [hU]; go_simp
  have u1_1 : U.cell? ⟨w.heap.size + 1, 1, none⟩ = some (.string ⟨#[]⟩) := by rw [hU]; go_simp
  have u1_2 : U.cell? ⟨w.heap.size + 1, 2, none⟩ = some (.string ⟨#[]⟩) := by rw [hU]; go_simp
  have u1_3 : U.cell? ⟨w.heap.size + 1, 3, none⟩ = some (.string ⟨#[]⟩) := by rw [hU]; go_simp
  have u1_4 : U.cell? ⟨w.heap.size + 1, 4, none⟩ = some (.int .i64 0) := by rw [hU]; go_simp
  have u1_5 : U.cell? ⟨w.heap.size + 1, 5, none⟩ = some (.string ⟨#[]⟩) := by rw [hU]; go_simp
  have u1_6 : U.cell? ⟨w.heap.size + 1, 6, none⟩ = some (.bool false) := by rw [hU]; go_simp
  have u1_7 : U.cell? ⟨w.heap.size + 1, 7, none⟩ = some (.bool false) := by rw [hU]; go_simp
  have u1_8 : U.cell? ⟨w.heap.size + 1, 8, none⟩ = some (.slice none 0 0) := by rw [hU]; go_simp
  have u1_9 : U.cell? ⟨w.heap.size + 1, 9, none⟩ = some (.int .i64 0) := by rw [hU]; go_simp
  have u1_10 : U.cell? ⟨w.heap.size + 1, 10, none⟩ = some (.slice none 0 0) := by rw [hU]; go_simp
  have uf0_0 : U.frozen? ⟨w.heap.size, 0, none⟩ = false := by rw [hU]; go_simp
  have uf0_1 : U.frozen? ⟨w.heap.size, 1, none⟩ = false := by rw [hU]; go_simp
  have uf0_2 : U.frozen? ⟨w.heap.size, 2, none⟩ = false := by rw [hU]; go_simp
  have uf0_3 : U.frozen? ⟨w.heap.size, 3, none⟩ = false := by rw [hU]; go_simp
  have uf0_4 : U.frozen? ⟨w.heap.size, 4, none⟩ = false := by rw [hU]; go_simp
  have uf0_5 : U.frozen? ⟨w.heap.size, 5, none⟩ = false := by rw [hU]; go_simp
  have uf0_6 : U.frozen? ⟨w.heap.size, 6, none⟩ = false := by rw [hU]; go_simp
  have uf0_7 : U.frozen? ⟨w.heap.size, 7, none⟩ = false := by rw [hU]; go_simp
  have uf0_8 : U.frozen? ⟨w.heap.size, 8, none⟩ = false := by rw [hU]; go_simp
  have uf0_9 : U.frozen? ⟨w.heap.size, 9, none⟩ = false := by rw [hU]; go_simp
  have uf0_10 : U.frozen? ⟨w.heap.size, 10, none⟩ = false := by rw [hU]; go_simp
  have uf1_0 : U.frozen? ⟨w.heap.size + 1, 0, none⟩ = false := by rw [hU]; go_simp
  have uf1_1 : U.frozen? ⟨w.heap.size + 1, 1, none⟩ = false := by rw [hU]; go_simp
  have uf1_2 : U.frozen? ⟨w.heap.size + 1, 2, none⟩ = false := by rw [hU]; go_simp
  have uf1_3 : U.frozen? ⟨w.heap.size + 1, 3, none⟩ = false := by rw [hU]; go_simp
  have uf1_4 : U.frozen? ⟨w.heap.size + 1, 4, none⟩ = false := by rw [hU]; go_simp
  have uf1_5 : U.frozen? ⟨w.heap.size + 1, 5, none⟩ = false := by rw [hU]; go_simp
  have uf1_6 : U.frozen? ⟨w.heap.size + 1, 6, none⟩ = false := by rw [hU]; go_simp
  have uf1_7 : U.frozen? ⟨w.heap.size + 1, 7, none⟩ = false := by rw [hU]; go_simp
  have uf1_8 : U.frozen? ⟨w.heap.size + 1, 8, none⟩ = false := by rw [hU]; go_simp
  have uf1_9 : U.frozen? ⟨w.heap.size + 1, 9, none⟩ = false := by rw [hU]; go_simp
  have uf1_10 : U.frozen? ⟨w.heap.size + 1, 10, none⟩ = false := by rw [hU]; go_simp
  have HT0 : Hid (TyB U w.heap.size 30) := Lib.hid (by
    rw [hU]
    iterate 8 (refine TyB.set ?_ _ _ _)
    exact TyB.below (w := W) ⟨_, G0'.out⟩ HB1.out)
  have HT1 : Hid (TyB U (w.heap.size + 1) 30) := Lib.hid (by
    rw [hU]
    iterate 8 (refine TyB.set ?_ _ _ _)
    exact TyB.below (w := W) ⟨_, G1'.out⟩ HB1.out)
  clear hU k0_0 kf0_0 k0_1 kf0_1 k0_2 kf0_2 k0_3 kf0_3 k0_4 kf0_4 k0_5 kf0_5 k0_6 kf0_6 k0_7 kf0_7 k0_8 kf0_8 k0_9 kf0_9 k0_10 kf0_10 k1_0 kf1_0 k1_1 kf1_1 k1_2 kf1_2 k1_3 kf1_3 k1_4 kf1_4 k1_5 kf1_5 k1_6 kf1_6 k1_7 kf1_7 k1_8 kf1_8 k1_9 kf1_9 k1_10 kf1_10
  have hw1 : w.heap.size ≤ w1.heap.size := Nat.le_trans Hw.out.size HB1.out.size
  have hbU : Below w.heap.size w U := (bl_from Hw.out HB1.out).trans (hkU.below hw1 (fun k e => by rw [e]; exact Nat.le_refl _))
  have hWU : Below w.heap.size W U := (HB1.out.mono Hw.out.size).trans (hkU.below hw1 (fun k e => by rw [e]; exact Nat.le_refl _))
  have HFU := Lib.hid (HF.out.kept hkU (fun k e c hc => by rw [e, blk_below G0'.out HB1.out] at hc; cases hc))
  have HWs := Lib.hid (show w.heap.size ≤ W.heap.size from Hw.out.size)
  have HX2 := Lib.hid (HX.out.below hbU)
  have HBU := Lib.hid hbU
  have hz0 := lt_of_cell u0_0; have hz1 := lt_of_cell u1_0
  simp only at hz0 hz1
  clear hkU hw1 hbU hWU HF HB1
  have HNIL := Lib.hid (objsF_nil U U.heap.size)
  go_wp2_with fail
  go_loopw [3, 13] (fun s i wr => ∃ (k : Nat) (A : Option Addr) (c : Nat) (ys : List OX), i = .int .i64 k ∧ k ≤ xs.length ∧ s = .slice A k c ∧ Hid (ys.length = k ∧ ObjsF wr U.heap.size (.slice A k c) ys ∧ oxs ys = (oxs xs).take k) ∧ Hid (Below U.heap.size U wr)) (fun _ i _ => xs.length - (intOf i).toNat)
  case atStart => exact ⟨0, none, 0, [], rfl, Nat.zero_le _, rfl, Lib.hid ⟨rfl, HNIL.out, rfl⟩, Lib.hid (Below.refl _ _)⟩
  case round =>
    obtain ⟨k, av, cv, ys, rfl, hk, rfl, HY, HBr⟩ := hrel
    by_cases hkl : k < xs.length
    · have hkI : (k : Int) < xs.length := by omega
      obtain ⟨b, of, c, he, q, s⟩ := HX2.out.at' hkl
      cases he
      have z := small_at HSM.out hkl
      have HT := Lib.hid (oxs_take hkl)
      generalize xs[k]'hkl = x at q s z HT
      obtain ⟨x, sx⟩ := x
      simp only at s z HT
      obtain ⟨ax, cx, rfl⟩ := s.1.form
      obtain ⟨V, rfl⟩ : ∃ V : World, V = wr := ⟨_, rfl⟩
      have q := q.below HBr.out
      have d0 := q.c0; have d1 := q.c1; have d2 := q.c2; have d3 := q.c3; have d4 := q.c4; have d5 := q.c5; have d6 := q.c6; have d7 := q.c7
      simp only at d0 d1 d2 d3 d4 d5 d6 d7
      have HSX := Lib.hid (s.below HBr.out)
      clear q s
      go_upto_region 6 with fail
      first | with_reducible refine name_wp ?_ | with_reducible refine name_calls ?_
      intro V1 hU
      have hw9 : Below V.heap.size V V1 := by rw [hU]; exact (Below.refl V.heap.size V).alloc (Nat.le_refl _) _
      clear d0 d1 d2 d3 d4 d5 d6 d7
      have gA : V1.heap[V.heap.size]? = some (.cells #[.string x.key.kind, .string x.key.space, .string x.key.name, .int .i64 x.ver, .string x.cls, .bool x.term, .bool x.best, .slice ax x.charge.length cx] 27) := by rw [hU]; exact blk_new V _
      clear hU
      have a0 := blk_cell gA 0; have a1 := blk_cell gA 1; have a2 := blk_cell gA 2; have a3 := blk_cell gA 3; have a4 := blk_cell gA 4; have a5 := blk_cell gA 5; have a6 := blk_cell gA 6; have a7 := blk_cell gA 7
      clear gA
      have HC2 := Lib.hid (ownO_calls V1 (HSX.out.below hw9) z)
      unfold objV at HC2
      have HBV := Lib.hid (bl_next HBr.out hw9)
      have HY1 := Lib.hid (HY.out.2.1.below hw9)
      have HYE := Lib.hid (And.intro HY.out.1 HY.out.2.2)
      have hyl : ys.length ≤ 1000000 := by have := HY.out.1; omega
      clear hw9 z HY HSX
      go_wp2_with (first | (go_at_call 56; refine HC2.out.mono ?_; rintro e w2 ⟨gx, rfl, HF, hb⟩; have HY2 := Lib.hid (HY1.out.below hb); have HB2 := Lib.hid (bl_next HBV.out hb); clear hb) | (at_builtin; refine app_obj rfl (.tmp 17) (.tmp 20) rfl U.heap.size _ (.slice av k cv) ys (x, .slice (some ⟨gx, 0, none⟩) x.charge.length x.charge.length) _ _ _ rfl rfl HY2.out.1 1 rfl HB2.out.size (by omega) ?_; intro g3 cap w3 hown' hk'; have HN := Lib.hid (ObjsF.snoc (p := (x, .slice (some ⟨gx, 0, none⟩) x.charge.length x.charge.length)) HY2.out (HF.out.mono HBV.out.size) hown' hk'); have HB3 := Lib.hid (HB2.out.trans (row_below HY2.out.1 hk' HB2.out.size)); clear hown' hk'))
      go_roundw
      case rel => exact ⟨k + 1, _, cap, ys ++ [_], by simp, by omega, by rw [HYE.out.1], Lib.hid ⟨by simp [HYE.out.1], by rw [HYE.out.1] at HN; exact HN.out, by rw [HT.out, ← HYE.out.2]; simp [oxs]⟩, HB3⟩
      case measure => simp [intOf]; omega
    · obtain rfl : k = xs.length := by omega
      obtain ⟨V, rfl⟩ : ∃ V : World, V = wr := ⟨_, rfl⟩
      have k0_0 := cb HBr.out u0_0; have kf0_0 := fb HBr.out (lt_of_cell u0_0) uf0_0
      have k0_1 := cb HBr.out u0_1; have kf0_1 := fb HBr.out (lt_of_cell u0_1) uf0_1
      have k0_2 := cb HBr.out u0_2; have kf0_2 := fb HBr.out (lt_of_cell u0_2) uf0_2
      have k0_3 := cb HBr.out u0_3; have kf0_3 := fb HBr.out (lt_of_cell u0_3) uf0_3
      have k0_4 := cb HBr.out u0_4; have kf0_4 := fb HBr.out (lt_of_cell u0_4) uf0_4
      have k0_5 := cb HBr.out u0_5; have kf0_5 := fb HBr.out (lt_of_cell u0_5) uf0_5
      have k0_6 := cb HBr.out u0_6; have kf0_6 := fb HBr.out (lt_of_cell u0_6) uf0_6
      have k0_7 := cb HBr.out u0_7; have kf0_7 := fb HBr.out (lt_of_cell u0_7) uf0_7
      have k0_8 := cb HBr.out u0_8; have kf0_8 := fb HBr.out (lt_of_cell u0_8) uf0_8
      have k0_9 := cb HBr.out u0_9; have kf0_9 := fb HBr.out (lt_of_cell u0_9) uf0_9
      have k0_10 := cb HBr.out u0_10; have kf0_10 := fb HBr.out (lt_of_cell u0_10) uf0_10
      have k1_0 := cb HBr.out u1_0; have kf1_0 := fb HBr.out (lt_of_cell u1_0) uf1_0
      have k1_1 := cb HBr.out u1_1; have kf1_1 := fb HBr.out (lt_of_cell u1_1) uf1_1
      have k1_2 := cb HBr.out u1_2; have kf1_2 := fb HBr.out (lt_of_cell u1_2) uf1_2
      have k1_3 := cb HBr.out u1_3; have kf1_3 := fb HBr.out (lt_of_cell u1_3) uf1_3
      have k1_4 := cb HBr.out u1_4; have kf1_4 := fb HBr.out (lt_of_cell u1_4) uf1_4
      have k1_5 := cb HBr.out u1_5; have kf1_5 := fb HBr.out (lt_of_cell u1_5) uf1_5
      have k1_6 := cb HBr.out u1_6; have kf1_6 := fb HBr.out (lt_of_cell u1_6) uf1_6
      have k1_7 := cb HBr.out u1_7; have kf1_7 := fb HBr.out (lt_of_cell u1_7) uf1_7
      have k1_8 := cb HBr.out u1_8; have kf1_8 := fb HBr.out (lt_of_cell u1_8) uf1_8
      have k1_9 := cb HBr.out u1_9; have kf1_9 := fb HBr.out (lt_of_cell u1_9) uf1_9
      have k1_10 := cb HBr.out u1_10; have kf1_10 := fb HBr.out (lt_of_cell u1_10) uf1_10
      have HALL := Lib.hid (show oxs ys = oxs xs by rw [HY.out.2.2, ← oxs_len xs, List.take_length])
      have HFV := Lib.hid (HFU.out.below HBr.out)
      have hVw := Nat.le_trans HBU.out.size HBr.out.size
      go_wp2_with fail
      refine name_body ?_
      intro Z hZ
      have hkZ : Kept (fun k => k = w.heap.size ∨ k = w.heap.size + 1) V Z := by
        rw [hZ]
        repeat (refine Kept.setCell ?_ _ _ (.inl (by first | exact .inl rfl | exact .inr rfl)))
        exact Kept.refl _ _
      have r0 : Z.cell? ⟨w.heap.size + 1, 0, none⟩ = some (.int .i64 kd) := by rw [hZ]; go_simp
      have r1 : Z.cell? ⟨w.heap.size + 1, 1, none⟩ = some (.string o.key.kind) := by rw [hZ]; go_simp
      have r2 : Z.cell? ⟨w.heap.size + 1, 2, none⟩ = some (.string o.key.space) := by rw [hZ]; go_simp
      have r3 : Z.cell? ⟨w.heap.size + 1, 3, none⟩ = some (.string o.key.name) := by rw [hZ]; go_simp
      have r4 : Z.cell? ⟨w.heap.size + 1, 4, none⟩ = some (.int .i64 o.ver) := by rw [hZ]; go_simp
      have r5 : Z.cell? ⟨w.heap.size + 1, 5, none⟩ = some (.string o.cls) := by rw [hZ]; go_simp
      have r6 : Z.cell? ⟨w.heap.size + 1, 6, none⟩ = some (.bool o.term) := by rw [hZ]; go_simp
      have r7 : Z.cell? ⟨w.heap.size + 1, 7, none⟩ = some (.bool o.best) := by rw [hZ]; go_simp
      have r8 : Z.cell? ⟨w.heap.size + 1, 8, none⟩ = some (.slice (some ⟨g, 0, none⟩) o.charge.length o.charge.length) := by rw [hZ]; go_simp
      have r9 : Z.cell? ⟨w.heap.size + 1, 9, none⟩ = some (.int .i64 vr) := by rw [hZ]; go_simp
      have r10 : Z.cell? ⟨w.heap.size + 1, 10, none⟩ = some (.slice av xs.length cv) := by rw [hZ]; go_simp
      clear hZ
      refine bodyPost_ret (v := .agg #[.int .i64 kd, .string o.key.kind, .string o.key.space, .string o.key.name, .int .i64 o.ver, .string o.cls, .bool o.term, .bool o.best, .slice (some ⟨g, 0, none⟩) o.charge.length o.charge.length, .int .i64 vr, .slice av xs.length cv])
        (by simp [results, Try.results17, go_sem, r0, r1, r2, r3, r4, r5, r6, r7, r8, r9, r10]) rfl ⟨.slice (some ⟨g, 0, none⟩) o.charge.length o.charge.length, .slice av xs.length cv, ys, rfl, ?_, ?_, HALL.out, ?_⟩
      · exact (HFV.out.mono HWs.out).kept hkZ (fun k q c hc => by
          rcases q with rfl | rfl
          · exact (HT0.out.below HBr.out).ne hc (by decide)
          · exact (HT1.out.below HBr.out).ne hc (by decide))
      · have h9 := HY.out.2.1
        refine ObjsF.mono (b := U.heap.size) (h9.kept hkZ (fun k q r => ?_) (fun k q c hc => ?_)) HBU.out.size
        · have := (rw_type h9.1 q).1
          rcases r with rfl | rfl <;> omega
        · rcases q with rfl | rfl
          · exact (HT0.out.below HBr.out).ne hc (by decide)
          · exact (HT1.out.below HBr.out).ne hc (by decide)
      · exact (HBU.out.trans (HBr.out.mono HBU.out.size)).trans (hkZ.below hVw (fun k q => by rcases q with rfl | rfl <;> omega))
end Go.Proofs.Ythhfcambdmdgfaa
