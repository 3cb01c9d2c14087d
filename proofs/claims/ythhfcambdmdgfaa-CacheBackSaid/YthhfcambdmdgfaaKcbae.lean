import Derived.Test.YthhfcambdmdgfaaKcbad
import Derived.Test.YthhfcambdmdgfaaKcbaa
import Derived.IntWalk
import Derived.Test.YthhfcambdmdgfaaKcbac
import Derived.DeepKeys4
import Derived.DeepKeys5
import Derived.OrdersHeld
import Derived.TacticsInMore
import Derived.Shelf.SlGeneric
import Derived.Shelf.SlMaps.Clone
import Derived.Shelf.SlSortCmp.WholeK
import Derived.Shelf.Small.Bits
import Derived.Shelf.Strconv.Itoa0
import Derived.Test.YthhfcambdmdgfaaProg
import Derived.Test.YthhfcambdmdgfaaKcbab
import Derived.Shelf.SlSortCmp.QuietGrown
import Derived.Maps.RangeWalk
namespace Go.Proofs.Ythhfcambdmdgfaa
open Go.RowKit Go.Maps
set_option linter.unusedVariables false
set_option linter.unusedSimpArgs false
theorem rights_look {w : World} {mb : Nat} {kd : Int} (h : w.ownsMap Try.prog 22 RV mb 4 (dmA kI fV rightsM)) (hk : in64 kd) :
    (Instr.lookup 87 (.map (some mb)) (.int .i64 kd) true).run Try.prog w = .ok (.tuple #[((getA rightsM kd).map fV).getD .nilFunc, .bool (hasA rightsM kd)]) w := by
  rw [mv_look_ok h kI_keyed Try.underlying87 (zero_fn w) (kI_key hk), val_dmA keyI_lit, has_dmA keyI_lit]
theorem rights_none {kd : Int} (h0 : ¬ kd = 0) (h1 : ¬ kd = 1) (h2 : ¬ kd = 2) (h3 : ¬ kd = 3) : getA rightsM kd = none ∧ hasA rightsM kd = false := by
  have e0 : ¬ (0 : Int) = kd := fun e => h0 e.symm
  have e1 : ¬ (1 : Int) = kd := fun e => h1 e.symm
  have e2 : ¬ (2 : Int) = kd := fun e => h2 e.symm
  have e3 : ¬ (3 : Int) = kd := fun e => h3 e.symm
  have g : getA rightsM kd = none := by unfold rightsM; rw [getA_cons, if_neg e0, getA_cons, if_neg e1, getA_cons, if_neg e2, getA_cons, if_neg e3, getA_nil]
  exact ⟨g, by rw [hasA_get, g]; rfl⟩
set_option maxRecDepth 100000 in
set_option maxHeartbeats 8000000 in
theorem evright_calls (w : World) (kd : Int) {o : ObjD} {sl : Value} (vr : Int) {ol : Value} {xs : List OX} (ho : ObjS w sl o) (hs : objSmall o) (hx : ObjsS w ol xs) (hxs : OSmall (oxs xs)) (hkd : in64 kd) (hl : xs.length ≤ 1000000) :
    Calls Try.prog 21 #[evV kd o sl vr ol] w fun e w' => e = .returned (.bool (rightE ⟨kd, o, vr, oxs xs⟩)) ∧ Below w.heap.size w w' := by
  have HO := Lib.hid ho; have HX := Lib.hid hx; have HSM := Lib.hid hxs; have HS := Lib.hid hs
  obtain ⟨ao, co, rfl⟩ := ho.1.form
  obtain ⟨al, cl, rfl⟩ := hx.form
  have HLL := Lib.hid hl
  clear ho hx hxs hs hl
  unfold evV
  go_enter Try.func21, Try.ntmps21
  go_upto_region 1 with fail
  first | with_reducible refine name_wp ?_ | with_reducible refine name_calls ?_
  intro W hWeq
  have g0 : W.heap[w.heap.size]? = some (.cells #[.int .i64 kd, .string o.key.kind, .string o.key.space, .string o.key.name, .int .i64 o.ver, .string o.cls, .bool o.term, .bool o.best, .slice ao o.charge.length co, .int .i64 vr, .slice al xs.length cl] 30) := by rw [hWeq]; repeat (first | (with_reducible exact blk_newAt _ _ (by simp)) | with_reducible refine blk_drew ?_ | with_reducible refine blk_dN ?_ _ | with_reducible refine blk_old ?_ _)
  have hw : Below w.heap.size w W := by rw [hWeq]; repeat (first | with_reducible exact Below.refl _ _ | with_reducible refine Below.drew ?_ | with_reducible refine bl_dN ?_ _ | with_reducible refine Below.alloc ?_ (by simp <;> omega) _)
  clear hWeq
  have hz : w.heap.size + 1 ≤ W.heap.size := by have := blk_lt g0; omega
  have c0_0 : W.cell? ⟨w.heap.size, 0, none⟩ = some (.int .i64 kd) := blk_cell g0 0
  have c0_1 : W.cell? ⟨w.heap.size, 1, none⟩ = some (.string o.key.kind) := blk_cell g0 1
  have c0_2 : W.cell? ⟨w.heap.size, 2, none⟩ = some (.string o.key.space) := blk_cell g0 2
  have c0_3 : W.cell? ⟨w.heap.size, 3, none⟩ = some (.string o.key.name) := blk_cell g0 3
  have c0_4 : W.cell? ⟨w.heap.size, 4, none⟩ = some (.int .i64 o.ver) := blk_cell g0 4
  have c0_5 : W.cell? ⟨w.heap.size, 5, none⟩ = some (.string o.cls) := blk_cell g0 5
  have c0_6 : W.cell? ⟨w.heap.size, 6, none⟩ = some (.bool o.term) := blk_cell g0 6
  have c0_7 : W.cell? ⟨w.heap.size, 7, none⟩ = some (.bool o.best) := blk_cell g0 7
  have c0_8 : W.cell? ⟨w.heap.size, 8, none⟩ = some (.slice ao o.charge.length co) := blk_cell g0 8
  have c0_9 : W.cell? ⟨w.heap.size, 9, none⟩ = some (.int .i64 vr) := blk_cell g0 9
  have c0_10 : W.cell? ⟨w.heap.size, 10, none⟩ = some (.slice al xs.length cl) := blk_cell g0 10
  have f0 : ∀ j, W.frozen? ⟨w.heap.size, j, none⟩ = false := blk_free g0
  have hB : Below W.heap.size W W := Below.refl _ _
  have G0 := Lib.hid g0; clear g0
  have F0 := Lib.hid f0; clear f0
  have Hw := Lib.hid hw; clear hw
  by_cases h0 : kd = 0
  · subst h0
    have HR := Lib.hid (show rightE ⟨0, o, vr, oxs xs⟩ = rightO o from rfl)
    have HC := Lib.hid (fun (U : World) (h : Below w.heap.size w U) => rights1_calls U 0 vr (HO.out.below h) HS.out (HX.out.below h) HSM.out HLL.out)
    unfold evV at HC
    go_upto_region 1 with fail
    have hB := hB.drew
    refine region_seq (fun w' => Below W.heap.size W w') [(1, true), (2, true), (0, false), (3, false), (4, true), (5, true), (6, true), (7, true), (8, true)] (by kernel_rfl) (by kernel_rfl) (fun _ _ _ _ h => h) hB ?_
    try generalize World.drew _ = wS at hB ⊢
    refine seq_take (v := ?_) (a' := ?_) (some 7) rfl rfl (by rfl) ?_ ?_ ?_
    rotate_left; rotate_left
    · intro w' hS; go_simp; with_reducible rfl
    · simp only [Act.put, List.setIfInBounds_toArray, List.set_cons_zero, List.set_cons_succ]; rfl
    refine seq_take (v := ?_) (a' := ?_) (some 8) rfl rfl (by rfl) ?_ ?_ ?_
    rotate_left; rotate_left
    · intro w' hS; have a0 := cb hS c0_0; go_simp; with_reducible rfl
    · simp only [Act.put, List.setIfInBounds_toArray, List.set_cons_zero, List.set_cons_succ]; rfl
    refine seq_call (args := ?_) Try.func60 (by kernel_rfl) rfl (some 6) rfl rfl (by rfl) rfl ?_ ?_
    rotate_left
    · simp only [List.map_toArray, List.map_cons, List.map_nil]; go_simp; rfl
    with_reducible refine (rights_calls _).mono ?_
    rintro e w' ⟨mb, rfl, hm, hb⟩
    have hlk : (Instr.lookup 87 (.map (some mb)) (.int .i64 0) true).run Try.prog w' = .ok (.tuple #[.func (.func 82) #[] #[], .bool true]) w' := rights_look hm (by unfold in64; omega)
    refine ⟨_, rfl, bl_next (by repeat (first | with_reducible exact hB | refine Below.alloc ?_ (by have := hB.size; simp; omega) _ | refine bl_dN ?_ _ | refine Below.drew ?_ | refine Below.setCell ?_ (by have := hB.size; simp; omega) _)) hb, ?_⟩
    have hB := bl_next (by repeat (first | with_reducible exact hB | refine Below.alloc ?_ (by have := hB.size; simp; omega) _ | refine bl_dN ?_ _ | refine Below.drew ?_ | refine Below.setCell ?_ (by have := hB.size; simp; omega) _)) hb; clear hb
    simp only [Act.put, List.setIfInBounds_toArray, List.set_cons_zero, List.set_cons_succ]
    refine seq_op (some 9) rfl rfl (by rfl) ?_
    apply Exists.intro; apply Exists.intro; apply And.intro
    · skip; go_simp; first | exact ⟨rfl, rfl⟩ | rfl
    apply Exists.intro; apply And.intro
    · simp only [Act.put, List.setIfInBounds_toArray, List.set_cons_zero, List.set_cons_succ]; rfl
    apply And.intro
    · exact (by repeat (first | with_reducible exact hB | refine Below.alloc ?_ (by have := hB.size; simp; omega) _ | refine bl_dN ?_ _ | refine Below.drew ?_ | refine Below.setCell ?_ (by have := hB.size; simp; omega) _))
    refine seq_take (v := ?_) (a' := ?_) (some 5) rfl rfl (by rfl) ?_ ?_ ?_
    rotate_left; rotate_left
    · intro w' hS; go_simp; with_reducible rfl
    · simp only [Act.put, List.setIfInBounds_toArray, List.set_cons_zero, List.set_cons_succ]; rfl
    refine seq_take (v := ?_) (a' := ?_) (some 10) rfl rfl (by rfl) ?_ ?_ ?_
    rotate_left; rotate_left
    · intro w' hS; go_simp; with_reducible rfl
    · simp only [Act.put, List.setIfInBounds_toArray, List.set_cons_zero, List.set_cons_succ]; rfl
    refine seq_take (v := ?_) (a' := ?_) (some 11) rfl rfl (by rfl) ?_ ?_ ?_
    rotate_left; rotate_left
    · intro w' hS; go_simp; with_reducible rfl
    · simp only [Act.put, List.setIfInBounds_toArray, List.set_cons_zero, List.set_cons_succ]; rfl
    refine seq_take (v := ?_) (a' := ?_) (some 3) rfl rfl (by rfl) ?_ ?_ ?_
    rotate_left; rotate_left
    · intro w' hS; go_simp; with_reducible rfl
    · simp only [Act.put, List.setIfInBounds_toArray, List.set_cons_zero, List.set_cons_succ]; rfl
    refine seq_take (v := ?_) (a' := ?_) (some 4) rfl rfl (by rfl) ?_ ?_ ?_
    rotate_left; rotate_left
    · intro w' hS; go_simp; with_reducible rfl
    · simp only [Act.put, List.setIfInBounds_toArray, List.set_cons_zero, List.set_cons_succ]; rfl
    refine seq_done ?_
    clear hlk hm
    have k0_0 := cb hB c0_0; have k0_1 := cb hB c0_1; have k0_2 := cb hB c0_2; have k0_3 := cb hB c0_3; have k0_4 := cb hB c0_4; have k0_5 := cb hB c0_5; have k0_6 := cb hB c0_6; have k0_7 := cb hB c0_7; have k0_8 := cb hB c0_8; have k0_9 := cb hB c0_9; have k0_10 := cb hB c0_10
    go_wp2_with (go_at_call 82; refine (HC.out _ (bl_from Hw.out hB)).mono ?_; rintro e w' ⟨rfl, hb⟩; have hB := bl_next hB hb; clear hb)
    go_ret
    exact ⟨ret_bool HR.out.symm, bl_from Hw.out hB⟩
  by_cases h1 : kd = 1
  · subst h1
    have HR := Lib.hid (show rightE ⟨1, o, vr, oxs xs⟩ = (keyOk o.key && decide (1 ≤ o.ver)) from rfl)
    have HC := Lib.hid (fun (U : World) (h : Below w.heap.size w U) => rights2_calls U 1 vr (HO.out.below h) HS.out (HX.out.below h) HSM.out HLL.out)
    unfold evV at HC
    go_upto_region 1 with fail
    have hB := hB.drew
    refine region_seq (fun w' => Below W.heap.size W w') [(1, true), (2, true), (0, false), (3, false), (4, true), (5, true), (6, true), (7, true), (8, true)] (by kernel_rfl) (by kernel_rfl) (fun _ _ _ _ h => h) hB ?_
    try generalize World.drew _ = wS at hB ⊢
    refine seq_take (v := ?_) (a' := ?_) (some 7) rfl rfl (by rfl) ?_ ?_ ?_
    rotate_left; rotate_left
    · intro w' hS; go_simp; with_reducible rfl
    · simp only [Act.put, List.setIfInBounds_toArray, List.set_cons_zero, List.set_cons_succ]; rfl
    refine seq_take (v := ?_) (a' := ?_) (some 8) rfl rfl (by rfl) ?_ ?_ ?_
    rotate_left; rotate_left
    · intro w' hS; have a0 := cb hS c0_0; go_simp; with_reducible rfl
    · simp only [Act.put, List.setIfInBounds_toArray, List.set_cons_zero, List.set_cons_succ]; rfl
    refine seq_call (args := ?_) Try.func60 (by kernel_rfl) rfl (some 6) rfl rfl (by rfl) rfl ?_ ?_
    rotate_left
    · simp only [List.map_toArray, List.map_cons, List.map_nil]; go_simp; rfl
    with_reducible refine (rights_calls _).mono ?_
    rintro e w' ⟨mb, rfl, hm, hb⟩
    have hlk : (Instr.lookup 87 (.map (some mb)) (.int .i64 1) true).run Try.prog w' = .ok (.tuple #[.func (.func 83) #[] #[], .bool true]) w' := rights_look hm (by unfold in64; omega)
    refine ⟨_, rfl, bl_next (by repeat (first | with_reducible exact hB | refine Below.alloc ?_ (by have := hB.size; simp; omega) _ | refine bl_dN ?_ _ | refine Below.drew ?_ | refine Below.setCell ?_ (by have := hB.size; simp; omega) _)) hb, ?_⟩
    have hB := bl_next (by repeat (first | with_reducible exact hB | refine Below.alloc ?_ (by have := hB.size; simp; omega) _ | refine bl_dN ?_ _ | refine Below.drew ?_ | refine Below.setCell ?_ (by have := hB.size; simp; omega) _)) hb; clear hb
    simp only [Act.put, List.setIfInBounds_toArray, List.set_cons_zero, List.set_cons_succ]
    refine seq_op (some 9) rfl rfl (by rfl) ?_
    apply Exists.intro; apply Exists.intro; apply And.intro
    · skip; go_simp; first | exact ⟨rfl, rfl⟩ | rfl
    apply Exists.intro; apply And.intro
    · simp only [Act.put, List.setIfInBounds_toArray, List.set_cons_zero, List.set_cons_succ]; rfl
    apply And.intro
    · exact (by repeat (first | with_reducible exact hB | refine Below.alloc ?_ (by have := hB.size; simp; omega) _ | refine bl_dN ?_ _ | refine Below.drew ?_ | refine Below.setCell ?_ (by have := hB.size; simp; omega) _))
    refine seq_take (v := ?_) (a' := ?_) (some 5) rfl rfl (by rfl) ?_ ?_ ?_
    rotate_left; rotate_left
    · intro w' hS; go_simp; with_reducible rfl
    · simp only [Act.put, List.setIfInBounds_toArray, List.set_cons_zero, List.set_cons_succ]; rfl
    refine seq_take (v := ?_) (a' := ?_) (some 10) rfl rfl (by rfl) ?_ ?_ ?_
    rotate_left; rotate_left
    · intro w' hS; go_simp; with_reducible rfl
    · simp only [Act.put, List.setIfInBounds_toArray, List.set_cons_zero, List.set_cons_succ]; rfl
    refine seq_take (v := ?_) (a' := ?_) (some 11) rfl rfl (by rfl) ?_ ?_ ?_
    rotate_left; rotate_left
    · intro w' hS; go_simp; with_reducible rfl
    · simp only [Act.put, List.setIfInBounds_toArray, List.set_cons_zero, List.set_cons_succ]; rfl
    refine seq_take (v := ?_) (a' := ?_) (some 3) rfl rfl (by rfl) ?_ ?_ ?_
    rotate_left; rotate_left
    · intro w' hS; go_simp; with_reducible rfl
    · simp only [Act.put, List.setIfInBounds_toArray, List.set_cons_zero, List.set_cons_succ]; rfl
    refine seq_take (v := ?_) (a' := ?_) (some 4) rfl rfl (by rfl) ?_ ?_ ?_
    rotate_left; rotate_left
    · intro w' hS; go_simp; with_reducible rfl
    · simp only [Act.put, List.setIfInBounds_toArray, List.set_cons_zero, List.set_cons_succ]; rfl
    refine seq_done ?_
    clear hlk hm
    have k0_0 := cb hB c0_0; have k0_1 := cb hB c0_1; have k0_2 := cb hB c0_2; have k0_3 := cb hB c0_3; have k0_4 := cb hB c0_4; have k0_5 := cb hB c0_5; have k0_6 := cb hB c0_6; have k0_7 := cb hB c0_7; have k0_8 := cb hB c0_8; have k0_9 := cb hB c0_9; have k0_10 := cb hB c0_10
    go_wp2_with (go_at_call 83; refine (HC.out _ (bl_from Hw.out hB)).mono ?_; rintro e w' ⟨rfl, hb⟩; have hB := bl_next hB hb; clear hb)
    go_ret
    exact ⟨ret_bool HR.out.symm, bl_from Hw.out hB⟩
  by_cases h2 : kd = 2
  · subst h2
    have HR := Lib.hid (show rightE ⟨2, o, vr, oxs xs⟩ = relB vr (oxs xs) from rfl)
    have HC := Lib.hid (fun (U : World) (h : Below w.heap.size w U) => relist_calls U 2 vr (HO.out.below h) HS.out (HX.out.below h) HSM.out HLL.out)
    unfold evV at HC
    go_upto_region 1 with fail
    have hB := hB.drew
    refine region_seq (fun w' => Below W.heap.size W w') [(1, true), (2, true), (0, false), (3, false), (4, true), (5, true), (6, true), (7, true), (8, true)] (by kernel_rfl) (by kernel_rfl) (fun _ _ _ _ h => h) hB ?_
    try generalize World.drew _ = wS at hB ⊢
    refine seq_take (v := ?_) (a' := ?_) (some 7) rfl rfl (by rfl) ?_ ?_ ?_
    rotate_left; rotate_left
    · intro w' hS; go_simp; with_reducible rfl
    · simp only [Act.put, List.setIfInBounds_toArray, List.set_cons_zero, List.set_cons_succ]; rfl
    refine seq_take (v := ?_) (a' := ?_) (some 8) rfl rfl (by rfl) ?_ ?_ ?_
    rotate_left; rotate_left
    · intro w' hS; have a0 := cb hS c0_0; go_simp; with_reducible rfl
    · simp only [Act.put, List.setIfInBounds_toArray, List.set_cons_zero, List.set_cons_succ]; rfl
    refine seq_call (args := ?_) Try.func60 (by kernel_rfl) rfl (some 6) rfl rfl (by rfl) rfl ?_ ?_
    rotate_left
    · simp only [List.map_toArray, List.map_cons, List.map_nil]; go_simp; rfl
    with_reducible refine (rights_calls _).mono ?_
    rintro e w' ⟨mb, rfl, hm, hb⟩
    have hlk : (Instr.lookup 87 (.map (some mb)) (.int .i64 2) true).run Try.prog w' = .ok (.tuple #[.func (.func 84) #[] #[], .bool true]) w' := rights_look hm (by unfold in64; omega)
    refine ⟨_, rfl, bl_next (by repeat (first | with_reducible exact hB | refine Below.alloc ?_ (by have := hB.size; simp; omega) _ | refine bl_dN ?_ _ | refine Below.drew ?_ | refine Below.setCell ?_ (by have := hB.size; simp; omega) _)) hb, ?_⟩
    have hB := bl_next (by repeat (first | with_reducible exact hB | refine Below.alloc ?_ (by have := hB.size; simp; omega) _ | refine bl_dN ?_ _ | refine Below.drew ?_ | refine Below.setCell ?_ (by have := hB.size; simp; omega) _)) hb; clear hb
    simp only [Act.put, List.setIfInBounds_toArray, List.set_cons_zero, List.set_cons_succ]
    refine seq_op (some 9) rfl rfl (by rfl) ?_
    apply Exists.intro; apply Exists.intro; apply And.intro
    · skip; go_simp; first | exact ⟨rfl, rfl⟩ | rfl
    apply Exists.intro; apply And.intro
    · simp only [Act.put, List.setIfInBounds_toArray, List.set_cons_zero, List.set_cons_succ]; rfl
    apply And.intro
    · exact (by repeat (first | with_reducible exact hB | refine Below.alloc ?_ (by have := hB.size; simp; omega) _ | refine bl_dN ?_ _ | refine Below.drew ?_ | refine Below.setCell ?_ (by have := hB.size; simp; omega) _))
    refine seq_take (v := ?_) (a' := ?_) (some 5) rfl rfl (by rfl) ?_ ?_ ?_
    rotate_left; rotate_left
    · intro w' hS; go_simp; with_reducible rfl
    · simp only [Act.put, List.setIfInBounds_toArray, List.set_cons_zero, List.set_cons_succ]; rfl
    refine seq_take (v := ?_) (a' := ?_) (some 10) rfl rfl (by rfl) ?_ ?_ ?_
    rotate_left; rotate_left
    · intro w' hS; go_simp; with_reducible rfl
    · simp only [Act.put, List.setIfInBounds_toArray, List.set_cons_zero, List.set_cons_succ]; rfl
    refine seq_take (v := ?_) (a' := ?_) (some 11) rfl rfl (by rfl) ?_ ?_ ?_
    rotate_left; rotate_left
    · intro w' hS; go_simp; with_reducible rfl
    · simp only [Act.put, List.setIfInBounds_toArray, List.set_cons_zero, List.set_cons_succ]; rfl
    refine seq_take (v := ?_) (a' := ?_) (some 3) rfl rfl (by rfl) ?_ ?_ ?_
    rotate_left; rotate_left
    · intro w' hS; go_simp; with_reducible rfl
    · simp only [Act.put, List.setIfInBounds_toArray, List.set_cons_zero, List.set_cons_succ]; rfl
    refine seq_take (v := ?_) (a' := ?_) (some 4) rfl rfl (by rfl) ?_ ?_ ?_
    rotate_left; rotate_left
    · intro w' hS; go_simp; with_reducible rfl
    · simp only [Act.put, List.setIfInBounds_toArray, List.set_cons_zero, List.set_cons_succ]; rfl
    refine seq_done ?_
    clear hlk hm
    have k0_0 := cb hB c0_0; have k0_1 := cb hB c0_1; have k0_2 := cb hB c0_2; have k0_3 := cb hB c0_3; have k0_4 := cb hB c0_4; have k0_5 := cb hB c0_5; have k0_6 := cb hB c0_6; have k0_7 := cb hB c0_7; have k0_8 := cb hB c0_8; have k0_9 := cb hB c0_9; have k0_10 := cb hB c0_10
    go_wp2_with (go_at_call 84; refine (HC.out _ (bl_from Hw.out hB)).mono ?_; rintro e w' ⟨rfl, hb⟩; have hB := bl_next hB hb; clear hb)
    go_ret
    exact ⟨ret_bool HR.out.symm, bl_from Hw.out hB⟩
  by_cases h3 : kd = 3
  · subst h3
    have HR := Lib.hid (show rightE ⟨3, o, vr, oxs xs⟩ = decide (0 ≤ vr) from rfl)
    have HC := Lib.hid (fun (U : World) (h : Below w.heap.size w U) => rights3_calls U 3 vr (HO.out.below h) HS.out (HX.out.below h) HSM.out HLL.out)
    unfold evV at HC
    go_upto_region 1 with fail
    have hB := hB.drew
    refine region_seq (fun w' => Below W.heap.size W w') [(1, true), (2, true), (0, false), (3, false), (4, true), (5, true), (6, true), (7, true), (8, true)] (by kernel_rfl) (by kernel_rfl) (fun _ _ _ _ h => h) hB ?_
    try generalize World.drew _ = wS at hB ⊢
    refine seq_take (v := ?_) (a' := ?_) (some 7) rfl rfl (by rfl) ?_ ?_ ?_
    rotate_left; rotate_left
    · intro w' hS; go_simp; with_reducible rfl
    · simp only [Act.put, List.setIfInBounds_toArray, List.set_cons_zero, List.set_cons_succ]; rfl
    refine seq_take (v := ?_) (a' := ?_) (some 8) rfl rfl (by rfl) ?_ ?_ ?_
    rotate_left; rotate_left
    · intro w' hS; have a0 := cb hS c0_0; go_simp; with_reducible rfl
    · simp only [Act.put, List.setIfInBounds_toArray, List.set_cons_zero, List.set_cons_succ]; rfl
    refine seq_call (args := ?_) Try.func60 (by kernel_rfl) rfl (some 6) rfl rfl (by rfl) rfl ?_ ?_
    rotate_left
    · simp only [List.map_toArray, List.map_cons, List.map_nil]; go_simp; rfl
    with_reducible refine (rights_calls _).mono ?_
    rintro e w' ⟨mb, rfl, hm, hb⟩
    have hlk : (Instr.lookup 87 (.map (some mb)) (.int .i64 3) true).run Try.prog w' = .ok (.tuple #[.func (.func 85) #[] #[], .bool true]) w' := rights_look hm (by unfold in64; omega)
    refine ⟨_, rfl, bl_next (by repeat (first | with_reducible exact hB | refine Below.alloc ?_ (by have := hB.size; simp; omega) _ | refine bl_dN ?_ _ | refine Below.drew ?_ | refine Below.setCell ?_ (by have := hB.size; simp; omega) _)) hb, ?_⟩
    have hB := bl_next (by repeat (first | with_reducible exact hB | refine Below.alloc ?_ (by have := hB.size; simp; omega) _ | refine bl_dN ?_ _ | refine Below.drew ?_ | refine Below.setCell ?_ (by have := hB.size; simp; omega) _)) hb; clear hb
    simp only [Act.put, List.setIfInBounds_toArray, List.set_cons_zero, List.set_cons_succ]
    refine seq_op (some 9) rfl rfl (by rfl) ?_
    apply Exists.intro; apply Exists.intro; apply And.intro
    · skip; go_simp; first | exact ⟨rfl, rfl⟩ | rfl
    apply Exists.intro; apply And.intro
    · simp only [Act.put, List.setIfInBounds_toArray, List.set_cons_zero, List.set_cons_succ]; rfl
    apply And.intro
    · exact (by repeat (first | with_reducible exact hB | refine Below.alloc ?_ (by have := hB.size; simp; omega) _ | refine bl_dN ?_ _ | refine Below.drew ?_ | refine Below.setCell ?_ (by have := hB.size; simp; omega) _))
    refine seq_take (v := ?_) (a' := ?_) (some 5) rfl rfl (by rfl) ?_ ?_ ?_
    rotate_left; rotate_left
    · intro w' hS; go_simp; with_reducible rfl
    · simp only [Act.put, List.setIfInBounds_toArray, List.set_cons_zero, List.set_cons_succ]; rfl
    refine seq_take (v := ?_) (a' := ?_) (some 10) rfl rfl (by rfl) ?_ ?_ ?_
    rotate_left; rotate_left
    · intro w' hS; go_simp; with_reducible rfl
    · simp only [Act.put, List.setIfInBounds_toArray, List.set_cons_zero, List.set_cons_succ]; rfl
    refine seq_take (v := ?_) (a' := ?_) (some 11) rfl rfl (by rfl) ?_ ?_ ?_
    rotate_left; rotate_left
    · intro w' hS; go_simp; with_reducible rfl
    · simp only [Act.put, List.setIfInBounds_toArray, List.set_cons_zero, List.set_cons_succ]; rfl
    refine seq_take (v := ?_) (a' := ?_) (some 3) rfl rfl (by rfl) ?_ ?_ ?_
    rotate_left; rotate_left
    · intro w' hS; go_simp; with_reducible rfl
    · simp only [Act.put, List.setIfInBounds_toArray, List.set_cons_zero, List.set_cons_succ]; rfl
    refine seq_take (v := ?_) (a' := ?_) (some 4) rfl rfl (by rfl) ?_ ?_ ?_
    rotate_left; rotate_left
    · intro w' hS; go_simp; with_reducible rfl
    · simp only [Act.put, List.setIfInBounds_toArray, List.set_cons_zero, List.set_cons_succ]; rfl
    refine seq_done ?_
    clear hlk hm
    have k0_0 := cb hB c0_0; have k0_1 := cb hB c0_1; have k0_2 := cb hB c0_2; have k0_3 := cb hB c0_3; have k0_4 := cb hB c0_4; have k0_5 := cb hB c0_5; have k0_6 := cb hB c0_6; have k0_7 := cb hB c0_7; have k0_8 := cb hB c0_8; have k0_9 := cb hB c0_9; have k0_10 := cb hB c0_10
    go_wp2_with (go_at_call 85; refine (HC.out _ (bl_from Hw.out hB)).mono ?_; rintro e w' ⟨rfl, hb⟩; have hB := bl_next hB hb; clear hb)
    go_ret
    exact ⟨ret_bool HR.out.symm, bl_from Hw.out hB⟩
  · have HR := Lib.hid (show rightE ⟨kd, o, vr, oxs xs⟩ = false by unfold rightE; simp only; rw [if_neg h0, if_neg h1, if_neg h2, if_neg h3])
    have HN := Lib.hid (rights_none h0 h1 h2 h3)
    have HK := Lib.hid hkd
    clear h0 h1 h2 h3 hkd
    go_upto_region 1 with fail
    have hB := hB.drew
    refine region_seq (fun w' => Below W.heap.size W w') [(1, true), (2, true), (0, false), (3, false), (4, true), (5, true), (6, true), (7, true), (8, true)] (by kernel_rfl) (by kernel_rfl) (fun _ _ _ _ h => h) hB ?_
    try generalize World.drew _ = wS at hB ⊢
    refine seq_take (v := ?_) (a' := ?_) (some 7) rfl rfl (by rfl) ?_ ?_ ?_
    rotate_left; rotate_left
    · intro w' hS; go_simp; with_reducible rfl
    · simp only [Act.put, List.setIfInBounds_toArray, List.set_cons_zero, List.set_cons_succ]; rfl
    refine seq_take (v := ?_) (a' := ?_) (some 8) rfl rfl (by rfl) ?_ ?_ ?_
    rotate_left; rotate_left
    · intro w' hS; have a0 := cb hS c0_0; go_simp; with_reducible rfl
    · simp only [Act.put, List.setIfInBounds_toArray, List.set_cons_zero, List.set_cons_succ]; rfl
    refine seq_call (args := ?_) Try.func60 (by kernel_rfl) rfl (some 6) rfl rfl (by rfl) rfl ?_ ?_
    rotate_left
    · simp only [List.map_toArray, List.map_cons, List.map_nil]; go_simp; rfl
    with_reducible refine (rights_calls _).mono ?_
    rintro e w' ⟨mb, rfl, hm, hb⟩
    have hlk : (Instr.lookup 87 (.map (some mb)) (.int .i64 kd) true).run Try.prog w' = .ok (.tuple #[.nilFunc, .bool false]) w' := by (have q := rights_look hm HK.out; rw [HN.out.1, HN.out.2] at q; exact q)
    refine ⟨_, rfl, bl_next (by repeat (first | with_reducible exact hB | refine Below.alloc ?_ (by have := hB.size; simp; omega) _ | refine bl_dN ?_ _ | refine Below.drew ?_ | refine Below.setCell ?_ (by have := hB.size; simp; omega) _)) hb, ?_⟩
    have hB := bl_next (by repeat (first | with_reducible exact hB | refine Below.alloc ?_ (by have := hB.size; simp; omega) _ | refine bl_dN ?_ _ | refine Below.drew ?_ | refine Below.setCell ?_ (by have := hB.size; simp; omega) _)) hb; clear hb
    simp only [Act.put, List.setIfInBounds_toArray, List.set_cons_zero, List.set_cons_succ]
    refine seq_op (some 9) rfl rfl (by rfl) ?_
    apply Exists.intro; apply Exists.intro; apply And.intro
    · skip; go_simp; first | exact ⟨rfl, rfl⟩ | rfl
    apply Exists.intro; apply And.intro
    · simp only [Act.put, List.setIfInBounds_toArray, List.set_cons_zero, List.set_cons_succ]; rfl
    apply And.intro
    · exact (by repeat (first | with_reducible exact hB | refine Below.alloc ?_ (by have := hB.size; simp; omega) _ | refine bl_dN ?_ _ | refine Below.drew ?_ | refine Below.setCell ?_ (by have := hB.size; simp; omega) _))
    refine seq_take (v := ?_) (a' := ?_) (some 5) rfl rfl (by rfl) ?_ ?_ ?_
    rotate_left; rotate_left
    · intro w' hS; go_simp; with_reducible rfl
    · simp only [Act.put, List.setIfInBounds_toArray, List.set_cons_zero, List.set_cons_succ]; rfl
    refine seq_take (v := ?_) (a' := ?_) (some 10) rfl rfl (by rfl) ?_ ?_ ?_
    rotate_left; rotate_left
    · intro w' hS; go_simp; with_reducible rfl
    · simp only [Act.put, List.setIfInBounds_toArray, List.set_cons_zero, List.set_cons_succ]; rfl
    refine seq_take (v := ?_) (a' := ?_) (some 11) rfl rfl (by rfl) ?_ ?_ ?_
    rotate_left; rotate_left
    · intro w' hS; go_simp; with_reducible rfl
    · simp only [Act.put, List.setIfInBounds_toArray, List.set_cons_zero, List.set_cons_succ]; rfl
    refine seq_take (v := ?_) (a' := ?_) (some 3) rfl rfl (by rfl) ?_ ?_ ?_
    rotate_left; rotate_left
    · intro w' hS; go_simp; with_reducible rfl
    · simp only [Act.put, List.setIfInBounds_toArray, List.set_cons_zero, List.set_cons_succ]; rfl
    refine seq_take (v := ?_) (a' := ?_) (some 4) rfl rfl (by rfl) ?_ ?_ ?_
    rotate_left; rotate_left
    · intro w' hS; go_simp; with_reducible rfl
    · simp only [Act.put, List.setIfInBounds_toArray, List.set_cons_zero, List.set_cons_succ]; rfl
    refine seq_done ?_
    clear hlk hm
    have k0_0 := cb hB c0_0; have k0_1 := cb hB c0_1; have k0_2 := cb hB c0_2; have k0_3 := cb hB c0_3; have k0_4 := cb hB c0_4; have k0_5 := cb hB c0_5; have k0_6 := cb hB c0_6; have k0_7 := cb hB c0_7; have k0_8 := cb hB c0_8; have k0_9 := cb hB c0_9; have k0_10 := cb hB c0_10
    go_wp2_with fail
    go_ret
    exact ⟨ret_bool HR.out.symm, bl_from Hw.out hB⟩
set_option maxRecDepth 100000 in
set_option maxHeartbeats 8000000 in
theorem evver_calls (w : World) (kd : Int) {o : ObjD} {sl : Value} (vr : Int) {ol : Value} {xs : List OX} (ho : ObjS w sl o) (hs : objSmall o) (hx : ObjsS w ol xs) (hxs : OSmall (oxs xs)) (hkd : in64 kd) (hl : xs.length ≤ 1000000) :
    Calls Try.prog 14 #[evV kd o sl vr ol] w fun e w' => e = .returned (.tuple #[.int .i64 (verE ⟨kd, o, vr, oxs xs⟩).1, .int .i64 (verE ⟨kd, o, vr, oxs xs⟩).2]) ∧ Below w.heap.size w w' := by
  have HO := Lib.hid ho; have HX := Lib.hid hx; have HSM := Lib.hid hxs; have HS := Lib.hid hs
  obtain ⟨ao, co, rfl⟩ := ho.1.form
  obtain ⟨al, cl, rfl⟩ := hx.form
  have HC := Lib.hid (fun (U : World) (h : Below w.heap.size w U) => evright_calls U kd vr (HO.out.below h) HS.out (HX.out.below h) HSM.out hkd hl)
  obtain ⟨rb, hrb⟩ : ∃ b, rightE ⟨kd, o, vr, oxs xs⟩ = b := ⟨_, rfl⟩
  have HRB := Lib.hid hrb
  have HV := Lib.hid (show verE ⟨kd, o, vr, oxs xs⟩ = if rb then (if kd = 0 ∨ kd = 1 then o.ver else vr, 0) else (0, 1) by rw [← hrb]; rfl)
  clear ho hx hxs hs hl hrb hkd
  unfold evV at HC
  unfold evV
  go_enter Try.func14, Try.ntmps14
  go_upto_region 1 with fail
  first | with_reducible refine name_wp ?_ | with_reducible refine name_calls ?_
  intro W hWeq
  have g0 : W.heap[w.heap.size]? = some (.cells #[.int .i64 kd, .string o.key.kind, .string o.key.space, .string o.key.name, .int .i64 o.ver, .string o.cls, .bool o.term, .bool o.best, .slice ao o.charge.length co, .int .i64 vr, .slice al xs.length cl] 30) := by rw [hWeq]; repeat (first | (with_reducible exact blk_newAt _ _ (by simp)) | with_reducible refine blk_drew ?_ | with_reducible refine blk_dN ?_ _ | with_reducible refine blk_old ?_ _)
  have hw : Below w.heap.size w W := by rw [hWeq]; repeat (first | with_reducible exact Below.refl _ _ | with_reducible refine Below.drew ?_ | with_reducible refine bl_dN ?_ _ | with_reducible refine Below.alloc ?_ (by simp <;> omega) _)
  clear hWeq
  have hz : w.heap.size + 1 ≤ W.heap.size := by have := blk_lt g0; omega
  have c0_0 : W.cell? ⟨w.heap.size, 0, none⟩ = some (.int .i64 kd) := blk_cell g0 0
  have c0_1 : W.cell? ⟨w.heap.size, 1, none⟩ = some (.string o.key.kind) := blk_cell g0 1
  have c0_2 : W.cell? ⟨w.heap.size, 2, none⟩ = some (.string o.key.space) := blk_cell g0 2
  have c0_3 : W.cell? ⟨w.heap.size, 3, none⟩ = some (.string o.key.name) := blk_cell g0 3
  have c0_4 : W.cell? ⟨w.heap.size, 4, none⟩ = some (.int .i64 o.ver) := blk_cell g0 4
  have c0_5 : W.cell? ⟨w.heap.size, 5, none⟩ = some (.string o.cls) := blk_cell g0 5
  have c0_6 : W.cell? ⟨w.heap.size, 6, none⟩ = some (.bool o.term) := blk_cell g0 6
  have c0_7 : W.cell? ⟨w.heap.size, 7, none⟩ = some (.bool o.best) := blk_cell g0 7
  have c0_8 : W.cell? ⟨w.heap.size, 8, none⟩ = some (.slice ao o.charge.length co) := blk_cell g0 8
  have c0_9 : W.cell? ⟨w.heap.size, 9, none⟩ = some (.int .i64 vr) := blk_cell g0 9
  have c0_10 : W.cell? ⟨w.heap.size, 10, none⟩ = some (.slice al xs.length cl) := blk_cell g0 10
  have f0 : ∀ j, W.frozen? ⟨w.heap.size, j, none⟩ = false := blk_free g0
  have hB : Below W.heap.size W W := Below.refl _ _
  have G0 := Lib.hid g0; clear g0
  have F0 := Lib.hid f0; clear f0
  have Hw := Lib.hid hw; clear hw
  cases rb with
  | false =>
    go_wp2_with (go_at_call 21; refine (HC.out _ Hw.out).mono ?_; rintro e w' ⟨rfl, hb⟩; rw [HRB.out]; have hB := bl_next hB hb; clear hb)
    go_ret2
    exact ⟨ret_ver (by rw [HV.out]; rfl) (by rw [HV.out]; rfl), bl_from Hw.out hB⟩
  | true =>
    by_cases h0 : kd = 0
    · subst h0
      go_wp2_with (go_at_call 21; refine (HC.out _ Hw.out).mono ?_; rintro e w' ⟨rfl, hb⟩; rw [HRB.out]; have hB := bl_next hB hb; clear hb; have k0_0 := cb hB c0_0; have k0_1 := cb hB c0_1; have k0_2 := cb hB c0_2; have k0_3 := cb hB c0_3; have k0_4 := cb hB c0_4; have k0_5 := cb hB c0_5; have k0_6 := cb hB c0_6; have k0_7 := cb hB c0_7; have k0_8 := cb hB c0_8; have k0_9 := cb hB c0_9; have k0_10 := cb hB c0_10)
      go_ret2
      exact ⟨ret_ver (by rw [HV.out]; rfl) (by rw [HV.out]; rfl), bl_from Hw.out hB⟩
    · have b0 : (kd == 0) = false := by simpa using h0
      by_cases h1 : kd = 1
      · subst h1
        go_wp2_with (go_at_call 21; refine (HC.out _ Hw.out).mono ?_; rintro e w' ⟨rfl, hb⟩; rw [HRB.out]; have hB := bl_next hB hb; clear hb; have k0_0 := cb hB c0_0; have k0_1 := cb hB c0_1; have k0_2 := cb hB c0_2; have k0_3 := cb hB c0_3; have k0_4 := cb hB c0_4; have k0_5 := cb hB c0_5; have k0_6 := cb hB c0_6; have k0_7 := cb hB c0_7; have k0_8 := cb hB c0_8; have k0_9 := cb hB c0_9; have k0_10 := cb hB c0_10)
        go_ret2
        exact ⟨ret_ver (by rw [HV.out]; rfl) (by rw [HV.out]; rfl), bl_from Hw.out hB⟩
      · have b1 : (kd == 1) = false := by simpa using h1
        have HVV := Lib.hid (show verE ⟨kd, o, vr, oxs xs⟩ = (vr, 0) by rw [HV.out, if_pos rfl, if_neg (by omega)])
        go_wp2_with (go_at_call 21; refine (HC.out _ Hw.out).mono ?_; rintro e w' ⟨rfl, hb⟩; rw [HRB.out]; have hB := bl_next hB hb; clear hb; have k0_0 := cb hB c0_0; have k0_1 := cb hB c0_1; have k0_2 := cb hB c0_2; have k0_3 := cb hB c0_3; have k0_4 := cb hB c0_4; have k0_5 := cb hB c0_5; have k0_6 := cb hB c0_6; have k0_7 := cb hB c0_7; have k0_8 := cb hB c0_8; have k0_9 := cb hB c0_9; have k0_10 := cb hB c0_10)
        go_ret2
        exact ⟨ret_ver (by rw [HVV.out]) (by rw [HVV.out]), bl_from Hw.out hB⟩
end Go.Proofs.Ythhfcambdmdgfaa
namespace Go.Proofs.Ythhfcambdmdgfaa.Srt
set_option linter.unusedVariables false
set_option linter.unusedSectionVars false
set_option linter.unusedSimpArgs false
structure TO {κ : Type} (lt : κ → κ → Bool) : Prop where
  irr : ∀ x, lt x x = false
  tr : ∀ x y z, lt x y = true → lt y z = true → lt x z = true
  tot : ∀ x y, lt x y = false → lt y x = false → x = y
section
variable {κ : Type} {lt : κ → κ → Bool}
theorem TO.asym (h : TO lt) {x y : κ} (q : lt x y = true) : lt y x = false := by
  cases e : lt y x with
  | false => rfl
  | true => have := h.tr _ _ _ q e; rw [h.irr] at this; cases this
/-- Not behind, then not behind. -/
theorem TO.le_tr (h : TO lt) {x y z : κ} (q : lt y x = false) (r : lt z y = false) : lt z x = false := by
  cases e : lt z x with
  | false => rfl
  | true =>
    cases f : lt x y with
    | true => rw [h.tr _ _ _ e f] at r; cases r
    | false => have := h.tot x y f q; subst this; rw [e] at r; cases r
theorem TO.lt_le (h : TO lt) {x y z : κ} (q : lt x y = true) (r : lt z y = false) : lt x z = true := by
  cases e : lt x z with
  | true => rfl
  | false => rw [h.le_tr r e] at q; cases q
end
section
variable {α κ : Type} [DecidableEq κ] {K : α → κ} {lt : κ → κ → Bool}
/-- Each class in its own order. -/
def Stab (K : α → κ) (l m : List α) : Prop := ∀ c, l.filter (fun x => decide (K x = c)) = m.filter (fun x => decide (K x = c))
theorem Stab.refl (l : List α) : Stab K l l := fun _ => rfl
theorem Stab.trans {l m o : List α} (h : Stab K l m) (k : Stab K m o) : Stab K l o := fun c => (h c).trans (k c)
theorem Stab.mem {l m : List α} (h : Stab K l m) {x : α} : x ∈ l ↔ x ∈ m := by
  have e : ∀ q : List α, x ∈ q ↔ x ∈ q.filter (fun y => decide (K y = K x)) := fun q => by simp
  rw [e l, e m, h (K x)]
theorem stab_app {l m l' m' : List α} (h : Stab K l l') (k : Stab K m m') : Stab K (l ++ m) (l' ++ m') := fun c => by rw [List.filter_append, List.filter_append, h c, k c]
theorem stab_swap {X Y : List α} (h : ∀ x ∈ X, ∀ y ∈ Y, K x ≠ K y) : Stab K (X ++ Y) (Y ++ X) := fun c => by
  rw [List.filter_append, List.filter_append]
  by_cases hX : X.filter (fun x => decide (K x = c)) = []
  · rw [hX]; simp
  · have hY : Y.filter (fun x => decide (K x = c)) = [] := by
      rw [List.filter_eq_nil_iff]
      intro y hy hyc
      obtain ⟨x, hx⟩ := List.exists_mem_of_ne_nil _ hX
      rw [List.mem_filter] at hx
      exact h x hx.1 y hy (by simp at hyc hx; rw [hx.2, hyc])
    rw [hY]; simp
/-- Sorted, in their classes' order: there is one. -/
theorem srt_unique (T : TO lt) : ∀ (l m : List α), l.Pairwise (fun x y => lt (K y) (K x) = false) → m.Pairwise (fun x y => lt (K y) (K x) = false) → Stab K l m → l = m
  | [], [], _, _, _ => rfl
  | [], y :: r, _, _, h => by have := h (K y); simp at this
  | x :: r, [], _, _, h => by have := h (K x); simp at this
  | x :: r, y :: s, h1, h2, h => by
    have hx : K x = K y := by
      have mx : x ∈ y :: s := h.mem.1 (by simp)
      have my : y ∈ x :: r := h.mem.2 (by simp)
      rw [List.pairwise_cons] at h1 h2
      refine T.tot _ _ ?_ ?_
      · rcases List.mem_cons.1 mx with e | e
        · rw [e]; exact T.irr _
        · exact h2.1 x e
      · rcases List.mem_cons.1 my with e | e
        · rw [e]; exact T.irr _
        · exact h1.1 y e
    have h0 := h (K x)
    rw [List.filter_cons, List.filter_cons, if_pos (by simp), if_pos (by simp [hx])] at h0
    have hxy : x = y := (List.cons.inj h0).1
    subst hxy
    rw [List.pairwise_cons] at h1 h2
    rw [srt_unique T r s h1.2 h2.2 (fun c => by
      have := h c
      rw [List.filter_cons, List.filter_cons] at this
      by_cases q : K x = c
      · rw [if_pos (by simpa using q), if_pos (by simpa using q)] at this; exact (List.cons.inj this).2
      · rw [if_neg (by simpa using q), if_neg (by simpa using q)] at this; exact this)]
end
end Go.Proofs.Ythhfcambdmdgfaa.Srt
namespace Go.Proofs.Ythhfcambdmdgfaa
open Srt
set_option linter.unusedVariables false
set_option linter.unusedSimpArgs false
set_option linter.unusedSectionVars false
theorem toB : TO ltB := ⟨ltB_irrefl, fun _ _ _ h k => ltB_trans h k, fun x y h k => by
  by_cases e : x = y
  · exact e
  · rcases ltB_total e with q | q
    · rw [h] at q; cases q
    · rw [k] at q; cases q⟩
section
variable {α : Type} {t : α → ByteArray}
def insX (t : α → ByteArray) (x : α) : List α → List α
  | [] => [x]
  | y :: r => if ltB (t x) (t y) then x :: y :: r else y :: insX t x r
def srtX (t : α → ByteArray) (l : List α) : List α := l.foldl (fun a x => insX t x a) []
def SrtL (t : α → ByteArray) (l : List α) : Prop := l.Pairwise (fun x y => ltB (t y) (t x) = false)
theorem insX_mem {x z : α} : ∀ (l : List α), z ∈ insX t x l ↔ z = x ∨ z ∈ l
  | [] => by simp [insX]
  | y :: r => by
    unfold insX
    split
    · simp
    · simp only [List.mem_cons, insX_mem r]
      constructor
      · rintro (h | h | h) <;> simp_all
      · rintro (h | h | h) <;> simp_all
theorem insX_len (x : α) : ∀ (l : List α), (insX t x l).length = l.length + 1
  | [] => rfl
  | y :: r => by unfold insX; split <;> simp [insX_len x r]
theorem insX_stab (x : α) : ∀ (l : List α), SrtL t l → Stab t (insX t x l) (l ++ [x])
  | [], _ => Stab.refl _
  | y :: r, h => by
    have h' := List.pairwise_cons.1 h
    unfold insX
    split
    · rename_i hlt
      exact stab_swap (K := t) (X := [x]) (Y := y :: r) (fun a ha b hb => by
        obtain rfl := List.mem_singleton.1 ha
        intro e
        rcases List.mem_cons.1 hb with rfl | hb
        · rw [e, ltB_irrefl] at hlt; cases hlt
        · have := h'.1 b hb
          rw [← e, hlt] at this; cases this)
    · exact stab_app (Stab.refl (K := t) [y]) (insX_stab x r h'.2)
theorem insX_srt (x : α) : ∀ (l : List α), SrtL t l → SrtL t (insX t x l)
  | [], _ => List.pairwise_singleton _ _
  | y :: r, h => by
    have h' := List.pairwise_cons.1 h
    unfold insX
    split
    · rename_i hlt
      refine List.pairwise_cons.2 ⟨fun z hz => ?_, h⟩
      rcases List.mem_cons.1 hz with rfl | hz
      · exact ltB_asymm hlt
      · exact toB.asym (toB.lt_le hlt (h'.1 z hz))
    · rename_i hlt
      refine List.pairwise_cons.2 ⟨fun z hz => ?_, insX_srt x r h'.2⟩
      rcases (insX_mem r).1 hz with rfl | hz
      · simpa using hlt
      · exact h'.1 z hz
theorem srtX_go : ∀ (l a : List α), SrtL t a → SrtL t (l.foldl (fun a x => insX t x a) a) ∧ Stab t (l.foldl (fun a x => insX t x a) a) (a ++ l)
  | [], a, h => ⟨h, by simpa using Stab.refl a⟩
  | x :: r, a, h => by
    obtain ⟨h1, h2⟩ := srtX_go r (insX t x a) (insX_srt x a h)
    refine ⟨h1, Stab.trans (K := t) h2 ?_⟩
    have := stab_app (insX_stab x a h) (Stab.refl (K := t) r)
    simpa [List.append_assoc] using this
theorem srtX_srt (l : List α) : SrtL t (srtX t l) := (srtX_go l [] List.Pairwise.nil).1
theorem srtX_stab (l : List α) : Stab t (srtX t l) l := (srtX_go (t := t) l [] List.Pairwise.nil).2
theorem Stab_symm {κ : Type} [DecidableEq κ] {K : α → κ} {l m : List α} (h : Stab K l m) : Stab K m l := fun c => (h c).symm
theorem srtX_of {l m : List α} (h : SrtL t m) (k : Stab t l m) : m = srtX t l :=
  srt_unique toB _ _ h (srtX_srt l) (Stab.trans (Stab_symm k) (Stab_symm (srtX_stab l)))
theorem srtX_same {l : List α} (h : SrtL t l) : srtX t l = l := (srtX_of h (Stab.refl l)).symm
theorem srtX_mem {l : List α} {x : α} : x ∈ srtX t l ↔ x ∈ l := (srtX_stab l).mem
theorem srtX_len (l : List α) : (srtX t l).length = l.length := by
  have : ∀ (l a : List α), (l.foldl (fun a x => insX t x a) a).length = a.length + l.length := by
    intro l
    induction l with
    | nil => intro a; rfl
    | cons x r ih => intro a; rw [List.foldl_cons, ih, insX_len, List.length_cons]; omega
  have h := this l []
  rw [List.length_nil, Nat.zero_add] at h
  exact h
end
end Go.Proofs.Ythhfcambdmdgfaa
namespace Go.Proofs.Ythhfcambdmdgfaa
open Go.RowKit Go.Maps
set_option linter.unusedVariables false
set_option linter.unusedSimpArgs false
theorem info_obj : (Try.prog.info? 27).map (fun i => (i.zero, i.size, i.bytes)) = some (some (.agg #[.string ⟨#[]⟩, .string ⟨#[]⟩, .string ⟨#[]⟩, .int .i64 0, .string ⟨#[]⟩, .bool false, .bool false, .slice none 0 0]), 8, 104) := by kernel_rfl
def oIn (o : ObjD) : Prop := in64 o.ver ∧ ∀ r ∈ o.charge, in64 r.2
theorem ObjS.oIn {w : World} {v : Value} {o : ObjD} (h : ObjS w v o) : oIn o := ⟨h.2, h.1.2⟩
theorem ResF.mono {w : World} {b b' : Nat} {x : Value} {l : Res} (h : ResF w b x l) (hb : b' ≤ b) : ResF w b' x l := by
  obtain ⟨g, h1, h2, h3⟩ := h; exact ⟨g, by omega, h2, h3⟩
theorem ResF.form {w : World} {b : Nat} {x : Value} {l : Res} (h : ResF w b x l) : ∃ g, x = .slice (some ⟨g, 0, none⟩) l.length l.length := by
  obtain ⟨g, h1, h2, h3⟩ := h; exact ⟨g, h2⟩
theorem ResF.kept {X : Nat → Prop} {w w' : World} {b : Nat} {x : Value} {l : Res} (h : ResF w b x l) (hk : Kept X w w') (hX : ∀ k, X k → ∀ c, w.heap[k]? = some (.cells c 112) → False) : ResF w' b x l := by
  obtain ⟨g, h1, h2, h3⟩ := h
  exact ⟨g, h1, h2, hk.heap h3 (fun q => hX g q _ h3)⟩
theorem ResF.below {w w' : World} {b : Nat} {x : Value} {l : Res} (h : ResF w b x l) (hb : Below w.heap.size w w') : ResF w' b x l := h.kept (kept_of_below (X := fun _ => False) hb) (fun _ q => q.elim)
/-- A list of objects in a row of the call's own, each with a list of its own. -/
def ObjsF (w : World) (b : Nat) (v : Value) (ys : List OX) : Prop := w.ownsRow b 27 8 v ys.length (objC ys) ∧ ∀ p ∈ ys, ResF w b p.2 p.1.charge
theorem ObjsF.objsS {w : World} {b : Nat} {v : Value} {ys : List OX} (h : ObjsF w b v ys) (hi : ∀ p ∈ ys, oIn p.1) : ObjsS w v ys := ⟨sliS_of h.1, fun p hp => ⟨(h.2 p hp).resS (hi p hp).2, (hi p hp).1⟩⟩
theorem row_apart {w : World} {b n : Nat} {v : Value} {cs : List Value} (h : w.ownsRow b 27 8 v n cs) : ∀ k, v.ownBlock = some k → ∀ c, w.heap[k]? = some (.cells c 112) → False := fun k hk c hc => rw_other h hc (by decide) hk
theorem ObjsF.kept {X : Nat → Prop} {w w' : World} {b : Nat} {v : Value} {ys : List OX} (h : ObjsF w b v ys) (hk : Kept X w w') (h1 : ∀ k, v.ownBlock = some k → ¬ X k) (h2 : ∀ k, X k → ∀ c, w.heap[k]? = some (.cells c 112) → False) : ObjsF w' b v ys :=
  ⟨rw_kept h.1 hk h1, fun p hp => (h.2 p hp).kept hk h2⟩
theorem ObjsF.below {w w' : World} {b : Nat} {v : Value} {ys : List OX} (h : ObjsF w b v ys) (hb : Below w.heap.size w w') : ObjsF w' b v ys := h.kept (kept_of_below (X := fun _ => False) hb) (fun _ _ q => q) (fun _ q => q.elim)
theorem ObjsF.mono {w : World} {b b' : Nat} {v : Value} {ys : List OX} (h : ObjsF w b v ys) (hb : b' ≤ b) : ObjsF w b' v ys := ⟨rw_mono h.1 hb, fun p hp => (h.2 p hp).mono hb⟩
theorem objsF_nil (w : World) (b : Nat) : ObjsF w b (.slice none 0 0) [] := ⟨⟨rfl, .inl ⟨rfl, rfl⟩⟩, by rintro p ⟨⟩⟩
theorem ObjsF.form {w : World} {b : Nat} {v : Value} {ys : List OX} (h : ObjsF w b v ys) : ∃ A c, v = .slice A ys.length c := rw_form h.1
/-- One more. -/
theorem ObjsF.snoc {w w' : World} {b : Nat} {v v' : Value} {ys : List OX} {p : OX} (h : ObjsF w b v ys) (hp : ResF w b p.2 p.1.charge) (hr : w'.ownsRow b 27 8 v' (ys ++ [p]).length (objC (ys ++ [p]))) (hk : Kept (fun k => v.ownBlock = some k) w w') : ObjsF w' b v' (ys ++ [p]) :=
  ⟨hr, fun q hq => by
    rcases List.mem_append.1 hq with r | r
    · exact (h.2 q r).kept hk (row_apart h.1)
    · obtain rfl := List.mem_singleton.1 r; exact hp.kept hk (row_apart h.1)⟩
/-- A block of cells of a type. -/
def TyB (w : World) (b : Nat) (T : TypeId) : Prop := ∃ c, w.heap[b]? = some (.cells c T)
theorem TyB.below {w w' : World} {b : Nat} {T : TypeId} (h : TyB w b T) (hb : Below w.heap.size w w') : TyB w' b T := by
  obtain ⟨c, hc⟩ := h; exact ⟨c, blk_below hc hb⟩
theorem TyB.ne {w : World} {b : Nat} {T : TypeId} (h : TyB w b T) {c : Array Value} {T' : TypeId} (hc : w.heap[b]? = some (.cells c T')) (hT : T ≠ T') : False := by
  obtain ⟨d, hd⟩ := h; rw [hc] at hd; cases hd; exact hT rfl
theorem Kept.setCell' {X : Nat → Prop} {a w : World} (h : Kept X a w) (g j : Nat) (u : Value) (hp : X g) : Kept X a (w.setCell ⟨g, j, none⟩ u) := h.setCell _ _ (.inl hp)
end Go.Proofs.Ythhfcambdmdgfaa
namespace Go.Proofs.Ythhfcambdmdgfaa
open Go.RowKit Go.Maps
set_option linter.unusedVariables false
set_option linter.unusedSimpArgs false
def OwnO (w : World) (o : ObjD) (e : Ending) (w' : World) : Prop := ∃ g, e = .returned (.agg #[.string o.key.kind, .string o.key.space, .string o.key.name, .int .i64 o.ver, .string o.cls, .bool o.term, .bool o.best, .slice (some ⟨g, 0, none⟩) o.charge.length o.charge.length]) ∧ Hid (ResF w' w.heap.size (.slice (some ⟨g, 0, none⟩) o.charge.length o.charge.length) o.charge) ∧ Below w.heap.size w w'
theorem ownO_calls (w : World) {sl : Value} {o : ObjD} (h : ObjS w sl o) (hs : objSmall o) : Calls Try.prog 56 #[objV o sl] w (OwnO w o) :=
  (own_calls w h (by have := hs.2.2.1; omega)).mono fun e w' ⟨x, he, hx, hb⟩ => by
    obtain ⟨g, rfl⟩ := hx.form
    exact ⟨g, he, Lib.hid hx, hb⟩
end Go.Proofs.Ythhfcambdmdgfaa
namespace Go.Proofs.Ythhfcambdmdgfaa
open Go.RowKit Go.Maps Srt
set_option linter.unusedVariables false
set_option linter.unusedSimpArgs false
theorem name_exit {K : Exit → Act → World → Prop} {x : Exit} {a : Act} {W : World} (h : ∀ U, U = W → K x a U) : K x a W := h W rfl
section
variable {w0 W W' : World} {b g n cap : Nat} {d : Nat → OX}
end
end Go.Proofs.Ythhfcambdmdgfaa
namespace Go.Proofs.Ythhfcambdmdgfaa
open Go.RowKit Go.Maps Srt
set_option linter.unusedVariables false
set_option linter.unusedSimpArgs false
def zeroO : ObjD := ⟨⟨⟨#[]⟩, ⟨#[]⟩, ⟨#[]⟩⟩, 0, ⟨#[]⟩, false, false, []⟩
theorem zeroO_S (w : World) : ObjS w (.slice none 0 0) zeroO := ⟨⟨sliS_nil w 2, by rintro p ⟨⟩⟩, by decide, by decide⟩
theorem zeroO_small : objSmall zeroO := ⟨⟨by decide, by decide, by decide⟩, by decide, by decide, by rintro p ⟨⟩⟩
end Go.Proofs.Ythhfcambdmdgfaa
namespace Go.Proofs.Ythhfcambdmdgfaa
open Go.RowKit Go.Maps
set_option linter.unusedVariables false
set_option linter.unusedSimpArgs false
theorem obj_cells {w : World} {ok : Nat → Prop} {o : ObjD} {cs : List Value} (h : kObj.K w ok o cs) : ∃ sl, cs = objX (o, sl) ∧ ObjS w sl o := by
  obtain ⟨sl, e, hs⟩ := obj_of h
  refine ⟨sl, ?_, hs⟩
  unfold objV at e
  have := Value.agg.inj e
  have h2 := congrArg Array.toList this
  simpa [objX] using h2
theorem objsS_row {w : World} {ok : Nat → Prop} {A : Option Addr} {c : Nat} {l : List ObjD} (hc : l.length ≤ c) (h : Row kObj w ok A l) : ∃ xs, oxs xs = l ∧ ObjsS w (.slice A l.length c) xs := by
  rcases h with rfl | ⟨b, off, rfl, _, _, hr⟩
  · exact ⟨[], rfl, ⟨rfl, _, _, rfl, hc, .inl rfl⟩, by rintro p ⟨⟩⟩
  · have hy : ∀ i, i < l.length → ∃ sl : Value, ∃ hi : i < l.length, cellsAt w b (off + i * 8) (objX (l[i]'hi, sl)) ∧ ObjS w sl (l[i]'hi) := fun i hi => by
      obtain ⟨cs, h1, h2⟩ := hr i hi
      obtain ⟨sl, rfl, h3⟩ := obj_cells h2
      exact ⟨sl, hi, h1, h3⟩
    have : Inhabited Value := ⟨.nilFunc⟩
    obtain ⟨f, hf⟩ := Go.Deep.choose_lt hy
    obtain ⟨xs, hxs⟩ : ∃ xs : List OX, xs = (List.range l.length).map fun i => (l.getD i zeroO, f i) := ⟨_, rfl⟩
    have hlen : xs.length = l.length := by rw [hxs]; simp
    have hg : ∀ i (hi : i < xs.length), xs[i]'hi = (l[i]'(by omega), f i) := fun i hi => by
      subst hxs
      simp at hi
      simp [List.getD_eq_getElem?_getD, hi]
    refine ⟨xs, ?_, ⟨⟨objC_len xs, _, _, by rw [hlen], by rw [hlen]; exact hc, .inr ⟨b, off, rfl, fun j u hu => ?_⟩⟩, fun p hp => ?_⟩⟩
    · apply List.ext_getElem
      · rw [oxs_len, hlen]
      · intro i h1 h2
        have h3 : i < xs.length := by rw [hlen]; exact h2
        simp only [oxs, List.getElem_map]
        rw [hg i h3]
    · have hj : j < xs.length * 8 := by have := (List.getElem?_eq_some_iff.1 hu).1; rwa [objC_len] at this
      have hi : j / 8 < xs.length := by omega
      obtain ⟨hi2, h1, _⟩ := hf (j / 8) (by omega)
      have e := objC_get xs (j / 8) hi (j % 8) (by omega)
      rw [show j / 8 * 8 + j % 8 = j by omega, hu, hg _ hi] at e
      have := h1 (j % 8) u e.symm
      rwa [show off + j / 8 * 8 + j % 8 = off + j by omega] at this
    · obtain ⟨i, hi, rfl⟩ := List.mem_iff_getElem.1 hp
      rw [hg i hi]
      obtain ⟨_, _, h3⟩ := hf i (by omega)
      exact h3
def kEv : Kd (Int × ObjD × Int × List ObjD) := kPair (kInt .i64) (kPair kObj (kPair (kInt .i64) (kSlice kObj)))
theorem opObjL : Opens Try.prog 28 (kSlice kObj) := opens_slice Try.underlying28 (by kernel_rfl) (by decide) opObj
theorem opKind : Opens Try.prog 22 (kInt .i64) := opens_int Try.underlying22 (by kernel_rfl)
theorem opEv : Opens Try.prog 30 kEv := by
  refine opens_struct Try.underlying30 (by kernel_rfl) ?_
  exact (by refine opensF_cons ?_ ?_ ?_; rfl; exact opKind; refine opensF_cons ?_ ?_ ?_; rfl; exact opObj; refine opensF_cons ?_ ?_ ?_; rfl; exact opI64; refine opensF_one ?_ ?_; rfl; exact opObjL)
theorem objs_of {w : World} {ok : Nat → Prop} {l : List ObjD} {cs : List Value} (h : (kSlice kObj).K w ok l cs) : ∃ v xs, cs = [v] ∧ oxs xs = l ∧ ObjsS w v xs := by
  obtain ⟨A, c, rfl, hc, hr⟩ := h
  obtain ⟨xs, e, hx⟩ := objsS_row hc hr
  exact ⟨_, xs, rfl, e, hx⟩
theorem ev_cells {w : World} {ok : Nat → Prop} {e : Int × ObjD × Int × List ObjD} {cs : List Value} (h : kEv.K w ok e cs) :
    ∃ sl ol xs, cs = [.int .i64 e.1] ++ objX (e.2.1, sl) ++ [.int .i64 e.2.2.1, ol] ∧ ObjS w sl e.2.1 ∧ ObjsS w ol xs ∧ oxs xs = e.2.2.2 ∧ in64 e.1 ∧ in64 e.2.2.1 := by
  obtain ⟨c0, c1, rfl, h0, c2, c3, rfl, h2, c4, c5, rfl, h4, h5⟩ := h
  obtain ⟨sl, rfl, hs⟩ := obj_cells h2
  obtain ⟨v, xs, rfl, hx, hv⟩ := objs_of h5
  rw [show c0 = _ from h0.1, show c4 = _ from h4.1]
  exact ⟨sl, v, xs, by simp, hs, hv, hx, in64_wf h0.2, in64_wf h4.2⟩
end Go.Proofs.Ythhfcambdmdgfaa
namespace Go.Proofs.Ythhfcambdmdgfaa
open Go.RowKit Go.Maps
set_option linter.unusedVariables false
set_option linter.unusedSimpArgs false
abbrev KS := {k : KeyD // keySmall k}
def keyV (k : KeyD) : Value := .agg #[.string k.kind, .string k.space, .string k.name]
theorem laidOutP : laidOutB Try.prog = true := by kernel_rfl
theorem kS_law : Go.WideMaps.KeyLaw Try.prog 24 := deep_law_laid laidOutP (m := 2) (by omega) (of_decide_eq_true (by kernel_rfl)) (by kernel_rfl) (by kernel_rfl)
theorem kS_keyed : Keyed Try.prog 24 := Keyed.of_law kS_law
theorem kS_struct : ∃ fs, Try.prog.underlying 24 = some (.struct fs) := ⟨_, Try.underlying24⟩
theorem kS_size : ∃ n, Try.prog.types.size = n + 1 := ⟨Try.prog.types.size - 1, by have : 0 < Try.prog.types.size := of_decide_eq_true (by kernel_rfl); omega⟩
theorem kS_formed (k : KeyD) : (keyV k).formed Try.prog 24 = true := by
  obtain ⟨fs, hu⟩ := kS_struct
  have hc : Try.prog.cellsOf 24 = 3 := by kernel_rfl
  simp [keyV, Value.formed, hu, hc]
theorem kS_some {k : KeyD} (h : keySmall k) : ∃ l, keyOf Try.prog 24 (keyV k) = some l := by
  have hk : Try.prog.keyType 24 = true := by kernel_rfl
  have hc : Try.prog.cellsOf 24 = 3 := by kernel_rfl
  have hs : Try.prog.cellsOf 9 = 1 := by kernel_rfl
  obtain ⟨n, hn⟩ := kS_size
  obtain ⟨h1, h2, h3⟩ := h
  have m1 : k.kind.size ≤ maxLen := by unfold maxLen; omega
  have m2 : k.space.size ≤ maxLen := by unfold maxLen; omega
  have m3 : k.name.size ≤ maxLen := by unfold maxLen; omega
  unfold keyOf
  rw [Try.underlying24]
  simp only [hk, kS_formed, Bool.and_self, if_true]
  rw [hn]
  simp [Program.keyLits, Try.underlying24, Try.underlying9, keyV, Value.cells, hc, hs, m1, m2, m3]
noncomputable def kL (k : KS) : Lit := Classical.choose (kS_some k.2)
theorem kL_key (k : KS) : keyOf Try.prog 24 (keyV k.1) = some (kL k) := Classical.choose_spec (kS_some k.2)
theorem keyV_inj {a b : KeyD} (h : keyV a = keyV b) : a = b := by
  unfold keyV at h
  have h1 := congrArg Array.toList (Value.agg.inj h)
  simp at h1
  exact keyD_ext h1.1 h1.2.1 h1.2.2
noncomputable def ltKS (a b : KS) : Bool := (kL a).before (kL b)
theorem kL_lit : KeyLit kL ltKS where
  same := fun a b => by
    by_cases h : a = b
    · subst h; rw [decide_eq_true rfl]; exact Go.WideAt.sameKey_self (kS_keyed.key (kL_key a))
    · rw [decide_eq_false h]
      cases q : (kL a).sameKey (kL b) with
      | false => rfl
      | true =>
        have e := Go.WideAt.sameKey_eq q
        have h1 := kL_key a
        rw [e] at h1
        exact absurd (Subtype.ext (keyV_inj (kS_keyed.inj h1 (kL_key b)))) h
  before := fun a b => rfl
/-- A map of objects. -/
def OMap (w : World) (mb : Nat) (M : AM KS OX) : Prop := w.ownsMap Try.prog 24 RV mb M.length (dmA kL (fun p => Value.agg (objX p).toArray) M)
theorem zero_obj (w : World) : (zeroValue 27).run Try.prog w = .ok (.agg #[.string ⟨#[]⟩, .string ⟨#[]⟩, .string ⟨#[]⟩, .int .i64 0, .string ⟨#[]⟩, .bool false, .bool false, .slice none 0 0]) w := by kernel_rfl
section
variable {w w' : World} {mb : Nat} {M : AM KS OX}
theorem OMap.kept {X : Nat → Prop} (h : OMap w mb M) (hk : Kept X w w') (hx : ¬ X mb) : OMap w' mb M := mv_kept h hk hx
theorem OMap.below (h : OMap w mb M) (hb : Below w.heap.size w w') : OMap w' mb M := mv_below h hb
theorem omap_look (h : OMap w mb M) (k : KS) :
    (Instr.lookup 92 (.map (some mb)) (.agg #[.string k.1.kind, .string k.1.space, .string k.1.name]) true).run Try.prog w = .ok (.tuple #[((getA M k).map fun p => Value.agg (objX p).toArray).getD (.agg #[.string ⟨#[]⟩, .string ⟨#[]⟩, .string ⟨#[]⟩, .int .i64 0, .string ⟨#[]⟩, .bool false, .bool false, .slice none 0 0]), .bool (hasA M k)]) w := by
  have q := mv_look_ok h kS_keyed Try.underlying92 (zero_obj w) (kL_key k)
  rw [val_dmA kL_lit, has_dmA kL_lit] at q
  exact q
theorem omap_put {k : KS} {p : OX} (h : w.ownsMap Try.prog 24 RV mb (M.length + 1) ((dmA kL (fun p => Value.agg (objX p).toArray) M).put (kL k) (.held (.agg (objX p).toArray)))) : OMap w mb (putA ltKS M k p) := by
  rw [put_dmA kL_lit] at h
  have := mv_tight h
  rw [size_dmA kL_lit] at this
  exact this
theorem omap_len (h : OMap w mb M) (ty : TypeId) : (Builtin.len_ #[92] ty #[.map (some mb)]).run Try.prog w = .ok (.int .i64 M.length) w := by
  have := World.ownsMap.len h Try.underlying92 ty
  rw [size_dmA kL_lit] at this
  exact this
end
end Go.Proofs.Ythhfcambdmdgfaa
namespace Go.Proofs.Ythhfcambdmdgfaa
open Go.RowKit Go.Maps
set_option linter.unusedVariables false
set_option linter.unusedSimpArgs false
def aO7 : ObjD := ⟨⟨⟨#[112, 111, 100]⟩, ⟨#[97]⟩, ⟨#[120]⟩⟩, 3, ⟨#[]⟩, false, false, []⟩
def bO7 : ObjD := ⟨⟨⟨#[112, 111, 100]⟩, ⟨#[97]⟩, ⟨#[98]⟩⟩, 4, ⟨#[]⟩, false, false, []⟩
theorem s7 : sameE ⟨2, zeroO, 4, [aO7, bO7]⟩ ⟨2, zeroO, 4, [bO7, aO7]⟩ = false := by kernel_rfl
theorem objsS_nil (w : World) : ObjsS w (.slice none 0 0) [] := ⟨sliS_nil w 8, by rintro p ⟨⟩⟩
end Go.Proofs.Ythhfcambdmdgfaa
namespace Go.Proofs.Ythhfcambdmdgfaa
open Go.RowKit Go.Maps
set_option linter.unusedVariables false
set_option linter.unusedSimpArgs false
abbrev LX := Int × OX
section
variable {w w' : World} {base sp mb : Nat} {ver : Int} {M : AM KS OX} {lv : Value} {L : List LX}
end
end Go.Proofs.Ythhfcambdmdgfaa
namespace Go.Proofs.Ythhfcambdmdgfaa
open Go.RowKit Go.Maps
set_option linter.unusedVariables false
set_option linter.unusedSimpArgs false
theorem getA_mem {κ β : Type} [DecidableEq κ] {M : AM κ β} {k : κ} {v : β} (h : getA M k = some v) : (k, v) ∈ M := by
  unfold getA at h
  cases q : M.find? (fun p => decide (p.1 = k)) with
  | none => rw [q] at h; cases h
  | some p =>
    rw [q] at h
    have h1 := List.find?_some q
    have h2 := List.mem_of_find?_eq_some q
    obtain ⟨a, b⟩ := p
    simp only [decide_eq_true_eq] at h1
    cases h
    rw [← h1]; exact h2
def objOf (M : AM KS OX) (k : KS) : ObjD := ((getA M k).map (·.1)).getD zeroO
def GetOut (w : World) (o : ObjD) (is : Bool) (e : Ending) (w' : World) : Prop := ∃ x, e = .returned (.tuple #[objV o x, .bool is]) ∧ ResF w' w.heap.size x o.charge ∧ Below w.heap.size w w'
end Go.Proofs.Ythhfcambdmdgfaa
namespace Go.Proofs.Ythhfcambdmdgfaa
open Go.RowKit Go.Maps
set_option linter.unusedVariables false
set_option linter.unusedSimpArgs false
/-- A map's update, by itself. -/
theorem wp_mapUpd {P : Program} {o : Oper} {a : Act} {K : Act → World → Prop} {Q : Exit → Act → World → Prop} (w : World) (m x v : Operand) (t : TypeId) (hop : o.op = Op.mapUpdate t m x v)
    (k e : TypeId) (Kk : Keyed P k) (ht : P.underlying t = some (.map k e)) (b n : Nat) (D : DataW Value) (hm : a.eval m = .map (some b)) (hown : w.ownsMap P k RV b n D) (hn : n < maxLen) (key val : Value) (kl : Lit) (hx : a.eval x = key) (hv : a.eval v = val) (hkey : keyOf P k key = some kl)
    (hK : ∀ w', w'.ownsMap P k RV b (n + 1) (D.put kl (.held val)) → w.grownBy w' (some b) → K (a.put o.dst undef) w') : o.wp P a w K Q := by
  obtain ⟨w', hrun, r1, r2⟩ := hown.update Kk ht hn hkey (d := .held val) (ps := []) rfl
  unfold Oper.wp
  simp [execOp, hop, hm, hx, hv, hrun, Result.andThen]
  exact hK w' r1 r2
/-- A map's delete, by itself. -/
theorem wp_mapDel {P : Program} {o : Oper} {a : Act} {K : Act → World → Prop} {Q : Exit → Act → World → Prop} (w : World) (m x : Operand) (t k : TypeId) (hop : o.op = Op.call { callee := Callee.builtin Builtin.delete, args := #[m, x], argTypes := #[t, k] })
    (e : TypeId) (Kk : Keyed P k) (ht : P.underlying t = some (.map k e)) (b n : Nat) (D : DataW Value) (hm : a.eval m = .map (some b)) (hown : w.ownsMap P k RV b n D) (key : Value) (kl : Lit) (hx : a.eval x = key) (hkey : keyOf P k key = some kl)
    (hK : ∀ w', w'.ownsMap P k RV b n (D.del kl) → w.mapTurned w' b → K (a.put o.dst (.tuple #[])) w') : o.wp P a w K Q := by
  obtain ⟨w', hrun, r1, r2⟩ := hown.drop Kk ht hkey o.type
  unfold Oper.wp
  simp [execOp, hop, resolve, invoke, builtin, hm, hx, hrun, Result.andThen]
  exact hK w' r1 r2
end Go.Proofs.Ythhfcambdmdgfaa
namespace Go.Proofs.Ythhfcambdmdgfaa
open Go.RowKit Go.Maps
set_option linter.unusedVariables false
set_option linter.unusedSimpArgs false
theorem info_ev : (Try.prog.info? 30).map (fun i => (i.zero, i.size, i.bytes)) = some (some (.agg #[.int .i64 0, .string ⟨#[]⟩, .string ⟨#[]⟩, .string ⟨#[]⟩, .int .i64 0, .string ⟨#[]⟩, .bool false, .bool false, .slice none 0 0, .int .i64 0, .slice none 0 0]), 11, 144) := by kernel_rfl
section
variable {w w1 w' : World} {base sp mb : Nat} {ver : Int} {M : AM KS OX} {lv : Value} {L : List LX}
end
end Go.Proofs.Ythhfcambdmdgfaa
namespace Go.Proofs.Ythhfcambdmdgfaa
open Go.RowKit Go.Maps
set_option linter.unusedVariables false
set_option linter.unusedSimpArgs false
theorem flat_at {α : Type} (f : α → List Value) (sz : Nat) (hf : ∀ a, (f a).length = sz) : ∀ (l : List α) (k : Nat) (hk : k < l.length) (j : Nat), j < sz → (l.flatMap f)[k * sz + j]? = (f (l[k]'hk))[j]? := by
  intro l
  induction l with
  | nil => intro k hk; exact absurd hk (Nat.not_lt_zero _)
  | cons a r ih =>
    intro k hk j hj
    rw [List.flatMap_cons]
    cases k with
    | zero => rw [Nat.zero_mul, Nat.zero_add, List.getElem?_append_left (by rw [hf]; exact hj)]; rfl
    | succ k =>
      rw [List.getElem?_append_right (by rw [hf, Nat.succ_mul]; omega), hf, show (k + 1) * sz + j - sz = k * sz + j by rw [Nat.succ_mul]; omega]
      exact ih k (by simpa using hk) j hj
/-- An event's cells. -/
structure EvAt (w : World) (b off : Nat) (kd : Int) (o : ObjD) (x : Value) (vr : Int) (ov : Value) : Prop where
  c0 : w.cell? ⟨b, off, none⟩ = some (.int .i64 kd)
  c1 : w.cell? ⟨b, off + 1, none⟩ = some (.string o.key.kind)
  c2 : w.cell? ⟨b, off + 2, none⟩ = some (.string o.key.space)
  c3 : w.cell? ⟨b, off + 3, none⟩ = some (.string o.key.name)
  c4 : w.cell? ⟨b, off + 4, none⟩ = some (.int .i64 o.ver)
  c5 : w.cell? ⟨b, off + 5, none⟩ = some (.string o.cls)
  c6 : w.cell? ⟨b, off + 6, none⟩ = some (.bool o.term)
  c7 : w.cell? ⟨b, off + 7, none⟩ = some (.bool o.best)
  c8 : w.cell? ⟨b, off + 8, none⟩ = some (x)
  c9 : w.cell? ⟨b, off + 9, none⟩ = some (.int .i64 vr)
  c10 : w.cell? ⟨b, off + 10, none⟩ = some (ov)
theorem EvAt.below {w w' : World} {b off : Nat} {kd : Int} {o : ObjD} {x : Value} {vr : Int} {ov : Value} (h : EvAt w b off kd o x vr ov) (hb : Below w.heap.size w w') : EvAt w' b off kd o x vr ov :=
  ⟨cb hb h.c0, cb hb h.c1, cb hb h.c2, cb hb h.c3, cb hb h.c4, cb hb h.c5, cb hb h.c6, cb hb h.c7, cb hb h.c8, cb hb h.c9, cb hb h.c10⟩
end Go.Proofs.Ythhfcambdmdgfaa
namespace Go.Proofs.Ythhfcambdmdgfaa
open Go.RowKit Go.Maps
set_option linter.unusedVariables false
set_option linter.unusedSimpArgs false
theorem slice_rows {α β : Type} [Inhabited β] {kd : Kd α} {w : World} {ok : Nat → Prop} {A : Option Addr} {c sz : Nat} {l : List α} (hsz : kd.sz = sz) (hpos : 0 < sz) (f : β → List Value) (hf : ∀ x, (f x).length = sz) (P : α → β → Prop)
    (hK : ∀ a cs, kd.K w ok a cs → ∃ x, cs = f x ∧ P a x) (hc : l.length ≤ c) (h : Row kd w ok A l) :
    ∃ xs : List β, xs.length = l.length ∧ SliS w (.slice A l.length c) sz xs.length (xs.flatMap f) ∧ ∀ i (h1 : i < l.length) (h2 : i < xs.length), P (l[i]'h1) (xs[i]'h2) := by
  rcases h with rfl | ⟨b, off, rfl, _, _, hr⟩
  · exact ⟨[], rfl, ⟨by simp, A, c, rfl, hc, .inl rfl⟩, fun i h1 => absurd h1 (Nat.not_lt_zero _)⟩
  · have hy : ∀ i, i < l.length → ∃ x : β, ∃ hi : i < l.length, cellsAt w b (off + i * sz) (f x) ∧ P (l[i]'hi) x := fun i hi => by
      obtain ⟨cs, h1, h2⟩ := hr i hi
      obtain ⟨x, rfl, h3⟩ := hK _ _ h2
      rw [hsz] at h1
      exact ⟨x, hi, h1, h3⟩
    obtain ⟨g, hg⟩ := Go.Deep.choose_lt hy
    obtain ⟨xs, hxs⟩ : ∃ xs : List β, xs = (List.range l.length).map fun i => g i := ⟨_, rfl⟩
    have hlen : xs.length = l.length := by rw [hxs]; simp
    have hget : ∀ i (hi : i < xs.length), xs[i]'hi = g i := fun i hi => by subst hxs; simp
    have hfl : (xs.flatMap f).length = xs.length * sz := by
      clear hget hlen hxs
      induction xs with
      | nil => simp
      | cons a r ih => rw [List.flatMap_cons, List.length_append, hf, ih, List.length_cons, Nat.succ_mul, Nat.add_comm]
    refine ⟨xs, hlen, ⟨hfl, _, _, by rw [hlen], by rw [hlen]; exact hc, .inr ⟨b, off, rfl, fun j u hu => ?_⟩⟩, fun i h1 h2 => ?_⟩
    · have hj : j < xs.length * sz := by have := (List.getElem?_eq_some_iff.1 hu).1; rwa [hfl] at this
      have hi : j / sz < xs.length := by rw [Nat.div_lt_iff_lt_mul hpos]; exact hj
      obtain ⟨hi2, h1, _⟩ := hg (j / sz) (by omega)
      have hm := Nat.mod_lt j hpos
      have e := flat_at f sz hf xs (j / sz) hi (j % sz) hm
      have hd : j / sz * sz + j % sz = j := by rw [Nat.mul_comm]; exact Nat.div_add_mod j sz
      rw [hd, hu, hget _ hi] at e
      have := h1 (j % sz) u e.symm
      rwa [Nat.add_assoc, hd] at this
    · rw [hget i h2]
      obtain ⟨_, _, h3⟩ := hg i h1
      exact h3
end Go.Proofs.Ythhfcambdmdgfaa
namespace Go.Proofs.Ythhfcambdmdgfaa
open Go.RowKit Go.Maps
set_option linter.unusedVariables false
set_option linter.unusedSimpArgs false
structure EX where
  kd : Int
  ob : ObjD
  sl : Value
  vr : Int
  ol : Value
  xs : List OX
instance : Inhabited EX := ⟨⟨0, zeroO, .nilFunc, 0, .nilFunc, []⟩⟩
def EX.ev (p : EX) : EvD := ⟨p.kd, p.ob, p.vr, oxs p.xs⟩
def exX (p : EX) : List Value := .int .i64 p.kd :: (objX (p.ob, p.sl) ++ [.int .i64 p.vr, p.ol])
def exC (xs : List EX) : List Value := xs.flatMap exX
structure EvS (w : World) (p : EX) : Prop where
  obj : ObjS w p.sl p.ob
  objs : ObjsS w p.ol p.xs
  kin : in64 p.kd
  vin : in64 p.vr
theorem EvS.below {w w' : World} {p : EX} (h : EvS w p) (hb : Below w.heap.size w w') : EvS w' p := ⟨h.obj.below hb, h.objs.below hb, h.kin, h.vin⟩
def ExS (w : World) (v : Value) (xs : List EX) : Prop := SliS w v 11 xs.length (exC xs) ∧ ∀ p ∈ xs, EvS w p
theorem ExS.form {w : World} {v : Value} {xs : List EX} (h : ExS w v xs) : ∃ A c, v = .slice A xs.length c := h.1.form
theorem ExS.below {w w' : World} {v : Value} {xs : List EX} (h : ExS w v xs) (hb : Below w.heap.size w w') : ExS w' v xs := ⟨h.1.below hb, fun p hp => (h.2 p hp).below hb⟩
theorem ExS.at' {w : World} {v : Value} {xs : List EX} (h : ExS w v xs) {k : Nat} (hk : k < xs.length) : ∃ b off c, v = .slice (some ⟨b, off, none⟩) xs.length c ∧ EvAt w b (off + k * 11) (xs[k]'hk).kd (xs[k]'hk).ob (xs[k]'hk).sl (xs[k]'hk).vr (xs[k]'hk).ol ∧ EvS w (xs[k]'hk) := by
  obtain ⟨b, off, c, hv, _, hx⟩ := h.1.at' hk
  refine ⟨b, off, c, hv, ?_, h.2 _ (List.getElem_mem hk)⟩
  have z : ∀ j, j < 11 → ∀ u, (exX (xs[k]'hk))[j]? = some u → w.cell? ⟨b, off + k * 11 + j, none⟩ = some u := fun j hj u e => hx j hj u (by rw [show exC xs = xs.flatMap exX from rfl, flat_at exX 11 (fun _ => rfl) xs k hk j hj]; exact e)
  exact ⟨z 0 (by omega) _ rfl, z 1 (by omega) _ rfl, z 2 (by omega) _ rfl, z 3 (by omega) _ rfl, z 4 (by omega) _ rfl, z 5 (by omega) _ rfl, z 6 (by omega) _ rfl, z 7 (by omega) _ rfl, z 8 (by omega) _ rfl, z 9 (by omega) _ rfl, z 10 (by omega) _ rfl⟩
def ESmall (xs : List EX) : Prop := ∀ p ∈ xs, objSmall p.ob ∧ OSmall (oxs p.xs) ∧ p.xs.length ≤ 60
theorem eSmall_snoc {xs : List EX} {k : Nat} (hk : k < xs.length) (h : ESmall (xs.take k)) (q : objSmall (xs[k]'hk).ob ∧ OSmall (oxs (xs[k]'hk).xs) ∧ (xs[k]'hk).xs.length ≤ 60) : ESmall (xs.take (k + 1)) := by
  intro p hp
  rw [List.take_succ_eq_append_getElem hk] at hp
  rcases List.mem_append.1 hp with r | r
  · exact h p r
  · obtain rfl := List.mem_singleton.1 r; exact q
def FitX (w : World) (xs : List EX) (e : Ending) (w' : World) : Prop := ∃ f, e = .returned (.bool f) ∧ (f = true → ESmall xs ∧ xs.length ≤ 60) ∧ Below w.heap.size w w'
theorem fitX_no {w w' : World} {xs : List EX} (h : Below w.heap.size w w') : FitX w xs (.returned (.bool false)) w' := ⟨false, rfl, (fun h => by cases h), h⟩
theorem fitX_yes {w w' : World} {xs : List EX} (h : Below w.heap.size w w') (q : ESmall xs ∧ xs.length ≤ 60) : FitX w xs (.returned (.bool true)) w' := ⟨true, rfl, (fun _ => q), h⟩
set_option maxRecDepth 100000 in
set_option maxHeartbeats 8000000 in
theorem fits8_calls (w : World) {v : Value} {xs : List EX} (h : ExS w v xs) : Calls Try.prog 41 #[v] w (FitX w xs) := by
  have HX := Lib.hid h
  obtain ⟨al, cl, rfl⟩ := h.form
  clear h
  have hB := Below.refl w.heap.size w
  go_enter Try.func41, Try.ntmps41
  by_cases h60 : xs.length ≤ 60
  · have i60 : ¬ (60 : Int) < xs.length := by omega
    have H60 := Lib.hid h60
    go_wp2_with fail
    go_loopw [3] (fun i wr => ∃ k : Nat, i = .int .i64 k ∧ k ≤ xs.length ∧ Hid (ESmall (xs.take k)) ∧ Below w.heap.size w wr) (fun i _ => xs.length - (intOf i).toNat)
    case atStart => exact ⟨0, rfl, Nat.zero_le _, Lib.hid (by intro p hp; cases hp), hB⟩
    case round =>
      clear hB
      obtain ⟨k, rfl, hk, HT, hB⟩ := hrel
      by_cases hkl : k < xs.length
      · have hkI : (k : Int) < xs.length := by omega
        obtain ⟨b, of, c, he, q, s⟩ := HX.out.at' hkl
        cases he
        have HST := Lib.hid (eSmall_snoc hkl HT.out)
        generalize xs[k]'hkl = x at q s HST
        obtain ⟨kd, o, so, vr, ol, zs⟩ := x
        have s1 := s.obj; have s2 := s.objs
        simp only at s1 s2 HST q
        obtain ⟨ao, co, rfl⟩ := s1.1.form
        obtain ⟨az, cz, rfl⟩ := s2.form
        have q := q.below hB
        have d0 := q.c0
        have d1 := q.c1
        have d2 := q.c2
        have d3 := q.c3
        have d4 := q.c4
        have d5 := q.c5
        have d6 := q.c6
        have d7 := q.c7
        have d8 := q.c8
        have d9 := q.c9
        have d10 := q.c10
        have HF := Lib.hid (fits7_calls _ kd vr (s1.below hB) (s2.below hB))
        unfold evV at HF
        clear q s s1 s2
        go_upto_region 7 with (go_at_call 12; ((with_reducible refine HF.out.mono ?_); rintro e w' ⟨f, rfl, hf, hb⟩; have HFF := Lib.hid hf; clear hf; have hB := bl_next hB hb; clear hb))
        cases f with
        | false =>
          go_wp2_with fail
          go_ret
          exact fitX_no hB
        | true =>
          have HOK := Lib.hid (HST.out (HFF.out rfl))
          go_wp2_with fail
          go_roundw
          case rel => exact ⟨k + 1, by simp, by omega, HOK, hB⟩
          case measure => simp [intOf]; omega
      · obtain rfl : k = xs.length := by omega
        have hT := HT.out
        rw [List.take_length] at hT
        go_wp2_with fail
        go_ret
        exact fitX_yes hB ⟨hT, H60.out⟩
  · have i60 : (60 : Int) < xs.length := by omega
    go_wp2_with fail
    go_ret
    exact fitX_no hB
end Go.Proofs.Ythhfcambdmdgfaa
namespace Go.Proofs
open Go.Shelf
def Try.sortKey_ren : Go.Shelf.Ren := ⟨fun | 6 => 101 | 15 => 115 | 14 => 114 | 28 => 125 | 29 => 126 | 20 => 117 | 21 => 118 | 22 => 119 | 23 => 120 | 24 => 121 | 25 => 122 | 26 => 123 | 27 => 124 | 46 => 128 | 47 => 129 | 48 => 130 | 49 => 131 | 50 => 132 | 57 => 133 | n => n, fun | 22 => 75 | 24 => 24 | 25 => 107 | 3 => 3 | 39 => 141 | 0 => 0 | 53 => 151 | 55 => 153 | 4 => 4 | 46 => 144 | 45 => 143 | 50 => 148 | 5 => 5 | 9 => 9 | 66 => 154 | 70 => 158 | 76 => 160 | 77 => 161 | n => n, fun | n => n⟩
theorem Try.sortKey : Go.Proofs.SlLaysF0.n6 Try.prog Try.sortKey_ren := {
  mixed := by kernel_rfl
  f6 := ⟨Try.f101.name, by decide, Try.func101.trans (congrArg some (by kernel_rfl))⟩
  f14 := ⟨Try.f114.name, by decide, Try.func114.trans (congrArg some (by kernel_rfl))⟩
  f15 := Try.func115.trans (congrArg some (by kernel_rfl))
  f20 := ⟨Try.f117.name, by decide, Try.func117.trans (congrArg some (by kernel_rfl))⟩
  f21 := ⟨Try.f118.name, by decide, Try.func118.trans (congrArg some (by kernel_rfl))⟩
  f22 := ⟨Try.f119.name, by decide, Try.func119.trans (congrArg some (by kernel_rfl))⟩
  f23 := ⟨Try.f120.name, by decide, Try.func120.trans (congrArg some (by kernel_rfl))⟩
  f24 := ⟨Try.f121.name, by decide, Try.func121.trans (congrArg some (by kernel_rfl))⟩
  f25 := ⟨Try.f122.name, by decide, Try.func122.trans (congrArg some (by kernel_rfl))⟩
  f26 := ⟨Try.f123.name, by decide, Try.func123.trans (congrArg some (by kernel_rfl))⟩
  f27 := ⟨Try.f124.name, by decide, Try.func124.trans (congrArg some (by kernel_rfl))⟩
  f28 := Try.func125.trans (congrArg some (by kernel_rfl))
  f29 := Try.func126.trans (congrArg some (by kernel_rfl))
  f46 := ⟨Try.f128.name, by decide, Try.func128.trans (congrArg some (by kernel_rfl))⟩
  f47 := Try.func129.trans (congrArg some (by kernel_rfl))
  f48 := Try.func130.trans (congrArg some (by kernel_rfl))
  f49 := ⟨Try.f131.name, by decide, Try.func131.trans (congrArg some (by kernel_rfl))⟩
  f50 := ⟨Try.f132.name, by decide, Try.func132.trans (congrArg some (by kernel_rfl))⟩
  f57 := ⟨Try.f133.name, by decide, Try.func133.trans (congrArg some (by kernel_rfl))⟩
  t0 := Try.underlying0
  a0 := Try.isAgg0
  z0 := Try.sizeOf0
  v0 := Try.zeroValue0
  t3 := Try.underlying3
  a3 := Try.isAgg3
  z3 := Try.sizeOf3
  v3 := Try.zeroValue3
  t4 := Try.underlying4
  a4 := Try.isAgg4
  z4 := Try.sizeOf4
  v4 := Try.zeroValue4
  t5 := Try.underlying5
  a5 := Try.isAgg5
  z5 := Try.sizeOf5
  v5 := Try.zeroValue5
  t9 := Try.underlying9
  a9 := Try.isAgg9
  z9 := Try.sizeOf9
  v9 := Try.zeroValue9
  t22 := Try.underlying75
  a22 := Try.isAgg75
  z22 := Try.sizeOf75
  v22 := Try.zeroValue75
  t25 := Try.underlying107
  a25 := Try.isAgg107
  z25 := Try.sizeOf107
  v25 := Try.zeroValue107
  t39 := Try.underlying141
  a39 := Try.isAgg141
  z39 := Try.sizeOf141
  v39 := Try.zeroValue141
  t45 := Try.underlying143
  a45 := Try.isAgg143
  z45 := Try.sizeOf143
  v45 := Try.zeroValue143
  t46 := Try.underlying144
  a46 := Try.isAgg144
  z46 := Try.sizeOf144
  v46 := Try.zeroValue144
  t50 := Try.underlying148
  a50 := Try.isAgg148
  z50 := Try.sizeOf148
  v50 := Try.zeroValue148
  t53 := Try.underlying151
  a53 := Try.isAgg151
  z53 := Try.sizeOf151
  v53 := Try.zeroValue151
  t55 := Try.underlying153
  a55 := Try.isAgg153
  z55 := Try.sizeOf153
  v55 := Try.zeroValue153
  t66 := Try.underlying154
  a66 := Try.isAgg154
  z66 := Try.sizeOf154
  v66 := Try.zeroValue154
  t70 := Try.underlying158
  a70 := Try.isAgg158
  z70 := Try.sizeOf158
  v70 := Try.zeroValue158
  t76 := Try.underlying160
  a76 := Try.isAgg160
  z76 := Try.sizeOf160
  v76 := Try.zeroValue160
  t77 := Try.underlying161
  a77 := Try.isAgg161
  z77 := Try.sizeOf161
  v77 := Try.zeroValue161 }
def Try.cloneO_ren : Go.Shelf.Ren := ⟨fun | 5 => 90 | 7 => 108 | n => n, fun | 23 => 92 | 25 => 24 | 3 => 27 | 4 => 4 | 20 => 20 | n => n, fun | n => n⟩
theorem Try.cloneO : Go.Proofs.SlLaysW.n5 Try.prog Try.cloneO_ren := {
  mixed := by kernel_rfl
  f5 := ⟨Try.f90.name, by decide, Try.func90.trans (congrArg some (by kernel_rfl))⟩
  f7 := Try.func108.trans (congrArg some (by kernel_rfl))
  t4 := Try.underlying4
  a4 := Try.isAgg4
  z4 := Try.sizeOf4
  v4 := Try.zeroValue4
  t20 := Try.underlying20
  a20 := Try.isAgg20
  z20 := Try.sizeOf20
  v20 := Try.zeroValue20
  t23 := Try.underlying92
  a23 := Try.isAgg92
  z23 := Try.sizeOf92
  v23 := Try.zeroValue92 }
def Try.cloneG_ren : Go.Shelf.Ren := ⟨fun | 5 => 91 | 7 => 108 | n => n, fun | 23 => 96 | 25 => 24 | 3 => 2 | 4 => 4 | 20 => 20 | n => n, fun | n => n⟩
theorem Try.cloneG : Go.Proofs.SlLaysW.n5 Try.prog Try.cloneG_ren := {
  mixed := by kernel_rfl
  f5 := ⟨Try.f91.name, by decide, Try.func91.trans (congrArg some (by kernel_rfl))⟩
  f7 := Try.func108.trans (congrArg some (by kernel_rfl))
  t4 := Try.underlying4
  a4 := Try.isAgg4
  z4 := Try.sizeOf4
  v4 := Try.zeroValue4
  t20 := Try.underlying20
  a20 := Try.isAgg20
  z20 := Try.sizeOf20
  v20 := Try.zeroValue20
  t23 := Try.underlying96
  a23 := Try.isAgg96
  z23 := Try.sizeOf96
  v23 := Try.zeroValue96 }
end Go.Proofs
namespace Go.Proofs.Ythhfcambdmdgfaa
open Go.RowKit Go.Maps
set_option linter.unusedVariables false
set_option linter.unusedSimpArgs false
theorem gr_alloc (w : World) (o : Obj) (n : Nat) (os : Array Obj) : Go.Sort.grow ((w.alloc o).drewN n) os = Go.Sort.grow (w.drewN n) (#[o] ++ os) := by
  rw [Go.Sort.alloc_eq_grow]
  show Go.Sort.grow (Go.Sort.grow (w.drewN n) #[o]) os = _
  rw [Go.Sort.grow_grow]
theorem gr2 (w : World) (a b : Obj) (n : Nat) (os : Array Obj) : Go.Sort.grow (((w.alloc a).alloc b).drewN n) os = Go.Sort.grow (w.drewN n) (#[a] ++ (#[b] ++ os)) := by rw [gr_alloc, gr_alloc]
def GrO (w : World) (w' : World) : Prop := ∃ q os', w' = Go.Sort.grow (w.drewN q) os'
theorem text_gr (k s n : ByteArray) (w : World) (h : k.size + s.size + n.size ≤ 140737488355328) :
    Calls Try.prog 66 #[.agg #[.string k, .string s, .string n]] w fun e w' => e = .returned (.string (keyText k s n)) ∧ ∃ q os', w' = Go.Sort.grow (w.drewN q) os' := by
  go_enter Try.func66, Try.ntmps66
  go_wp2
  go_ret
  exact ⟨rfl, 0, #[_], by rw [Go.Sort.alloc_eq_grow]; rfl⟩
set_option maxRecDepth 100000 in
set_option maxHeartbeats 4000000 in
theorem less_gr (k s n k' s' n' : ByteArray) (w : World) (h : k.size + s.size + n.size ≤ 140737488355328) (h' : k'.size + s'.size + n'.size ≤ 140737488355328) :
    Calls Try.prog 25 #[.agg #[.string k, .string s, .string n], .agg #[.string k', .string s', .string n']] w fun e w' => e = .returned (.bool (Op.bytesLess (keyText k s n).toList (keyText k' s' n').toList)) ∧ GrO w w' := by
  have mixed : Try.prog.follows .mixedOrders = true := by kernel_rfl
  have H1 := Lib.hid h; have H2 := Lib.hid h'
  clear h h'
  go_enter Try.func25, Try.ntmps25
  go_wp2_with fail
  first | with_reducible refine name_wp ?_ | with_reducible refine name_calls ?_
  intro W hW
  have HW := Lib.hid hW
  have c0 := cell_grown (w := W) (a := ⟨w.heap.size, 0, none⟩) (v := .string k) (by rw [hW]; simp; omega) (by rw [hW]; exact blk_cell (blk_old (blk_new w _) _) 0)
  have c1 := cell_grown (w := W) (a := ⟨w.heap.size, 1, none⟩) (v := .string s) (by rw [hW]; simp; omega) (by rw [hW]; exact blk_cell (blk_old (blk_new w _) _) 1)
  have c2 := cell_grown (w := W) (a := ⟨w.heap.size, 2, none⟩) (v := .string n) (by rw [hW]; simp; omega) (by rw [hW]; exact blk_cell (blk_old (blk_new w _) _) 2)
  have d0 := cell_grown (w := W) (a := ⟨w.heap.size + 1, 0, none⟩) (v := .string k') (by rw [hW]; simp) (by rw [hW]; exact blk_cell (blk_new1 w _ _) 0)
  have d1 := cell_grown (w := W) (a := ⟨w.heap.size + 1, 1, none⟩) (v := .string s') (by rw [hW]; simp) (by rw [hW]; exact blk_cell (blk_new1 w _ _) 1)
  have d2 := cell_grown (w := W) (a := ⟨w.heap.size + 1, 2, none⟩) (v := .string n') (by rw [hW]; simp) (by rw [hW]; exact blk_cell (blk_new1 w _ _) 2)
  have hc1 := fun (m : Nat) (os : Array Obj) => text_gr k s n (Go.Sort.grow (W.drewN m) os) H1.out
  have hc2 := fun (m : Nat) (os : Array Obj) => text_gr k' s' n' (Go.Sort.grow (W.drewN m) os) H2.out
  clear hW
  go_quiet_grown (first | (go_at_call 66; (with_reducible refine Go.Calls.grown_of (hc1 _ _))) | (go_at_call 66; (with_reducible refine Go.Calls.grown_of (hc2 _ _))))
  go_wp2
  go_ret
  rw [HW.out]
  exact ⟨rfl, _, _, gr2 w _ _ nq osq⟩
abbrev ltT (a b : KS) : Bool := Op.bytesLess (keyText a.1.kind a.1.space a.1.name).toList (keyText b.1.kind b.1.space b.1.name).toList
def cfK (a b : KS) : Int := if ltT a b then -1 else if ltT b a then 1 else 0
def encK (k : KS) : List Value := [.string k.1.kind, .string k.1.space, .string k.1.name]
set_option maxRecDepth 100000 in
set_option maxHeartbeats 4000000 in
theorem order_gr (a b : KS) (w : World) :
    Calls Try.prog 78 #[.agg (encK a).toArray, .agg (encK b).toArray] w fun e w' => e = .returned (.int .i64 (cfK a b)) ∧ ∃ q os', w' = Go.Sort.grow (w.drewN q) os' := by
  have ha := a.2; have hb := b.2
  have HA := Lib.hid (show a.1.kind.size + a.1.space.size + a.1.name.size ≤ 140737488355328 by have := ha.1; have := ha.2.1; have := ha.2.2; omega)
  have HB := Lib.hid (show b.1.kind.size + b.1.space.size + b.1.name.size ≤ 140737488355328 by have := hb.1; have := hb.2.1; have := hb.2.2; omega)
  have HF := Lib.hid (show cfK a b = if ltT a b then -1 else if ltT b a then 1 else 0 from rfl)
  generalize cfK a b = r at HF ⊢
  obtain ⟨x, hx⟩ : ∃ x, ltT a b = x := ⟨_, rfl⟩
  obtain ⟨y, hy⟩ : ∃ y, ltT b a = y := ⟨_, rfl⟩
  rw [hx, hy] at HF
  have HC1 := Lib.hid (fun (W : World) => less_gr _ _ _ _ _ _ W HA.out HB.out)
  have HC2 := Lib.hid (fun (W : World) => less_gr _ _ _ _ _ _ W HB.out HA.out)
  unfold ltT at hx hy
  rw [hx] at HC1; rw [hy] at HC2
  clear hx hy ha hb
  unfold encK
  go_enter Try.func78, Try.ntmps78
  cases x with
  | true =>
    have HR := Lib.hid (show r = -1 from HF.out)
    go_wp2_with (go_at_call 25; refine (HC1.out _).mono ?_; rintro e w' ⟨rfl, hg⟩; have HG := Lib.hid hg; clear hg)
    go_ret
    obtain ⟨q, os, rfl⟩ := HG.out
    exact ⟨by rw [HR.out]; rfl, _, _, gr2 w _ _ q os⟩
  | false =>
    have HR := Lib.hid (show r = if y then 1 else 0 from HF.out)
    go_upto_region 3 with (go_at_call 25; refine (HC1.out _).mono ?_; rintro e w1 ⟨rfl, hg⟩; have HG := Lib.hid hg; clear hg)
    obtain ⟨q, os, rfl⟩ := HG.out
    first | with_reducible refine name_wp ?_ | with_reducible refine name_calls ?_
    intro W hW
    have HW : Hid (∃ os', W = Go.Sort.grow (w.drewN q) os') := Lib.hid ⟨_, by rw [hW]; exact gr2 w _ _ q os⟩
    have hb : Below w.heap.size w ((w.alloc (.cells #[.string a.1.kind, .string a.1.space, .string a.1.name] 24)).alloc (.cells #[.string b.1.kind, .string b.1.space, .string b.1.name] 24)) := ((Below.refl _ _).alloc (Nat.le_refl _) _).alloc (by simp) _
    have c0 : W.cell? ⟨w.heap.size, 0, none⟩ = some (.string a.1.kind) := by rw [hW]; exact cell_grown (by simp; omega) (blk_cell (blk_old (blk_new w _) _) 0) _ _
    have c1 : W.cell? ⟨w.heap.size, 1, none⟩ = some (.string a.1.space) := by rw [hW]; exact cell_grown (by simp; omega) (blk_cell (blk_old (blk_new w _) _) 1) _ _
    have c2 : W.cell? ⟨w.heap.size, 2, none⟩ = some (.string a.1.name) := by rw [hW]; exact cell_grown (by simp; omega) (blk_cell (blk_old (blk_new w _) _) 2) _ _
    have d0 : W.cell? ⟨w.heap.size + 1, 0, none⟩ = some (.string b.1.kind) := by rw [hW]; exact cell_grown (by simp) (blk_cell (blk_new1 w _ _) 0) _ _
    have d1 : W.cell? ⟨w.heap.size + 1, 1, none⟩ = some (.string b.1.space) := by rw [hW]; exact cell_grown (by simp) (blk_cell (blk_new1 w _ _) 1) _ _
    have d2 : W.cell? ⟨w.heap.size + 1, 2, none⟩ = some (.string b.1.name) := by rw [hW]; exact cell_grown (by simp) (blk_cell (blk_new1 w _ _) 2) _ _
    clear hW hb HG
    cases y with
    | true =>
      have HR2 := Lib.hid (show r = 1 from HR.out)
      go_wp2_with (go_at_call 25; refine (HC2.out _).mono ?_; rintro e w' ⟨rfl, hg⟩; have HG := Lib.hid hg; clear hg)
      go_ret
      obtain ⟨q2, os2, rfl⟩ := HG.out
      obtain ⟨os3, rfl⟩ := HW.out
      exact ⟨by rw [HR2.out]; rfl, q + q2, os3 ++ os2, by show Go.Sort.grow (Go.Sort.grow ((w.drewN q).drewN q2) os3) os2 = _; rw [Go.Sort.grow_grow, World.drewN_drewN]⟩
    | false =>
      have HR2 := Lib.hid (show r = 0 from HR.out)
      go_wp2_with (go_at_call 25; refine (HC2.out _).mono ?_; rintro e w' ⟨rfl, hg⟩; have HG := Lib.hid hg; clear hg)
      go_ret
      obtain ⟨q2, os2, rfl⟩ := HG.out
      obtain ⟨os3, rfl⟩ := HW.out
      exact ⟨by rw [HR2.out]; rfl, q + q2, os3 ++ os2, by show Go.Sort.grow (Go.Sort.grow ((w.drewN q).drewN q2) os3) os2 = _; rw [Go.Sort.grow_grow, World.drewN_drewN]⟩
end Go.Proofs.Ythhfcambdmdgfaa
namespace Go.Proofs.Ythhfcambdmdgfaa
open Go.RowKit Go.Maps Srt
set_option linter.unusedVariables false
set_option linter.unusedSimpArgs false
set_option linter.unusedSectionVars false
theorem ranges_kept {X : Nat → Prop} {H : Type} {P : Program} {k : TypeId} {R : Value → Option (DataW H × List MemPlace)} {w w' : World} {b r n : Nat} {D : DataW H} {left : Lit → Bool} {cnt : Nat}
    (h : w.ranges P k R b r n D left cnt) (hk : Kept X w w') (hb : ¬ X b) (hr : ¬ X r) : w'.ranges P k R b r n D left cnt := by
  obtain ⟨es, clock, since, seen, c0, hb', F, hs, hD, hr', rest⟩ := h
  exact ⟨es, clock, since, seen, c0, hk.heap hb' hb, F, hs, hD, hk.heap hr' hr, rest⟩
def fO (p : OX) : Value := .agg (objX p).toArray
theorem fst_inj {α β : Type} : ∀ {l : List (α × β)} {p q : α × β}, (l.map (·.1)).Nodup → p ∈ l → q ∈ l → p.1 = q.1 → p = q
  | a :: r, p, q, h, hp, hq, e => by
    rw [List.map_cons, List.nodup_cons] at h
    rcases List.mem_cons.1 hp with h1 | h1
    · rcases List.mem_cons.1 hq with h2 | h2
      · rw [h1, h2]
      · exact absurd (List.mem_map.2 ⟨q, h2, by rw [← e, h1]⟩) h.1
    · rcases List.mem_cons.1 hq with h2 | h2
      · exact absurd (List.mem_map.2 ⟨p, h1, by rw [e, h2]⟩) h.1
      · exact fst_inj h.2 h1 h2 e
/-- Lists of the same things, whose texts differ, are sorted alike. -/
theorem srtX_perm {α : Type} {t : α → ByteArray} {l m : List α} (hp : l.Perm m) (hn : (m.map t).Nodup) : srtX t l = srtX t m := by
  refine (srtX_of (srtX_srt m) (Stab.trans (K := t) (fun c => ?_) (Stab_symm (srtX_stab m)))).symm
  have q : (l.filter (fun x => decide (t x = c))).Perm (m.filter (fun x => decide (t x = c))) := hp.filter _
  have z : ∀ m : List α, (m.map t).Nodup → (m.filter (fun x => decide (t x = c))).length ≤ 1 := by
    intro m
    induction m with
    | nil => intro _; simp
    | cons a r ih =>
      intro h
      rw [List.map_cons, List.nodup_cons] at h
      rw [List.filter_cons]
      by_cases e : t a = c
      · rw [if_pos (by simpa using e)]
        have : r.filter (fun x => decide (t x = c)) = [] := by
          rw [List.filter_eq_nil_iff]
          intro x hx
          simp only [decide_eq_true_eq]
          intro e2
          exact h.1 (List.mem_map.2 ⟨x, hx, e2.trans e.symm⟩)
        rw [this]; simp
      · rw [if_neg (by simpa using e)]; exact ih h.2
  have z := z m hn
  generalize m.filter (fun x => decide (t x = c)) = b at q z
  cases b with
  | nil => exact q.eq_nil
  | cons x r =>
    obtain rfl : r = [] := by cases r with
      | nil => rfl
      | cons y s => simp at z
    exact List.perm_singleton.1 q
end Go.Proofs.Ythhfcambdmdgfaa
