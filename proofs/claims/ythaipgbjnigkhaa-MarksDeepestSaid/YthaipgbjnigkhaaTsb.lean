import Derived.Test.YthaipgbjnigkhaaTsa
namespace Go.Proofs.Ythaipgbjnigkhaa
open Go.RowKit Go.Shelf Go.Maps
set_option linter.unusedVariables false
set_option linter.unusedSimpArgs false
set_option maxRecDepth 100000 in
set_option maxHeartbeats 8000000 in
theorem alive11_calls (w : World) : Calls Try.prog 11 #[] w fun e w' => e = .returned (.bool true) ∧ Below w.heap.size w w' := by
  have hB := Below.refl w.heap.size w
  have hrl : rootB.toList = [114, 111, 111, 116] := root_list
  go_enter Try.func11, Try.ntmps11
  go_wp2_with fail
  refine (new_ts w _ hB).mono ?_
  rintro e w1 ⟨tp, mb, rfl, S, hb, -⟩
  have S2 := Lib.hid S; clear S hb hB
  go_wp2_with fail
  refine (create_ts S2.out good_begin bA rootB (by decide) (by decide) _ _ t1).mono ?_
  rintro e w2 ⟨rfl, S, hk⟩
  have S3 := Lib.hid S; clear S2; have S2 := S3; clear S3 S hk
  go_wp2_with fail
  refine (create_ts S2.out g1 bB bA (by decide) (by decide) _ _ t2).mono ?_
  rintro e w2 ⟨rfl, S, hk⟩
  have S3 := Lib.hid S; clear S2; have S2 := S3; clear S3 S hk
  go_wp2_with fail
  refine (create_ts S2.out g2 bC bB (by decide) (by decide) _ _ t3).mono ?_
  rintro e w2 ⟨rfl, S, hk⟩
  have S3 := Lib.hid S; clear S2; have S2 := S3; clear S3 S hk
  go_wp2_with fail
  refine (move_ts S2.out g3 bA bC (by decide) (by decide) _ _ t4).mono ?_
  rintro e w2 ⟨rfl, S, hk⟩
  have S3 := Lib.hid S; clear S2; have S2 := S3; clear S3 S hk
  go_wp2_with fail
  refine (move_ts S2.out g3 bC rootB (by decide) (by decide) _ _ t5).mono ?_
  rintro e w2 ⟨rfl, S, hk⟩
  have S3 := Lib.hid S; clear S2; have S2 := S3; clear S3 S hk
  go_wp2_with fail
  refine (remove_ts S2.out g4 bA (by decide) _ _ t6).mono ?_
  rintro e w2 ⟨rfl, S, hk⟩
  have S3 := Lib.hid S; clear S2; have S2 := S3; clear S3 S hk
  go_wp2_with fail
  refine (create_ts S2.out g4 bA bB (by decide) (by decide) _ _ t7).mono ?_
  rintro e w2 ⟨rfl, S, hk⟩
  have S3 := Lib.hid S; clear S2; have S2 := S3; clear S3 S hk
  go_wp2_with fail
  refine (create_ts S2.out g4 ⟨#[100]⟩ ⟨#[120]⟩ (by decide) (by decide) _ _ t8).mono ?_
  rintro e w2 ⟨rfl, S, hk⟩
  have S3 := Lib.hid S; clear S2; have S2 := S3; clear S3 S hk
  go_wp2_with fail
  refine (remove_ts S2.out g4 rootB (by decide) _ _ t9).mono ?_
  rintro e w2 ⟨rfl, S, hk⟩
  have S3 := Lib.hid S; clear S2; have S2 := S3; clear S3 S hk
  go_wp2_with fail
  refine (parent_ts S2.out bC (by decide) rootB (by decide +kernel)).mono ?_
  rintro e w2 ⟨rfl, S, hk⟩
  have S3 := Lib.hid S; clear S2; have S2 := S3; clear S3 S hk
  go_wp2_with fail
  refine (path_ts S2.out g4 bB (by decide) _ p1).mono ?_
  rintro e w2 ⟨v, rfl, hv, S, hk⟩
  have HV := Lib.hid hv; have S3 := Lib.hid S; clear S2 hv; have S2 := S3; clear S3 S hk
  obtain ⟨V, rfl⟩ : ∃ V : World, V = w2 := ⟨_, rfl⟩
  have HA := Lib.hid ((Below.refl V.heap.size V).alloc (Nat.le_refl _) (.cells (strC [bB, bA, rootB]).toArray 9))
  obtain ⟨av, cv, rfl⟩ := HV.out.form
  go_wp2_with fail
  refine (texts_calls _ (HV.out.below HA.out) (strS_lit (l := [bB, bA, rootB]) (blk_new V _)) (by decide) (by decide)).mono ?_
  rintro e w3 ⟨rfl, hb⟩
  rw [show decide ([bB, bA, rootB] = [bB, bA, rootB]) = true from decide_eq_true rfl]
  have S3 := Lib.hid (S2.out.read (bl_next HA.out hb)); clear S2 HV HA hb; have S2 := S3; clear S3
  go_wp2_with fail
  refine (children_ts S2.out g4 rootB _ p2).mono ?_
  rintro e w2 ⟨v, rfl, hv, S, hk⟩
  have HV := Lib.hid hv; have S3 := Lib.hid S; clear S2 hv; have S2 := S3; clear S3 S hk
  obtain ⟨V, rfl⟩ : ∃ V : World, V = w2 := ⟨_, rfl⟩
  have HA := Lib.hid ((Below.refl V.heap.size V).alloc (Nat.le_refl _) (.cells (strC [bA, bC]).toArray 9))
  obtain ⟨av, cv, rfl⟩ := HV.out.form
  go_wp2_with fail
  refine (texts_calls _ (HV.out.below HA.out) (strS_lit (l := [bA, bC]) (blk_new V _)) (by decide) (by decide)).mono ?_
  rintro e w3 ⟨rfl, hb⟩
  rw [show decide ([bA, bC] = [bA, bC]) = true from decide_eq_true rfl]
  have S3 := Lib.hid (S2.out.read (bl_next HA.out hb)); clear S2 HV HA hb; have S2 := S3; clear S3
  go_wp2_with fail
  refine (below_ts S2.out g4 bA _ p3).mono ?_
  rintro e w2 ⟨v, rfl, hv, S, hk⟩
  have HV := Lib.hid hv; have S3 := Lib.hid S; clear S2 hv; have S2 := S3; clear S3 S hk
  obtain ⟨V, rfl⟩ : ∃ V : World, V = w2 := ⟨_, rfl⟩
  have HA := Lib.hid ((Below.refl V.heap.size V).alloc (Nat.le_refl _) (.cells (strC [bA, bB]).toArray 9))
  obtain ⟨av, cv, rfl⟩ := HV.out.form
  go_wp2_with fail
  refine (texts_calls _ (HV.out.below HA.out) (strS_lit (l := [bA, bB]) (blk_new V _)) (by decide) (by decide)).mono ?_
  rintro e w3 ⟨rfl, hb⟩
  rw [show decide ([bA, bB] = [bA, bB]) = true from decide_eq_true rfl]
  have S3 := Lib.hid (S2.out.read (bl_next HA.out hb)); clear S2 HV HA hb; have S2 := S3; clear S3
  go_wp2_with fail
  refine (all_ts S2.out g4 _ p4).mono ?_
  rintro e w2 ⟨v, rfl, hv, S, hk⟩
  have HV := Lib.hid hv; have S3 := Lib.hid S; clear S2 hv; have S2 := S3; clear S3 S hk
  obtain ⟨V, rfl⟩ : ∃ V : World, V = w2 := ⟨_, rfl⟩
  have HA := Lib.hid ((Below.refl V.heap.size V).alloc (Nat.le_refl _) (.cells (strC [bA, bB, bC, rootB]).toArray 9))
  obtain ⟨av, cv, rfl⟩ := HV.out.form
  go_wp2_with fail
  refine (texts_calls _ (HV.out.below HA.out) (strS_lit (l := [bA, bB, bC, rootB]) (blk_new V _)) (by decide) (by decide)).mono ?_
  rintro e w3 ⟨rfl, hb⟩
  rw [show decide ([bA, bB, bC, rootB] = [bA, bB, bC, rootB]) = true from decide_eq_true rfl]
  have S3 := Lib.hid (S2.out.read (bl_next HA.out hb)); clear S2 HV HA hb; have S2 := S3; clear S3
  go_wp2_with fail
  refine (has_ts S2.out bB (by decide) true (by decide +kernel)).mono ?_
  rintro e w2 ⟨rfl, S, hk⟩
  have S3 := Lib.hid S; clear S2; have S2 := S3; clear S3 S hk
  go_wp2_with fail
  refine (remove_ts S2.out g4 bB (by decide) _ _ t10).mono ?_
  rintro e w2 ⟨rfl, S, hk⟩
  have S3 := Lib.hid S; clear S2; have S2 := S3; clear S3 S hk
  go_wp2_with fail
  refine (has_ts S2.out bB (by decide) false (by decide +kernel)).mono ?_
  rintro e w2 ⟨rfl, S, hk⟩
  have S3 := Lib.hid S; clear S2; have S2 := S3; clear S3 S hk
  go_wp2_with fail
  go_ret
  exact ⟨rfl, S2.out.below⟩
end Go.Proofs.Ythaipgbjnigkhaa
