import Derived.Test.YthaipgbjnigkhaaMkn
import Derived.Test.YthaipgbjnigkhaaTth
namespace Go.Proofs.Ythaipgbjnigkhaa
open Go.RowKit Go.Shelf Go.Maps
set_option linter.unusedVariables false
set_option linter.unusedSimpArgs false
set_option linter.unusedSectionVars false
set_option maxRecDepth 100000 in
set_option maxHeartbeats 8000000 in
theorem alive12_calls (w : World) : Calls Try.prog 49 #[] w fun e w' => e = .returned (.bool true) ∧ Below w.heap.size w w' := by
  have hB := Below.refl w.heap.size w
  have hrl : rootB.toList = [114, 111, 111, 116] := root_list
  have hbl : bB.toList = [98] := by rw [Lib.toList_data]; rfl
  have hal : bA.toList = [97] := by rw [Lib.toList_data]; rfl
  go_enter Try.func49, Try.ntmps49
  go_wp2_with fail
  refine (tnew_st (St.start hB)).mono ?_
  rintro e w1 ⟨tp, mb, rfl, S, hb⟩
  have S1 := Lib.hid S; clear S hb hB
  go_wp2_with fail
  refine (create_st S1.out 0 rfl good_begin bB rootB (by decide) (by decide) _ _ u1).mono ?_
  rintro e w1 ⟨rfl, S, hk⟩
  have S2 := Lib.hid S; clear S S1 hk
  go_wp2_with fail
  refine (create_st S2.out 0 rfl gm0 bA bB (by decide) (by decide) _ _ u2).mono ?_
  rintro e w1 ⟨rfl, S, hk⟩
  have S1 := Lib.hid S; clear S S2 hk
  go_wp2_with fail
  refine (create_st S1.out 0 rfl gm1 bC rootB (by decide) (by decide) _ _ u3).mono ?_
  rintro e w1 ⟨rfl, S, hk⟩
  have S2 := Lib.hid S; clear S S1 hk
  go_wp2_with fail
  refine (mnew_st S2.out).mono ?_
  rintro e w2 ⟨mp, kb, rfl, S, hb⟩
  have S1 : Hid (St w w2 [thT tp mb m2, thM mp kb []]) := Lib.hid S
  clear S S2 hb
  obtain ⟨V, rfl⟩ : ∃ V : World, V = w2 := ⟨_, rfl⟩
  have HA := Lib.hid ((Below.refl V.heap.size V).alloc (Nat.le_refl _) (.cells (strC [bC, rootB, bB, bX]).toArray 9))
  go_wp2_with fail
  refine (mark_st (S1.out.read HA.out) 1 rfl List.Pairwise.nil (strS_lit (l := [bC, rootB, bB, bX]) (blk_new V _)) (by decide) (by decide) _ v1).mono ?_
  rintro e w2 ⟨rfl, S, hk⟩
  have S2 : Hid (St w w2 [thT tp mb m2, thM mp kb k1]) := Lib.hid S
  clear S S1 hk HA
  go_wp2_with fail
  refine (mnext_calls _ (S2.out.marks 1 rfl) r1 (by decide) (S2.out.tree 0 rfl) gm2 (by decide)).mono ?_
  rintro e w3 ⟨rfl, hb⟩
  rw [v2]
  have S1 := Lib.hid (S2.out.read hb); clear S2 hb
  go_wp2_with fail
  refine (clear_st S1.out 1 rfl r1 bB (by decide) _ _ v3).mono ?_
  rintro e w3 ⟨rfl, S, hk⟩
  have S2 : Hid (St w w3 [thT tp mb m2, thM mp kb k2]) := Lib.hid S
  clear S S1 hk
  go_wp2_with fail
  refine (clear_st S2.out 1 rfl r2 bB (by decide) _ _ v4).mono ?_
  rintro e w4 ⟨rfl, S, hk⟩
  have S1 : Hid (St w w4 [thT tp mb m2, thM mp kb k2]) := Lib.hid S
  clear S S2 hk
  obtain ⟨V, rfl⟩ : ∃ V : World, V = w4 := ⟨_, rfl⟩
  have HA := Lib.hid ((Below.refl V.heap.size V).alloc (Nat.le_refl _) (.cells (strC [bA]).toArray 9))
  go_wp2_with fail
  refine (mark_st (S1.out.read HA.out) 1 rfl r2 (strS_lit (l := [bA]) (blk_new V _)) (by decide) (by decide) _ v5).mono ?_
  rintro e w2 ⟨rfl, S, hk⟩
  have S2 : Hid (St w w2 [thT tp mb m2, thM mp kb k3]) := Lib.hid S
  clear S S1 hk HA
  go_wp2_with fail
  refine (mnext_calls _ (S2.out.marks 1 rfl) r3 (by decide) (S2.out.tree 0 rfl) gm2 (by decide)).mono ?_
  rintro e w3 ⟨rfl, hb⟩
  rw [v6]
  have S1 := Lib.hid (S2.out.read hb); clear S2 hb
  go_wp2_with fail
  refine (mnew_st S1.out).mono ?_
  rintro e w5 ⟨mp2, kb2, rfl, S, hb⟩
  have S2 : Hid (St w w5 [thT tp mb m2, thM mp kb k3, thM mp2 kb2 []]) := Lib.hid S
  clear S S1 hb
  go_wp2_with fail
  refine (mnext_calls _ (S2.out.marks 2 rfl) List.Pairwise.nil (by decide) (S2.out.tree 0 rfl) gm2 (by decide)).mono ?_
  rintro e w6 ⟨rfl, hb⟩
  rw [v7]
  have S1 := Lib.hid (S2.out.read hb); clear S2 hb
  go_wp2_with fail
  refine (mall_calls _ (S1.out.marks 1 rfl) r3 (by decide)).mono ?_
  rintro e w7 ⟨v, rfl, hrow, hb⟩
  have HV := Lib.hid (strS_of hrow); have S2 := Lib.hid (S1.out.read hb); clear S1 hrow hb
  obtain ⟨V, rfl⟩ : ∃ V : World, V = w7 := ⟨_, rfl⟩
  have HA := Lib.hid ((Below.refl V.heap.size V).alloc (Nat.le_refl _) (.cells (strC [bA, bC, rootB, bX]).toArray 9))
  obtain ⟨av, cv, rfl⟩ := HV.out.form
  go_wp2_with fail
  refine (texts_calls _ (HV.out.below HA.out) (strS_lit (l := [bA, bC, rootB, bX]) (blk_new V _)) (by decide) (by decide)).mono ?_
  rintro e w8 ⟨rfl, hb⟩
  rw [show decide (allN k3 = [bA, bC, rootB, bX]) = true from decide_eq_true rfl]
  have S1 := Lib.hid (S2.out.read (bl_next HA.out hb)); clear S2 HV HA hb
  go_wp2_with fail
  refine (mhas_calls _ (S1.out.marks 1 rfl) bX (by decide)).mono ?_
  rintro e w9 ⟨rfl, hb⟩
  rw [show hasN k3 bX = true by decide +kernel]
  have S2 := Lib.hid (S1.out.read hb); clear S1 hb
  go_wp2_with fail
  go_ret
  exact ⟨rfl, S2.out.below⟩
end Go.Proofs.Ythaipgbjnigkhaa
