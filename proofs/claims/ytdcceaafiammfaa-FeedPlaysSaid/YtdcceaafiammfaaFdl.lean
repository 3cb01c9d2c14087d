import Derived.Test.YtdcceaafiammfaaFdk
namespace Go.Proofs.Ytdcceaafiammfaa
open Go.RowKit
set_option linter.unusedVariables false
set_option linter.unusedSimpArgs false
/-! ### The live question -/
theorem own_form {w : World} {b : Nat} {e : TypeId} {v : Value} {xs : List Value} (h : Own w b e v xs) : ∃ ao cap, v = .slice ao xs.length cap := by
  rcases h.2 with ⟨rfl, h0⟩ | ⟨g, cap, cur, hv, _⟩
  · rw [h0]; exact ⟨_, _, rfl⟩
  · exact ⟨_, _, hv⟩
def ia (st : Nat) : Item := ⟨⟨#[]⟩, ⟨#[]⟩, ⟨#[97]⟩, st⟩
def ib (st : Nat) : Item := ⟨⟨#[]⟩, ⟨#[]⟩, ⟨#[98]⟩, st⟩
theorem fk3 (a b c : Nat) : FitK [ia a, ib b, ia c] := by
  intro x hx
  simp only [List.mem_cons, List.not_mem_nil, or_false] at hx
  rcases hx with rfl | rfl | rfl <;> (unfold Go.maxLen; exact ⟨Nat.zero_le _, Nat.zero_le _, Nat.le_trans (show 1 ≤ 1 from Nat.le_refl 1) (by decide)⟩)
set_option maxRecDepth 100000 in
set_option maxHeartbeats 4000000 in
theorem alive10_calls (w : World) : Calls Try.prog 13 #[] w fun e w' => e = .returned (.bool true) ∧ Below w.heap.size w w' := by
  go_enter Try.func13, Try.ntmps13
  go_wp2_with fail
  refine (new_fs w _ (Below.refl _ _)).mono ?_
  rintro e w1 ⟨rfl, S, hb1⟩
  have S1 := Lib.hid S; clear S hb1
  go_wp2_with fail
  first | with_reducible refine name_wp ?_ | with_reducible refine name_calls ?_
  intro W hWeq
  have g0 : W.heap[w1.heap.size]? = some (.cells #[.string ⟨#[]⟩, .string ⟨#[]⟩, .string ⟨#[97]⟩] 35) := by rw [hWeq]; repeat (first | (with_reducible exact blk_newAt _ _ (by simp)) | with_reducible refine blk_drew ?_ | with_reducible refine blk_dN ?_ _ | with_reducible refine blk_old ?_ _)
  have g1 : W.heap[w1.heap.size + 1]? = some (.cells #[.string ⟨#[]⟩, .string ⟨#[]⟩, .string ⟨#[98]⟩] 35) := by rw [hWeq]; repeat (first | (with_reducible exact blk_newAt _ _ (by simp)) | with_reducible refine blk_drew ?_ | with_reducible refine blk_dN ?_ _ | with_reducible refine blk_old ?_ _)
  have hw : Below w1.heap.size w1 W := by rw [hWeq]; repeat (first | with_reducible exact Below.refl _ _ | with_reducible refine Below.drew ?_ | with_reducible refine bl_dN ?_ _ | with_reducible refine Below.alloc ?_ (by simp <;> omega) _)
  clear hWeq
  have hz : w1.heap.size + 2 ≤ W.heap.size := by have := blk_lt g1; omega
  have c0_0 : W.cell? ⟨w1.heap.size, 0, none⟩ = some (.string ⟨#[]⟩) := blk_cell g0 0
  have c0_1 : W.cell? ⟨w1.heap.size, 1, none⟩ = some (.string ⟨#[]⟩) := blk_cell g0 1
  have c0_2 : W.cell? ⟨w1.heap.size, 2, none⟩ = some (.string ⟨#[97]⟩) := blk_cell g0 2
  have f0 : ∀ j, W.frozen? ⟨w1.heap.size, j, none⟩ = false := blk_free g0
  have c1_0 : W.cell? ⟨w1.heap.size + 1, 0, none⟩ = some (.string ⟨#[]⟩) := blk_cell g1 0
  have c1_1 : W.cell? ⟨w1.heap.size + 1, 1, none⟩ = some (.string ⟨#[]⟩) := blk_cell g1 1
  have c1_2 : W.cell? ⟨w1.heap.size + 1, 2, none⟩ = some (.string ⟨#[98]⟩) := blk_cell g1 2
  have f1 : ∀ j, W.frozen? ⟨w1.heap.size + 1, j, none⟩ = false := blk_free g1
  have hB : Below W.heap.size W W := Below.refl _ _
  have G0 := Lib.hid g0; clear g0
  have F0 := Lib.hid f0; clear f0
  have G1 := Lib.hid g1; clear g1
  have F1 := Lib.hid f1; clear f1
  have Hw := Lib.hid hw; clear hw
  have S2 := Lib.hid (S1.out.read Hw.out)
  have B1 := G0
  have B2 := G1
  clear c0_0 c0_1 c0_2 c1_0 c1_1 c1_2 hB hz G0 G1 F0 F1 Hw S1
  have nx0 := feedX_other S2.out.at' B1.out (by decide) (by decide)
  have nx1 := feedX_other S2.out.at' B2.out (by decide) (by decide)
  refine (grow_fs S2.out (by decide) _ _ _ [ia 0] rfl).mono ?_
  rintro e w2 ⟨rfl, v2, S, hk⟩
  have B1' := Lib.hid (hk.heap B1.out nx0); have B2' := Lib.hid (hk.heap B2.out nx1); have S3 := Lib.hid S
  clear B1 B2 S2 nx0 nx1 hk S
  have B1 := B1'; have B2 := B2'; have S2 := S3; clear B1' B2' S3
  have d0 := blk_cell B2.out 0
  have d1 := blk_cell B2.out 1
  have d2 := blk_cell B2.out 2
  go_wp2_with fail
  clear d0 d1 d2
  have nx0 := feedX_other S2.out.at' B1.out (by decide) (by decide)
  have nx1 := feedX_other S2.out.at' B2.out (by decide) (by decide)
  refine (grow_fs S2.out (by decide) _ _ _ [ia 0, ib 0] rfl).mono ?_
  rintro e w2 ⟨rfl, v2, S, hk⟩
  have B1' := Lib.hid (hk.heap B1.out nx0); have B2' := Lib.hid (hk.heap B2.out nx1); have S3 := Lib.hid S
  clear B1 B2 S2 nx0 nx1 hk S
  have B1 := B1'; have B2 := B2'; have S2 := S3; clear B1' B2' S3
  have d0 := blk_cell B1.out 0
  have d1 := blk_cell B1.out 1
  have d2 := blk_cell B1.out 2
  go_wp2_with fail
  clear d0 d1 d2
  have nx0 := feedX_other S2.out.at' B1.out (by decide) (by decide)
  have nx1 := feedX_other S2.out.at' B2.out (by decide) (by decide)
  refine (grow_fs S2.out (by decide) _ _ _ [ia 0, ib 0, ia 0] rfl).mono ?_
  rintro e w2 ⟨rfl, v2, S, hk⟩
  have B1' := Lib.hid (hk.heap B1.out nx0); have B2' := Lib.hid (hk.heap B2.out nx1); have S3 := Lib.hid S
  clear B1 B2 S2 nx0 nx1 hk S
  have B1 := B1'; have B2 := B2'; have S2 := S3; clear B1' B2' S3
  go_wp2_with fail
  refine (tell_fs S2.out (by decide) _ 7 [ia 0, ib 0, ia 0] (by rfl)).mono ?_
  rintro e w2 ⟨rfl, S, hk⟩
  have S3 := Lib.hid S; clear S2; have S2 := S3; clear S3 S hk
  go_wp2_with fail
  refine (tell_fs S2.out (by decide) _ 0 [ia 0, ib 1, ia 0] (by rfl)).mono ?_
  rintro e w2 ⟨rfl, S, hk⟩
  have S3 := Lib.hid S; clear S2; have S2 := S3; clear S3 S hk
  go_wp2_with fail
  refine (drop_fs S2.out (by decide) _ 0 [ia 2, ib 1, ia 0] (by rfl)).mono ?_
  rintro e w2 ⟨rfl, S, hk⟩
  have S3 := Lib.hid S; clear S2; have S2 := S3; clear S3 S hk
  go_wp2_with fail
  refine (tell_fs S2.out (by decide) _ 0 [ia 2, ib 1, ia 1] (by rfl)).mono ?_
  rintro e w2 ⟨rfl, S, hk⟩
  have S3 := Lib.hid S; clear S2; have S2 := S3; clear S3 S hk
  go_wp2_with fail
  refine (safe_fs S2.out (by decide) 0 (by rfl)).mono ?_
  rintro e w2 ⟨rfl, S, hk⟩
  have S3 := Lib.hid S; clear S2; have S2 := S3; clear S3 S hk
  go_wp2_with fail
  refine (settled_fs S2.out (by decide) (fk3 _ _ _) true (by rfl)).mono ?_
  rintro e w2 ⟨rfl, S, hk⟩
  have S3 := Lib.hid S; clear S2; have S2 := S3; clear S3 S hk
  go_wp2_with fail
  refine (cover_fs S2.out _ 0 1 (by rfl)).mono ?_
  rintro e w2 ⟨rfl, S, hk⟩
  have S3 := Lib.hid S; clear S2; have S2 := S3; clear S3 S hk
  go_wp2_with fail
  refine (cover_fs S2.out _ 1 1 (by rfl)).mono ?_
  rintro e w2 ⟨rfl, S, hk⟩
  have S3 := Lib.hid S; clear S2; have S2 := S3; clear S3 S hk
  go_wp2_with fail
  refine (tell_fs S2.out (by decide) _ 6 [ia 2, ib 1, ia 1] (by rfl)).mono ?_
  rintro e w2 ⟨rfl, S, hk⟩
  have S3 := Lib.hid S; clear S2; have S2 := S3; clear S3 S hk
  go_wp2_with fail
  refine (safe_fs S2.out (by decide) 3 (by rfl)).mono ?_
  rintro e w2 ⟨rfl, S, hk⟩
  have S3 := Lib.hid S; clear S2; have S2 := S3; clear S3 S hk
  go_wp2_with fail
  refine (len_fs S2.out).mono ?_
  rintro e w2 ⟨rfl, S, hk⟩
  have S3 := Lib.hid S; clear S2; have S2 := S3; clear S3 S hk
  go_wp2_with fail
  refine (open_fs S2.out (by decide) [] (by rfl)).mono ?_
  rintro e w2 ⟨u, rfl, ho, S, hk⟩
  obtain ⟨ao, cap, rfl⟩ := own_form ho
  have S3 := Lib.hid S; clear S2; have S2 := S3; clear S3 S hk ho
  go_wp2_with fail
  refine (drop_fs S2.out (by decide) _ 6 [ia 2, ib 1, ia 1] (by rfl)).mono ?_
  rintro e w2 ⟨rfl, S, hk⟩
  have S3 := Lib.hid S; clear S2; have S2 := S3; clear S3 S hk
  go_wp2_with fail
  go_ret
  exact ⟨rfl, S2.out.below⟩
end Go.Proofs.Ytdcceaafiammfaa
