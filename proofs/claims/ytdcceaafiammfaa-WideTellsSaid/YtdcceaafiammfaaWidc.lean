import Derived.Test.YtdcceaafiammfaaProg
import Derived.Test.YtdcceaafiammfaaWidb
namespace Go.Proofs.Ytdcceaafiammfaa
open Go.RowKit
set_option linter.unusedSimpArgs false
set_option linter.unusedVariables false
set_option maxHeartbeats 1000000 in
theorem wshift_lo_yes (h l : Int) (m : Nat) (w : World) (c : ¬ 64 ≤ m) (c2 : m < 128) (H : Int) (L : Int) (x1 : IntKind.i64.wrap (bits .or .u64 (IntKind.u64.wrap (IntKind.u64.wrap h * 2 ^ m)) (l / 2 ^ (64 - m))) = H) (x2 : IntKind.u64.wrap (l * 2 ^ m) = L) (kk : WOk H L) (y2 : wideV (wval H L / 2 ^ m) = .agg #[.int .i64 h, .int .u64 l]) :
    Calls Try.prog 44 #[.agg #[.int .i64 h, .int .u64 l], .int .i64 (m : Int)] w fun e w' => e = .returned (.tuple #[.agg #[.int .i64 H, .int .u64 L], .bool true]) ∧ Below w.heap.size w w' := by
  have c1 : decide ((m : Int) < 0) = false := by simp
  have c3 : decide ((m : Int) ≥ 128) = false := by simp; omega
  have c4 : decide ((m : Int) < 64) = true := by simp; omega
  have e1 : IntKind.i64.wrap (64 - (m : Int)) = 64 - (m : Int) := by rw [i64w_eq]; rw [wrap64_eq]; omega
  have X1 := Lib.hid x1; clear x1
  have X2 := Lib.hid x2; clear x2
  have KK := Lib.hid kk; have Y2 := Lib.hid y2; clear kk y2
  go_enter Try.func44, Try.ntmps44
  go_wp2_with fail
  refine region_seq (fun w' => w'.cell? ⟨w.heap.size, 0, none⟩ = some (.int .i64 h) ∧ w'.cell? ⟨w.heap.size, 1, none⟩ = some (.int .u64 l)) [(0, true), (1, true), (2, true), (3, true), (4, true), (5, true), (6, true), (7, true), (8, true), (9, true), (10, true), (11, true), (12, true), (13, true), (14, true), (15, true), (16, true), (17, false)] (by kernel_rfl) (by kernel_rfl) (fun _ _ _ _ h => h) (by first | exact hSC | (go_simp; done)) ?_
  refine seq_take (v := ?_) (a' := ?_) (some 16) rfl rfl (by rfl) ?_ ?_ ?_
  rotate_left; rotate_left
  · intro w' hS; go_simp; with_reducible rfl
  · simp only [Act.put, List.setIfInBounds_toArray, List.set_cons_zero, List.set_cons_succ]; rfl
  refine seq_take (v := ?_) (a' := ?_) (some 17) rfl rfl (by rfl) ?_ ?_ ?_
  rotate_left; rotate_left
  · intro w' hS; obtain ⟨s0, s1⟩ := hS; go_simp; with_reducible rfl
  · simp only [Act.put, List.setIfInBounds_toArray, List.set_cons_zero, List.set_cons_succ]; rfl
  refine seq_take (v := ?_) (a' := ?_) (some 18) rfl rfl (by rfl) ?_ ?_ ?_
  rotate_left; rotate_left
  · intro w' hS; go_simp; with_reducible rfl
  · simp only [Act.put, List.setIfInBounds_toArray, List.set_cons_zero, List.set_cons_succ]; rfl
  refine seq_take (v := ?_) (a' := ?_) (some 19) rfl rfl (by rfl) ?_ ?_ ?_
  rotate_left; rotate_left
  · intro w' hS; go_simp; with_reducible rfl
  · simp only [Act.put, List.setIfInBounds_toArray, List.set_cons_zero, List.set_cons_succ]; rfl
  refine seq_take (v := ?_) (a' := ?_) (some 20) rfl rfl (by rfl) ?_ ?_ ?_
  rotate_left; rotate_left
  · intro w' hS; go_simp; with_reducible rfl
  · simp only [Act.put, List.setIfInBounds_toArray, List.set_cons_zero, List.set_cons_succ]; rfl
  refine seq_take (v := ?_) (a' := ?_) (some 21) rfl rfl (by rfl) ?_ ?_ ?_
  rotate_left; rotate_left
  · intro w' hS; go_simp; with_reducible rfl
  · simp only [Act.put, List.setIfInBounds_toArray, List.set_cons_zero, List.set_cons_succ]; rfl
  refine seq_take (v := ?_) (a' := ?_) (some 22) rfl rfl (by rfl) ?_ ?_ ?_
  rotate_left; rotate_left
  · intro w' hS; obtain ⟨s0, s1⟩ := hS; go_simp; with_reducible rfl
  · simp only [Act.put, List.setIfInBounds_toArray, List.set_cons_zero, List.set_cons_succ]; rfl
  refine seq_take (v := ?_) (a' := ?_) (some 23) rfl rfl (by rfl) ?_ ?_ ?_
  rotate_left; rotate_left
  · intro w' hS; go_simp; with_reducible rfl
  · simp only [Act.put, List.setIfInBounds_toArray, List.set_cons_zero, List.set_cons_succ]; rfl
  refine seq_take (v := ?_) (a' := ?_) (some 24) rfl rfl (by rfl) ?_ ?_ ?_
  rotate_left; rotate_left
  · intro w' hS; go_simp; with_reducible rfl
  · simp only [Act.put, List.setIfInBounds_toArray, List.set_cons_zero, List.set_cons_succ]; rfl
  refine seq_take (v := ?_) (a' := ?_) (some 25) rfl rfl (by rfl) ?_ ?_ ?_
  rotate_left; rotate_left
  · intro w' hS; go_simp; with_reducible rfl
  · simp only [Act.put, List.setIfInBounds_toArray, List.set_cons_zero, List.set_cons_succ]; rfl
  refine seq_take (v := ?_) (a' := ?_) (some 26) rfl rfl (by rfl) ?_ ?_ ?_
  rotate_left; rotate_left
  · intro w' hS; go_simp; with_reducible rfl
  · simp only [Act.put, List.setIfInBounds_toArray, List.set_cons_zero, List.set_cons_succ]; rfl
  refine seq_take (v := ?_) (a' := ?_) (some 27) rfl rfl (by rfl) ?_ ?_ ?_
  rotate_left; rotate_left
  · intro w' hS; go_simp; with_reducible rfl
  · simp only [Act.put, List.setIfInBounds_toArray, List.set_cons_zero, List.set_cons_succ]; rfl
  refine seq_take (v := ?_) (a' := ?_) (some 28) rfl rfl (by rfl) ?_ ?_ ?_
  rotate_left; rotate_left
  · intro w' hS; go_simp; with_reducible rfl
  · simp only [Act.put, List.setIfInBounds_toArray, List.set_cons_zero, List.set_cons_succ]; rfl
  refine seq_take (v := ?_) (a' := ?_) (some 29) rfl rfl (by rfl) ?_ ?_ ?_
  rotate_left; rotate_left
  · intro w' hS; obtain ⟨s0, s1⟩ := hS; go_simp; with_reducible rfl
  · simp only [Act.put, List.setIfInBounds_toArray, List.set_cons_zero, List.set_cons_succ]; rfl
  refine seq_take (v := ?_) (a' := ?_) (some 30) rfl rfl (by rfl) ?_ ?_ ?_
  rotate_left; rotate_left
  · intro w' hS; go_simp; with_reducible rfl
  · simp only [Act.put, List.setIfInBounds_toArray, List.set_cons_zero, List.set_cons_succ]; rfl
  refine seq_take (v := ?_) (a' := ?_) (some 31) rfl rfl (by rfl) ?_ ?_ ?_
  rotate_left; rotate_left
  · intro w' hS; go_simp; with_reducible rfl
  · simp only [Act.put, List.setIfInBounds_toArray, List.set_cons_zero, List.set_cons_succ]; rfl
  refine seq_take (v := ?_) (a' := ?_) (some 32) rfl rfl (by rfl) ?_ ?_ ?_
  rotate_left; rotate_left
  · intro w' hS; go_simp; with_reducible rfl
  · simp only [Act.put, List.setIfInBounds_toArray, List.set_cons_zero, List.set_cons_succ]; rfl
  refine seq_store none rfl rfl (by rfl) ?_
  apply Exists.intro; apply And.intro
  · go_simp; first | exact ⟨rfl, rfl⟩ | rfl
  apply Exists.intro; apply And.intro
  · simp only [Act.put, List.setIfInBounds_toArray, List.set_cons_zero, List.set_cons_succ]; rfl
  apply And.intro
  · exact (by first | exact hSC | (go_simp; done))
  refine seq_done ?_
  go_wp2_with fail
  rw [X1.out, X2.out]
  first | with_reducible refine name_wp ?_ | with_reducible refine name_calls ?_
  intro W hWeq
  have g0 : W.heap[w.heap.size]? = some (.cells #[.int .i64 h, .int .u64 l] 57) := by rw [hWeq]; repeat (first | (with_reducible exact blk_newAt _ _ (by simp)) | with_reducible refine blk_drew ?_ | with_reducible refine blk_dN ?_ _ | with_reducible refine blk_old ?_ _)
  have g1 : W.heap[w.heap.size + 1]? = some (.cells #[.int .i64 0, .int .u64 0] 57) := by rw [hWeq]; repeat (first | (with_reducible exact blk_newAt _ _ (by simp)) | with_reducible refine blk_drew ?_ | with_reducible refine blk_dN ?_ _ | with_reducible refine blk_old ?_ _)
  have g2 : W.heap[w.heap.size + 2]? = some (.cells #[.int .i64 H, .int .u64 L] 57) := by rw [hWeq]; repeat (first | (with_reducible exact blk_newAt _ _ (by simp)) | with_reducible refine blk_drew ?_ | with_reducible refine blk_dN ?_ _ | with_reducible refine blk_old ?_ _)
  have hw : Below w.heap.size w W := by rw [hWeq]; repeat (first | with_reducible exact Below.refl _ _ | with_reducible refine Below.drew ?_ | with_reducible refine bl_dN ?_ _ | with_reducible refine Below.alloc ?_ (by simp <;> omega) _)
  clear hWeq
  have hz : w.heap.size + 3 ≤ W.heap.size := by have := blk_lt g2; omega
  have c0_0 : W.cell? ⟨w.heap.size, 0, none⟩ = some (.int .i64 h) := blk_cell g0 0
  have c0_1 : W.cell? ⟨w.heap.size, 1, none⟩ = some (.int .u64 l) := blk_cell g0 1
  have f0 : ∀ j, W.frozen? ⟨w.heap.size, j, none⟩ = false := blk_free g0
  have c1_0 : W.cell? ⟨w.heap.size + 1, 0, none⟩ = some (.int .i64 0) := blk_cell g1 0
  have c1_1 : W.cell? ⟨w.heap.size + 1, 1, none⟩ = some (.int .u64 0) := blk_cell g1 1
  have f1 : ∀ j, W.frozen? ⟨w.heap.size + 1, j, none⟩ = false := blk_free g1
  have c2_0 : W.cell? ⟨w.heap.size + 2, 0, none⟩ = some (.int .i64 H) := blk_cell g2 0
  have c2_1 : W.cell? ⟨w.heap.size + 2, 1, none⟩ = some (.int .u64 L) := blk_cell g2 1
  have f2 : ∀ j, W.frozen? ⟨w.heap.size + 2, j, none⟩ = false := blk_free g2
  have hB : Below W.heap.size W W := Below.refl _ _
  have G0 := Lib.hid g0; clear g0
  have F0 := Lib.hid f0; clear f0
  have G1 := Lib.hid g1; clear g1
  have F1 := Lib.hid f1; clear f1
  have G2 := Lib.hid g2; clear g2
  have F2 := Lib.hid f2; clear f2
  have Hw := Lib.hid hw; clear hw
  have hB := hB.drew
  refine region_seq (fun w' => Below W.heap.size W w') [(0, true), (1, true), (3, true), (2, false), (4, true)] (by kernel_rfl) (by kernel_rfl) (fun _ _ _ _ h => h) hB ?_
  try generalize World.drew _ = wS at hB ⊢
  refine seq_take (v := ?_) (a' := ?_) (some 40) rfl rfl (by rfl) ?_ ?_ ?_
  rotate_left; rotate_left
  · intro w' hS; have s0_0 := cb hS c0_0; have s0_1 := cb hS c0_1; have s1_0 := cb hS c1_0; have s1_1 := cb hS c1_1; have s2_0 := cb hS c2_0; have s2_1 := cb hS c2_1; go_simp; with_reducible rfl
  · simp only [Act.put, List.setIfInBounds_toArray, List.set_cons_zero, List.set_cons_succ]; rfl
  refine seq_take (v := ?_) (a' := ?_) (some 41) rfl rfl (by rfl) ?_ ?_ ?_
  rotate_left; rotate_left
  · intro w' hS; go_simp; with_reducible rfl
  · simp only [Act.put, List.setIfInBounds_toArray, List.set_cons_zero, List.set_cons_succ]; rfl
  refine seq_take (v := ?_) (a' := ?_) (some 43) rfl rfl (by rfl) ?_ ?_ ?_
  rotate_left; rotate_left
  · intro w' hS; have s0_0 := cb hS c0_0; have s0_1 := cb hS c0_1; have s1_0 := cb hS c1_0; have s1_1 := cb hS c1_1; have s2_0 := cb hS c2_0; have s2_1 := cb hS c2_1; go_simp; with_reducible rfl
  · simp only [Act.put, List.setIfInBounds_toArray, List.set_cons_zero, List.set_cons_succ]; rfl
  refine seq_call (args := ?_) Try.func73 (by kernel_rfl) rfl (some 42) rfl rfl (by rfl) rfl ?_ ?_
  rotate_left
  · simp only [List.map_toArray, List.map_cons, List.map_nil]; go_simp; rfl
  with_reducible refine (wback_calls _ _ _ _ KK.out c2).mono ?_
  rintro e w' ⟨rfl, hb⟩
  rw [Y2.out]
  refine ⟨_, rfl, bl_next (by repeat (first | with_reducible exact hB | refine Below.alloc ?_ (by have := hB.size; simp; omega) _ | refine bl_dN ?_ _ | refine Below.drew ?_ | refine Below.setCell ?_ (by have := hB.size; simp; omega) _)) hb, ?_⟩
  have hB := bl_next (by repeat (first | with_reducible exact hB | refine Below.alloc ?_ (by have := hB.size; simp; omega) _ | refine bl_dN ?_ _ | refine Below.drew ?_ | refine Below.setCell ?_ (by have := hB.size; simp; omega) _)) hb; clear hb
  simp only [Act.put, List.setIfInBounds_toArray, List.set_cons_zero, List.set_cons_succ]
  refine seq_take (v := ?_) (a' := ?_) (some 44) rfl rfl (by rfl) ?_ ?_ ?_
  rotate_left; rotate_left
  · intro w' hS; go_simp; with_reducible rfl
  · simp only [Act.put, List.setIfInBounds_toArray, List.set_cons_zero, List.set_cons_succ]; rfl
  refine seq_done ?_
  have k0_0 := cb hB c0_0
  have k0_1 := cb hB c0_1
  have k1_0 := cb hB c1_0
  have k1_1 := cb hB c1_1
  have k2_0 := cb hB c2_0
  have k2_1 := cb hB c2_1
  have kz0 : w.heap.size < _ := lt_of_cell k0_0
  have kz1 : w.heap.size + 1 < _ := lt_of_cell k1_0
  have kz2 : w.heap.size + 2 < _ := lt_of_cell k2_0
  have kf0_0 := fb hB (lt_of_cell c0_0) (F0.out 0)
  have kf0_1 := fb hB (lt_of_cell c0_1) (F0.out 1)
  have kf1_0 := fb hB (lt_of_cell c1_0) (F1.out 0)
  have kf1_1 := fb hB (lt_of_cell c1_1) (F1.out 1)
  have kf2_0 := fb hB (lt_of_cell c2_0) (F2.out 0)
  have kf2_1 := fb hB (lt_of_cell c2_1) (F2.out 1)
  go_wp2
  have hw0 := bl_from Hw.out hB
  refine bodyPost_ret (v := .tuple #[.agg #[.int .i64 H, .int .u64 L], .bool true]) (by simp [results, Try.results44, go_sem, k1_0, k1_1]) rfl ⟨rfl, by (repeat (first | exact Below.refl _ _ | exact hw0 | refine Below.setCell ?_ (by first | (simp; done) | (simp; omega)) _ | refine Below.alloc ?_ (by first | (simp; done) | (simp; omega)) _ | refine bl_dN ?_ _ | refine Below.drew ?_))⟩
set_option maxHeartbeats 1000000 in
theorem wshift_lo_no (h l : Int) (m : Nat) (w : World) (c : ¬ 64 ≤ m) (c2 : m < 128) (H : Int) (L : Int) (x1 : IntKind.i64.wrap (bits .or .u64 (IntKind.u64.wrap (IntKind.u64.wrap h * 2 ^ m)) (l / 2 ^ (64 - m))) = H) (x2 : IntKind.u64.wrap (l * 2 ^ m) = L) (V : Int)
    (bk : ∀ w, Calls Try.prog 73 #[.agg #[.int .i64 H, .int .u64 L], .int .i64 (m : Int)] w fun e w' => e = .returned (wideV V) ∧ Below w.heap.size w w') (n1 : ¬ (whi V = h ∧ wlo V = l)) :
    Calls Try.prog 44 #[.agg #[.int .i64 h, .int .u64 l], .int .i64 (m : Int)] w fun e w' => e = .returned (.tuple #[.agg #[.int .i64 0, .int .u64 0], .bool false]) ∧ Below w.heap.size w w' := by
  have c1 : decide ((m : Int) < 0) = false := by simp
  have c3 : decide ((m : Int) ≥ 128) = false := by simp; omega
  have c4 : decide ((m : Int) < 64) = true := by simp; omega
  have e1 : IntKind.i64.wrap (64 - (m : Int)) = 64 - (m : Int) := by rw [i64w_eq]; rw [wrap64_eq]; omega
  have X1 := Lib.hid x1; clear x1
  have X2 := Lib.hid x2; clear x2
  go_enter Try.func44, Try.ntmps44
  go_wp2_with fail
  refine region_seq (fun w' => w'.cell? ⟨w.heap.size, 0, none⟩ = some (.int .i64 h) ∧ w'.cell? ⟨w.heap.size, 1, none⟩ = some (.int .u64 l)) [(0, true), (1, true), (2, true), (3, true), (4, true), (5, true), (6, true), (7, true), (8, true), (9, true), (10, true), (11, true), (12, true), (13, true), (14, true), (15, true), (16, true), (17, false)] (by kernel_rfl) (by kernel_rfl) (fun _ _ _ _ h => h) (by first | exact hSC | (go_simp; done)) ?_
  refine seq_take (v := ?_) (a' := ?_) (some 16) rfl rfl (by rfl) ?_ ?_ ?_
  rotate_left; rotate_left
  · intro w' hS; go_simp; with_reducible rfl
  · simp only [Act.put, List.setIfInBounds_toArray, List.set_cons_zero, List.set_cons_succ]; rfl
  refine seq_take (v := ?_) (a' := ?_) (some 17) rfl rfl (by rfl) ?_ ?_ ?_
  rotate_left; rotate_left
  · intro w' hS; obtain ⟨s0, s1⟩ := hS; go_simp; with_reducible rfl
  · simp only [Act.put, List.setIfInBounds_toArray, List.set_cons_zero, List.set_cons_succ]; rfl
  refine seq_take (v := ?_) (a' := ?_) (some 18) rfl rfl (by rfl) ?_ ?_ ?_
  rotate_left; rotate_left
  · intro w' hS; go_simp; with_reducible rfl
  · simp only [Act.put, List.setIfInBounds_toArray, List.set_cons_zero, List.set_cons_succ]; rfl
  refine seq_take (v := ?_) (a' := ?_) (some 19) rfl rfl (by rfl) ?_ ?_ ?_
  rotate_left; rotate_left
  · intro w' hS; go_simp; with_reducible rfl
  · simp only [Act.put, List.setIfInBounds_toArray, List.set_cons_zero, List.set_cons_succ]; rfl
  refine seq_take (v := ?_) (a' := ?_) (some 20) rfl rfl (by rfl) ?_ ?_ ?_
  rotate_left; rotate_left
  · intro w' hS; go_simp; with_reducible rfl
  · simp only [Act.put, List.setIfInBounds_toArray, List.set_cons_zero, List.set_cons_succ]; rfl
  refine seq_take (v := ?_) (a' := ?_) (some 21) rfl rfl (by rfl) ?_ ?_ ?_
  rotate_left; rotate_left
  · intro w' hS; go_simp; with_reducible rfl
  · simp only [Act.put, List.setIfInBounds_toArray, List.set_cons_zero, List.set_cons_succ]; rfl
  refine seq_take (v := ?_) (a' := ?_) (some 22) rfl rfl (by rfl) ?_ ?_ ?_
  rotate_left; rotate_left
  · intro w' hS; obtain ⟨s0, s1⟩ := hS; go_simp; with_reducible rfl
  · simp only [Act.put, List.setIfInBounds_toArray, List.set_cons_zero, List.set_cons_succ]; rfl
  refine seq_take (v := ?_) (a' := ?_) (some 23) rfl rfl (by rfl) ?_ ?_ ?_
  rotate_left; rotate_left
  · intro w' hS; go_simp; with_reducible rfl
  · simp only [Act.put, List.setIfInBounds_toArray, List.set_cons_zero, List.set_cons_succ]; rfl
  refine seq_take (v := ?_) (a' := ?_) (some 24) rfl rfl (by rfl) ?_ ?_ ?_
  rotate_left; rotate_left
  · intro w' hS; go_simp; with_reducible rfl
  · simp only [Act.put, List.setIfInBounds_toArray, List.set_cons_zero, List.set_cons_succ]; rfl
  refine seq_take (v := ?_) (a' := ?_) (some 25) rfl rfl (by rfl) ?_ ?_ ?_
  rotate_left; rotate_left
  · intro w' hS; go_simp; with_reducible rfl
  · simp only [Act.put, List.setIfInBounds_toArray, List.set_cons_zero, List.set_cons_succ]; rfl
  refine seq_take (v := ?_) (a' := ?_) (some 26) rfl rfl (by rfl) ?_ ?_ ?_
  rotate_left; rotate_left
  · intro w' hS; go_simp; with_reducible rfl
  · simp only [Act.put, List.setIfInBounds_toArray, List.set_cons_zero, List.set_cons_succ]; rfl
  refine seq_take (v := ?_) (a' := ?_) (some 27) rfl rfl (by rfl) ?_ ?_ ?_
  rotate_left; rotate_left
  · intro w' hS; go_simp; with_reducible rfl
  · simp only [Act.put, List.setIfInBounds_toArray, List.set_cons_zero, List.set_cons_succ]; rfl
  refine seq_take (v := ?_) (a' := ?_) (some 28) rfl rfl (by rfl) ?_ ?_ ?_
  rotate_left; rotate_left
  · intro w' hS; go_simp; with_reducible rfl
  · simp only [Act.put, List.setIfInBounds_toArray, List.set_cons_zero, List.set_cons_succ]; rfl
  refine seq_take (v := ?_) (a' := ?_) (some 29) rfl rfl (by rfl) ?_ ?_ ?_
  rotate_left; rotate_left
  · intro w' hS; obtain ⟨s0, s1⟩ := hS; go_simp; with_reducible rfl
  · simp only [Act.put, List.setIfInBounds_toArray, List.set_cons_zero, List.set_cons_succ]; rfl
  refine seq_take (v := ?_) (a' := ?_) (some 30) rfl rfl (by rfl) ?_ ?_ ?_
  rotate_left; rotate_left
  · intro w' hS; go_simp; with_reducible rfl
  · simp only [Act.put, List.setIfInBounds_toArray, List.set_cons_zero, List.set_cons_succ]; rfl
  refine seq_take (v := ?_) (a' := ?_) (some 31) rfl rfl (by rfl) ?_ ?_ ?_
  rotate_left; rotate_left
  · intro w' hS; go_simp; with_reducible rfl
  · simp only [Act.put, List.setIfInBounds_toArray, List.set_cons_zero, List.set_cons_succ]; rfl
  refine seq_take (v := ?_) (a' := ?_) (some 32) rfl rfl (by rfl) ?_ ?_ ?_
  rotate_left; rotate_left
  · intro w' hS; go_simp; with_reducible rfl
  · simp only [Act.put, List.setIfInBounds_toArray, List.set_cons_zero, List.set_cons_succ]; rfl
  refine seq_store none rfl rfl (by rfl) ?_
  apply Exists.intro; apply And.intro
  · go_simp; first | exact ⟨rfl, rfl⟩ | rfl
  apply Exists.intro; apply And.intro
  · simp only [Act.put, List.setIfInBounds_toArray, List.set_cons_zero, List.set_cons_succ]; rfl
  apply And.intro
  · exact (by first | exact hSC | (go_simp; done))
  refine seq_done ?_
  go_wp2_with fail
  rw [X1.out, X2.out]
  first | with_reducible refine name_wp ?_ | with_reducible refine name_calls ?_
  intro W hWeq
  have g0 : W.heap[w.heap.size]? = some (.cells #[.int .i64 h, .int .u64 l] 57) := by rw [hWeq]; repeat (first | (with_reducible exact blk_newAt _ _ (by simp)) | with_reducible refine blk_drew ?_ | with_reducible refine blk_dN ?_ _ | with_reducible refine blk_old ?_ _)
  have g1 : W.heap[w.heap.size + 1]? = some (.cells #[.int .i64 0, .int .u64 0] 57) := by rw [hWeq]; repeat (first | (with_reducible exact blk_newAt _ _ (by simp)) | with_reducible refine blk_drew ?_ | with_reducible refine blk_dN ?_ _ | with_reducible refine blk_old ?_ _)
  have g2 : W.heap[w.heap.size + 2]? = some (.cells #[.int .i64 H, .int .u64 L] 57) := by rw [hWeq]; repeat (first | (with_reducible exact blk_newAt _ _ (by simp)) | with_reducible refine blk_drew ?_ | with_reducible refine blk_dN ?_ _ | with_reducible refine blk_old ?_ _)
  have hw : Below w.heap.size w W := by rw [hWeq]; repeat (first | with_reducible exact Below.refl _ _ | with_reducible refine Below.drew ?_ | with_reducible refine bl_dN ?_ _ | with_reducible refine Below.alloc ?_ (by simp <;> omega) _)
  clear hWeq
  have hz : w.heap.size + 3 ≤ W.heap.size := by have := blk_lt g2; omega
  have c0_0 : W.cell? ⟨w.heap.size, 0, none⟩ = some (.int .i64 h) := blk_cell g0 0
  have c0_1 : W.cell? ⟨w.heap.size, 1, none⟩ = some (.int .u64 l) := blk_cell g0 1
  have f0 : ∀ j, W.frozen? ⟨w.heap.size, j, none⟩ = false := blk_free g0
  have c1_0 : W.cell? ⟨w.heap.size + 1, 0, none⟩ = some (.int .i64 0) := blk_cell g1 0
  have c1_1 : W.cell? ⟨w.heap.size + 1, 1, none⟩ = some (.int .u64 0) := blk_cell g1 1
  have f1 : ∀ j, W.frozen? ⟨w.heap.size + 1, j, none⟩ = false := blk_free g1
  have c2_0 : W.cell? ⟨w.heap.size + 2, 0, none⟩ = some (.int .i64 H) := blk_cell g2 0
  have c2_1 : W.cell? ⟨w.heap.size + 2, 1, none⟩ = some (.int .u64 L) := blk_cell g2 1
  have f2 : ∀ j, W.frozen? ⟨w.heap.size + 2, j, none⟩ = false := blk_free g2
  have hB : Below W.heap.size W W := Below.refl _ _
  have G0 := Lib.hid g0; clear g0
  have F0 := Lib.hid f0; clear f0
  have G1 := Lib.hid g1; clear g1
  have F1 := Lib.hid f1; clear f1
  have G2 := Lib.hid g2; clear g2
  have F2 := Lib.hid f2; clear f2
  have Hw := Lib.hid hw; clear hw
  by_cases q1 : whi V = h
  · have q2 : ¬ wlo V = l := fun q => n1 ⟨q1, q⟩
    have Q1 := Lib.hid q1; clear q1 n1
    have hB := hB.drew
    refine region_seq (fun w' => Below W.heap.size W w') [(0, true), (1, true), (3, true), (2, false), (4, true)] (by kernel_rfl) (by kernel_rfl) (fun _ _ _ _ h => h) hB ?_
    try generalize World.drew _ = wS at hB ⊢
    refine seq_take (v := ?_) (a' := ?_) (some 40) rfl rfl (by rfl) ?_ ?_ ?_
    rotate_left; rotate_left
    · intro w' hS; have s0_0 := cb hS c0_0; have s0_1 := cb hS c0_1; have s1_0 := cb hS c1_0; have s1_1 := cb hS c1_1; have s2_0 := cb hS c2_0; have s2_1 := cb hS c2_1; go_simp; with_reducible rfl
    · simp only [Act.put, List.setIfInBounds_toArray, List.set_cons_zero, List.set_cons_succ]; rfl
    refine seq_take (v := ?_) (a' := ?_) (some 41) rfl rfl (by rfl) ?_ ?_ ?_
    rotate_left; rotate_left
    · intro w' hS; go_simp; with_reducible rfl
    · simp only [Act.put, List.setIfInBounds_toArray, List.set_cons_zero, List.set_cons_succ]; rfl
    refine seq_take (v := ?_) (a' := ?_) (some 43) rfl rfl (by rfl) ?_ ?_ ?_
    rotate_left; rotate_left
    · intro w' hS; have s0_0 := cb hS c0_0; have s0_1 := cb hS c0_1; have s1_0 := cb hS c1_0; have s1_1 := cb hS c1_1; have s2_0 := cb hS c2_0; have s2_1 := cb hS c2_1; go_simp; with_reducible rfl
    · simp only [Act.put, List.setIfInBounds_toArray, List.set_cons_zero, List.set_cons_succ]; rfl
    refine seq_call (args := ?_) Try.func73 (by kernel_rfl) rfl (some 42) rfl rfl (by rfl) rfl ?_ ?_
    rotate_left
    · simp only [List.map_toArray, List.map_cons, List.map_nil]; go_simp; rfl
    with_reducible refine (bk _).mono ?_
    rintro e w' ⟨rfl, hb⟩
    unfold wideV
    refine ⟨_, rfl, bl_next (by repeat (first | with_reducible exact hB | refine Below.alloc ?_ (by have := hB.size; simp; omega) _ | refine bl_dN ?_ _ | refine Below.drew ?_ | refine Below.setCell ?_ (by have := hB.size; simp; omega) _)) hb, ?_⟩
    have hB := bl_next (by repeat (first | with_reducible exact hB | refine Below.alloc ?_ (by have := hB.size; simp; omega) _ | refine bl_dN ?_ _ | refine Below.drew ?_ | refine Below.setCell ?_ (by have := hB.size; simp; omega) _)) hb; clear hb
    simp only [Act.put, List.setIfInBounds_toArray, List.set_cons_zero, List.set_cons_succ]
    refine seq_take (v := ?_) (a' := ?_) (some 44) rfl rfl (by rfl) ?_ ?_ ?_
    rotate_left; rotate_left
    · intro w' hS; have q1 := Q1.out; go_simp; with_reducible rfl
    · simp only [Act.put, List.setIfInBounds_toArray, List.set_cons_zero, List.set_cons_succ]; rfl
    refine seq_done ?_
    have k0_0 := cb hB c0_0
    have k0_1 := cb hB c0_1
    have k1_0 := cb hB c1_0
    have k1_1 := cb hB c1_1
    have k2_0 := cb hB c2_0
    have k2_1 := cb hB c2_1
    have kz0 : w.heap.size < _ := lt_of_cell k0_0
    have kz1 : w.heap.size + 1 < _ := lt_of_cell k1_0
    have kz2 : w.heap.size + 2 < _ := lt_of_cell k2_0
    have kf0_0 := fb hB (lt_of_cell c0_0) (F0.out 0)
    have kf0_1 := fb hB (lt_of_cell c0_1) (F0.out 1)
    have kf1_0 := fb hB (lt_of_cell c1_0) (F1.out 0)
    have kf1_1 := fb hB (lt_of_cell c1_1) (F1.out 1)
    have kf2_0 := fb hB (lt_of_cell c2_0) (F2.out 0)
    have kf2_1 := fb hB (lt_of_cell c2_1) (F2.out 1)
    go_wp2
    have hw0 := bl_from Hw.out hB
    refine bodyPost_ret (v := .tuple #[.agg #[.int .i64 0, .int .u64 0], .bool false]) (by simp [results, Try.results44, go_sem, k1_0, k1_1]) rfl ⟨rfl, by (repeat (first | exact Below.refl _ _ | exact hw0 | refine Below.setCell ?_ (by first | (simp; done) | (simp; omega)) _ | refine Below.alloc ?_ (by first | (simp; done) | (simp; omega)) _ | refine bl_dN ?_ _ | refine Below.drew ?_))⟩
  · clear n1
    have hB := hB.drew
    refine region_seq (fun w' => Below W.heap.size W w') [(0, true), (1, true), (3, true), (2, false), (4, true)] (by kernel_rfl) (by kernel_rfl) (fun _ _ _ _ h => h) hB ?_
    try generalize World.drew _ = wS at hB ⊢
    refine seq_take (v := ?_) (a' := ?_) (some 40) rfl rfl (by rfl) ?_ ?_ ?_
    rotate_left; rotate_left
    · intro w' hS; have s0_0 := cb hS c0_0; have s0_1 := cb hS c0_1; have s1_0 := cb hS c1_0; have s1_1 := cb hS c1_1; have s2_0 := cb hS c2_0; have s2_1 := cb hS c2_1; go_simp; with_reducible rfl
    · simp only [Act.put, List.setIfInBounds_toArray, List.set_cons_zero, List.set_cons_succ]; rfl
    refine seq_take (v := ?_) (a' := ?_) (some 41) rfl rfl (by rfl) ?_ ?_ ?_
    rotate_left; rotate_left
    · intro w' hS; go_simp; with_reducible rfl
    · simp only [Act.put, List.setIfInBounds_toArray, List.set_cons_zero, List.set_cons_succ]; rfl
    refine seq_take (v := ?_) (a' := ?_) (some 43) rfl rfl (by rfl) ?_ ?_ ?_
    rotate_left; rotate_left
    · intro w' hS; have s0_0 := cb hS c0_0; have s0_1 := cb hS c0_1; have s1_0 := cb hS c1_0; have s1_1 := cb hS c1_1; have s2_0 := cb hS c2_0; have s2_1 := cb hS c2_1; go_simp; with_reducible rfl
    · simp only [Act.put, List.setIfInBounds_toArray, List.set_cons_zero, List.set_cons_succ]; rfl
    refine seq_call (args := ?_) Try.func73 (by kernel_rfl) rfl (some 42) rfl rfl (by rfl) rfl ?_ ?_
    rotate_left
    · simp only [List.map_toArray, List.map_cons, List.map_nil]; go_simp; rfl
    with_reducible refine (bk _).mono ?_
    rintro e w' ⟨rfl, hb⟩
    unfold wideV
    refine ⟨_, rfl, bl_next (by repeat (first | with_reducible exact hB | refine Below.alloc ?_ (by have := hB.size; simp; omega) _ | refine bl_dN ?_ _ | refine Below.drew ?_ | refine Below.setCell ?_ (by have := hB.size; simp; omega) _)) hb, ?_⟩
    have hB := bl_next (by repeat (first | with_reducible exact hB | refine Below.alloc ?_ (by have := hB.size; simp; omega) _ | refine bl_dN ?_ _ | refine Below.drew ?_ | refine Below.setCell ?_ (by have := hB.size; simp; omega) _)) hb; clear hb
    simp only [Act.put, List.setIfInBounds_toArray, List.set_cons_zero, List.set_cons_succ]
    refine seq_take (v := ?_) (a' := ?_) (some 44) rfl rfl (by rfl) ?_ ?_ ?_
    rotate_left; rotate_left
    · intro w' hS; go_simp; with_reducible rfl
    · simp only [Act.put, List.setIfInBounds_toArray, List.set_cons_zero, List.set_cons_succ]; rfl
    refine seq_done ?_
    have k0_0 := cb hB c0_0
    have k0_1 := cb hB c0_1
    have k1_0 := cb hB c1_0
    have k1_1 := cb hB c1_1
    have k2_0 := cb hB c2_0
    have k2_1 := cb hB c2_1
    have kz0 : w.heap.size < _ := lt_of_cell k0_0
    have kz1 : w.heap.size + 1 < _ := lt_of_cell k1_0
    have kz2 : w.heap.size + 2 < _ := lt_of_cell k2_0
    have kf0_0 := fb hB (lt_of_cell c0_0) (F0.out 0)
    have kf0_1 := fb hB (lt_of_cell c0_1) (F0.out 1)
    have kf1_0 := fb hB (lt_of_cell c1_0) (F1.out 0)
    have kf1_1 := fb hB (lt_of_cell c1_1) (F1.out 1)
    have kf2_0 := fb hB (lt_of_cell c2_0) (F2.out 0)
    have kf2_1 := fb hB (lt_of_cell c2_1) (F2.out 1)
    go_wp2
    have hw0 := bl_from Hw.out hB
    refine bodyPost_ret (v := .tuple #[.agg #[.int .i64 0, .int .u64 0], .bool false]) (by simp [results, Try.results44, go_sem, k1_0, k1_1]) rfl ⟨rfl, by (repeat (first | exact Below.refl _ _ | exact hw0 | refine Below.setCell ?_ (by first | (simp; done) | (simp; omega)) _ | refine Below.alloc ?_ (by first | (simp; done) | (simp; omega)) _ | refine bl_dN ?_ _ | refine Below.drew ?_))⟩
theorem wshift_calls (h l n : Int) (w : World) (k : WOk h l) :
    Calls Try.prog 44 #[.agg #[.int .i64 h, .int .u64 l], .int .i64 n] w fun e w' => e = .returned (shiftRes (wval h l) n) ∧ Below w.heap.size w w' := by
  by_cases c0 : n < 0
  · rw [shiftRes, if_neg (by omega)]; exact wshift_neg h l n w c0
  by_cases c2 : 128 ≤ n
  · rw [shiftRes, if_neg (by omega)]; exact wshift_big h l n w c0 c2
  obtain ⟨m, rfl⟩ := Int.eq_ofNat_of_zero_le (show 0 ≤ n by omega)
  rw [shiftRes, if_pos (by omega), Int.toNat_natCast]
  have c3 : m < 128 := by omega
  by_cases y : wIn (wval h l * 2 ^ m) = true
  · obtain ⟨y1, y2⟩ := shift_yes k y
    have kk := WOk.of_in y
    rw [wideRes, if_pos y]
    by_cases c : 64 ≤ m
    · obtain ⟨x1, x2⟩ := shift_hi k c
      rw [← x2] at y2 kk ⊢
      exact wshift_hi_yes h l m w c c3 _ (x1.trans y1) kk y2
    · obtain ⟨x1, x2⟩ := shift_lo k c
      exact wshift_lo_yes h l m w c c3 _ _ ((i64w_eq _).trans (x1.trans y1)) x2 kk y2
  · have y' : wIn (wval h l * 2 ^ m) = false := by simpa using y
    have n1 := shift_no k c3 y'
    have kk : WOk (wrap64 (whi (wval h l * 2 ^ m))) (wlo (wval h l * 2 ^ m)) := ⟨by rw [wrap64_eq]; omega, by rw [wrap64_eq]; omega, by unfold wlo; omega, by unfold wlo; omega⟩
    rw [wideRes, if_neg y]
    by_cases c : 64 ≤ m
    · obtain ⟨x1, x2⟩ := shift_hi k c
      rw [← x2] at n1 kk
      exact wshift_hi_no h l m w c c3 _ x1 _ (fun w => wback_calls _ _ _ _ kk c3) n1
    · obtain ⟨x1, x2⟩ := shift_lo k c
      exact wshift_lo_no h l m w c c3 _ _ ((i64w_eq _).trans x1) x2 _ (fun w => wback_calls _ _ _ _ kk c3) n1
end Go.Proofs.Ytdcceaafiammfaa
