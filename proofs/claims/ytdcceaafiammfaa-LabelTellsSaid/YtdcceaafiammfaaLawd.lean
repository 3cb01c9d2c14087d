import Derived.Test.YtdcceaafiammfaaLawc
namespace Go.Proofs.Ytdcceaafiammfaa
open Go.RowKit
set_option linter.unusedSimpArgs false
set_option linter.unusedVariables false
theorem refRightB_calls (s : ByteArray) (w : World) (hs : s.size ≤ 1073741824000) :
    Calls Try.prog 31 #[.string s] w fun e w' => e = .returned (.bool (rightB s)) ∧ Below w.heap.size w w' :=
  (refRight_calls s w hs).mono fun _ _ h => ⟨h.1, dn_below h.2⟩
set_option maxHeartbeats 8000000 in
set_option maxRecDepth 100000 in
theorem labelTellsWalk (s : ByteArray) (u : Value) {W : World} (hu : kStr.K W anyB s [u]) (y : Key × Key) (c : List Value) (h : (kPair kKey kKey).K W anyB y c) : Calls Try.prog 6 #[u, .agg c.toArray] W fun e w' => e = .returned (.bool true) ∧ Below W.heap.size W w' := by
  obtain ⟨ka, kb⟩ := y
  obtain ⟨c0, c1, rfl, h0, h2⟩ := h
  rw [kKey_cs h0, kKey_cs h2]
  clear h0 h2
  obtain rfl : u = .string s := by simpa [kStr, kOne] using hu
  clear hu
  obtain ⟨w, rfl⟩ : ∃ w, w = W := ⟨_, rfl⟩
  go_enter Try.func6, Try.ntmps6
  go_wp2_with fail
  first | with_reducible refine name_wp ?_ | with_reducible refine name_calls ?_
  intro W hWeq
  have g0 : W.heap[w.heap.size]? = some (.cells #[.string ka.k, .string ka.s, .string ka.n, .string kb.k, .string kb.s, .string kb.n] 44) := by rw [hWeq]; repeat (first | (with_reducible exact blk_newAt _ _ (by simp)) | refine blk_old ?_ _ | refine blk_dN ?_ _ | refine blk_drew ?_)
  have hw : Below w.heap.size w W := by rw [hWeq]; repeat (first | with_reducible exact Below.refl _ _ | refine Below.alloc ?_ (by simp) _ | refine bl_dN ?_ _ | refine Below.drew ?_)
  clear hWeq
  have hz : w.heap.size + 1 ≤ W.heap.size := by have := blk_lt g0; omega
  have c0_0 : W.cell? ⟨w.heap.size, 0, none⟩ = some (.string ka.k) := blk_cell g0 0
  have c0_1 : W.cell? ⟨w.heap.size, 1, none⟩ = some (.string ka.s) := blk_cell g0 1
  have c0_2 : W.cell? ⟨w.heap.size, 2, none⟩ = some (.string ka.n) := blk_cell g0 2
  have c0_3 : W.cell? ⟨w.heap.size, 3, none⟩ = some (.string kb.k) := blk_cell g0 3
  have c0_4 : W.cell? ⟨w.heap.size, 4, none⟩ = some (.string kb.s) := blk_cell g0 4
  have c0_5 : W.cell? ⟨w.heap.size, 5, none⟩ = some (.string kb.n) := blk_cell g0 5
  have f0 : ∀ j, W.frozen? ⟨w.heap.size, j, none⟩ = false := blk_free g0
  have hB : Below W.heap.size W W := Below.refl _ _
  have G0 := Lib.hid g0; clear g0
  have F0 := Lib.hid f0; clear f0
  have Hw := Lib.hid hw; clear hw
  generalize hs : shortB ka.k ka.s ka.n = sh
  have HS := Lib.hid hs; clear hs
  generalize hs2 : shortB kb.k kb.s kb.n = sh2
  have HS2 := Lib.hid hs2; clear hs2
  by_cases hl : s.size ≤ 200 ∧ sh = true ∧ sh2 = true
  · obtain ⟨hl, rfl, rfl⟩ := hl
    have hz1 := Key.short_sz (x := ka) HS.out
    have hz2 := Key.short_sz (x := kb) HS2.out
    go_wp2_with (first | (go_at_call 26; refine (short_calls _ _ _ _).mono ?_; rintro e w' ⟨rfl, hb⟩; (first | rw [HS.out] | rw [HS2.out]); have hB := bl_next (by repeat (first | with_reducible exact hB | refine Below.alloc ?_ (by have := hB.size; simp; omega) _ | refine bl_dN ?_ _ | refine Below.drew ?_ | refine Below.setCell ?_ (by have := hB.size; simp; omega) _)) hb; clear hb; have k0_0 := cb hB c0_0; have k0_1 := cb hB c0_1; have k0_2 := cb hB c0_2; have k0_3 := cb hB c0_3; have k0_4 := cb hB c0_4; have k0_5 := cb hB c0_5; have kz0 : w.heap.size < _ := lt_of_cell k0_0))
    cases hq : parseOk s with
    | true =>
      have HP2 := Lib.hid (pv_of hq); clear hq
      go_wp2_with (first | (go_at_call 28; refine (parse_calls s _ (by omega)).mono ?_; rintro e w1 ⟨rfl, hb⟩; rw [HP2.out]; have hB := bl_next (by repeat (first | with_reducible exact hB | refine Below.alloc ?_ (by have := hB.size; simp; omega) _ | refine bl_dN ?_ _ | refine Below.drew ?_ | refine Below.setCell ?_ (by have := hB.size; simp; omega) _)) hb; clear hb; have k0_0 := cb hB c0_0; have k0_1 := cb hB c0_1; have k0_2 := cb hB c0_2; have k0_3 := cb hB c0_3; have k0_4 := cb hB c0_4; have k0_5 := cb hB c0_5; have kz0 : w.heap.size < _ := lt_of_cell k0_0))
      first | with_reducible refine name_wp ?_ | with_reducible refine name_calls ?_
      intro V hWeq
      have g1 : V.heap[w1.heap.size]? = some (.cells #[.string (pK s), .string (pS s), .string (pN s)] 35) := by rw [hWeq]; repeat (first | (with_reducible exact blk_newAt _ _ (by simp)) | refine blk_old ?_ _ | refine blk_dN ?_ _ | refine blk_drew ?_)
      have hWW : Below W.heap.size W V := by rw [hWeq]; exact (by repeat (first | with_reducible exact hB | refine Below.alloc ?_ (by have := hB.size; simp; omega) _ | refine bl_dN ?_ _ | refine Below.drew ?_ | refine Below.setCell ?_ (by have := hB.size; simp; omega) _))
      have hw := bl_from Hw.out hWW
      clear Hw
      have c0_0 := cb hWW c0_0
      have c0_1 := cb hWW c0_1
      have c0_2 := cb hWW c0_2
      have c0_3 := cb hWW c0_3
      have c0_4 := cb hWW c0_4
      have c0_5 := cb hWW c0_5
      have hz : W.heap.size ≤ V.heap.size := hWW.size
      clear hWW hz
      clear hWeq
      have hz : w1.heap.size + 1 ≤ V.heap.size := by have := blk_lt g1; omega
      have c1_0 : V.cell? ⟨w1.heap.size, 0, none⟩ = some (.string (pK s)) := blk_cell g1 0
      have c1_1 : V.cell? ⟨w1.heap.size, 1, none⟩ = some (.string (pS s)) := blk_cell g1 1
      have c1_2 : V.cell? ⟨w1.heap.size, 2, none⟩ = some (.string (pN s)) := blk_cell g1 2
      have f1 : ∀ j, V.frozen? ⟨w1.heap.size, j, none⟩ = false := blk_free g1
      have hB : Below V.heap.size V V := Below.refl _ _
      have G1 := Lib.hid g1; clear g1
      have F1 := Lib.hid f1; clear f1
      have Hw := Lib.hid hw; clear hw
      have kz0 : w.heap.size < V.heap.size := lt_of_cell c0_0
      have kz1 : w1.heap.size < V.heap.size := lt_of_cell c1_0
      go_wp2_with (first | (go_at_call 29; refine (refParse_calls s _ (by omega)).mono ?_; rintro e w2 ⟨rfl, hb⟩; rw [HP2.out]; have hB := bl_next (by repeat (first | with_reducible exact hB | refine Below.alloc ?_ (by have := hB.size; simp; omega) _ | refine bl_dN ?_ _ | refine Below.drew ?_ | refine Below.setCell ?_ (by have := hB.size; simp; omega) _)) hb; clear hb; have k0_0 := cb hB c0_0; have k0_1 := cb hB c0_1; have k0_2 := cb hB c0_2; have k0_3 := cb hB c0_3; have k0_4 := cb hB c0_4; have k0_5 := cb hB c0_5; have k1_0 := cb hB c1_0; have k1_1 := cb hB c1_1; have k1_2 := cb hB c1_2; have kz0 : w.heap.size < _ := lt_of_cell k0_0; have kz1 : w1.heap.size < _ := lt_of_cell k1_0))
      first | with_reducible refine name_wp ?_ | with_reducible refine name_calls ?_
      intro V2 hWeq
      have g2 : V2.heap[w2.heap.size]? = some (.cells #[.string (pK s), .string (pS s), .string (pN s)] 35) := by rw [hWeq]; repeat (first | (with_reducible exact blk_newAt _ _ (by simp)) | refine blk_old ?_ _ | refine blk_dN ?_ _ | refine blk_drew ?_)
      have hWW : Below V.heap.size V V2 := by rw [hWeq]; exact (by repeat (first | with_reducible exact hB | refine Below.alloc ?_ (by have := hB.size; simp; omega) _ | refine bl_dN ?_ _ | refine Below.drew ?_ | refine Below.setCell ?_ (by have := hB.size; simp; omega) _))
      have hw := bl_from Hw.out hWW
      clear Hw
      have c0_0 := cb hWW c0_0
      have c0_1 := cb hWW c0_1
      have c0_2 := cb hWW c0_2
      have c0_3 := cb hWW c0_3
      have c0_4 := cb hWW c0_4
      have c0_5 := cb hWW c0_5
      have c1_0 := cb hWW c1_0
      have c1_1 := cb hWW c1_1
      have c1_2 := cb hWW c1_2
      have hz : V.heap.size ≤ V2.heap.size := hWW.size
      clear hWW hz
      clear hWeq
      have hz : w2.heap.size + 1 ≤ V2.heap.size := by have := blk_lt g2; omega
      have c2_0 : V2.cell? ⟨w2.heap.size, 0, none⟩ = some (.string (pK s)) := blk_cell g2 0
      have c2_1 : V2.cell? ⟨w2.heap.size, 1, none⟩ = some (.string (pS s)) := blk_cell g2 1
      have c2_2 : V2.cell? ⟨w2.heap.size, 2, none⟩ = some (.string (pN s)) := blk_cell g2 2
      have f2 : ∀ j, V2.frozen? ⟨w2.heap.size, j, none⟩ = false := blk_free g2
      have hB : Below V2.heap.size V2 V2 := Below.refl _ _
      have G2 := Lib.hid g2; clear g2
      have F2 := Lib.hid f2; clear f2
      have Hw := Lib.hid hw; clear hw
      have kz0 : w.heap.size < V2.heap.size := lt_of_cell c0_0
      have kz1 : w1.heap.size < V2.heap.size := lt_of_cell c1_0
      have kz2 : w2.heap.size < V2.heap.size := lt_of_cell c2_0
      have hB := hB.drew
      refine region_seq (fun w' => Below V2.heap.size V2 w') [(0, true), (2, true), (1, false), (3, false), (4, true), (5, true), (6, true), (7, true), (9, true), (10, true), (8, false), (11, false), (12, true), (13, true), (14, true), (15, true), (16, true), (18, true), (19, true), (17, false), (20, false), (21, true), (22, true), (23, true)] (by kernel_rfl) (by kernel_rfl) (fun _ _ _ _ h => h) hB ?_
      try generalize World.drew _ = wS at hB ⊢
      refine seq_take (v := ?_) (a' := ?_) (some 40) rfl rfl (by rfl) ?_ ?_ ?_
      rotate_left; rotate_left
      · intro w' hS; go_simp; with_reducible rfl
      · simp only [Act.put, List.setIfInBounds_toArray, List.set_cons_zero, List.set_cons_succ]; rfl
      refine seq_take (v := ?_) (a' := ?_) (some 42) rfl rfl (by rfl) ?_ ?_ ?_
      rotate_left; rotate_left
      · intro w' hS; go_simp; with_reducible rfl
      · simp only [Act.put, List.setIfInBounds_toArray, List.set_cons_zero, List.set_cons_succ]; rfl
      refine seq_call (args := ?_) Try.func30 (by kernel_rfl) rfl (some 41) rfl rfl (by rfl) rfl ?_ ?_
      rotate_left
      · simp only [List.map_toArray, List.map_cons, List.map_nil]; go_simp; rfl
      with_reducible refine (right_calls _ _ (by omega)).mono ?_
      rintro e w' ⟨rfl, hb⟩
      refine ⟨_, rfl, bl_next hB hb, ?_⟩
      have hB := bl_next hB hb; clear hb
      simp only [Act.put, List.setIfInBounds_toArray, List.set_cons_zero, List.set_cons_succ]
      refine seq_call (args := ?_) Try.func31 (by kernel_rfl) rfl (some 43) rfl rfl (by rfl) rfl ?_ ?_
      rotate_left
      · simp only [List.map_toArray, List.map_cons, List.map_nil]; go_simp; rfl
      with_reducible refine (refRightB_calls _ _ (by omega)).mono ?_
      rintro e w' ⟨rfl, hb⟩
      refine ⟨_, rfl, bl_next hB hb, ?_⟩
      have hB := bl_next hB hb; clear hb
      simp only [Act.put, List.setIfInBounds_toArray, List.set_cons_zero, List.set_cons_succ]
      refine seq_take (v := ?_) (a' := ?_) (some 44) rfl rfl (by rfl) ?_ ?_ ?_
      rotate_left; rotate_left
      · intro w' hS; go_simp; with_reducible rfl
      · simp only [Act.put, List.setIfInBounds_toArray, List.set_cons_zero, List.set_cons_succ]; rfl
      refine seq_take (v := ?_) (a' := ?_) (some 45) rfl rfl (by rfl) ?_ ?_ ?_
      rotate_left; rotate_left
      · intro w' hS; go_simp; with_reducible rfl
      · simp only [Act.put, List.setIfInBounds_toArray, List.set_cons_zero, List.set_cons_succ]; rfl
      refine seq_take (v := ?_) (a' := ?_) (some 46) rfl rfl (by rfl) ?_ ?_ ?_
      rotate_left; rotate_left
      · intro w' hS; go_simp; with_reducible rfl
      · simp only [Act.put, List.setIfInBounds_toArray, List.set_cons_zero, List.set_cons_succ]; rfl
      refine seq_take (v := ?_) (a' := ?_) (some 47) rfl rfl (by rfl) ?_ ?_ ?_
      rotate_left; rotate_left
      · intro w' hS; have s0_0 := cb hS c0_0; have s0_1 := cb hS c0_1; have s0_2 := cb hS c0_2; have s0_3 := cb hS c0_3; have s0_4 := cb hS c0_4; have s0_5 := cb hS c0_5; have s1_0 := cb hS c1_0; have s1_1 := cb hS c1_1; have s1_2 := cb hS c1_2; have s2_0 := cb hS c2_0; have s2_1 := cb hS c2_1; have s2_2 := cb hS c2_2; go_simp; with_reducible rfl
      · simp only [Act.put, List.setIfInBounds_toArray, List.set_cons_zero, List.set_cons_succ]; rfl
      refine seq_take (v := ?_) (a' := ?_) (some 49) rfl rfl (by rfl) ?_ ?_ ?_
      rotate_left; rotate_left
      · intro w' hS; go_simp; with_reducible rfl
      · simp only [Act.put, List.setIfInBounds_toArray, List.set_cons_zero, List.set_cons_succ]; rfl
      refine seq_take (v := ?_) (a' := ?_) (some 50) rfl rfl (by rfl) ?_ ?_ ?_
      rotate_left; rotate_left
      · intro w' hS; have s0_0 := cb hS c0_0; have s0_1 := cb hS c0_1; have s0_2 := cb hS c0_2; have s0_3 := cb hS c0_3; have s0_4 := cb hS c0_4; have s0_5 := cb hS c0_5; have s1_0 := cb hS c1_0; have s1_1 := cb hS c1_1; have s1_2 := cb hS c1_2; have s2_0 := cb hS c2_0; have s2_1 := cb hS c2_1; have s2_2 := cb hS c2_2; go_simp; with_reducible rfl
      · simp only [Act.put, List.setIfInBounds_toArray, List.set_cons_zero, List.set_cons_succ]; rfl
      refine seq_call (args := ?_) Try.func32 (by kernel_rfl) rfl (some 48) rfl rfl (by rfl) rfl ?_ ?_
      rotate_left
      · simp only [List.map_toArray, List.map_cons, List.map_nil]; go_simp; rfl
      with_reducible refine (key_calls _ _ _ _ (by omega) (by omega) (by omega)).mono ?_
      rintro e w' ⟨rfl, hb⟩
      refine ⟨_, rfl, bl_next hB hb, ?_⟩
      have hB := bl_next hB hb; clear hb
      simp only [Act.put, List.setIfInBounds_toArray, List.set_cons_zero, List.set_cons_succ]
      refine seq_call (args := ?_) Try.func33 (by kernel_rfl) rfl (some 51) rfl rfl (by rfl) rfl ?_ ?_
      rotate_left
      · simp only [List.map_toArray, List.map_cons, List.map_nil]; go_simp; rfl
      with_reducible refine (refKey_calls _ _ _ _ (by omega) (by omega) (by omega)).mono ?_
      rintro e w' ⟨rfl, hb⟩
      refine ⟨_, rfl, bl_next hB hb, ?_⟩
      have hB := bl_next hB hb; clear hb
      simp only [Act.put, List.setIfInBounds_toArray, List.set_cons_zero, List.set_cons_succ]
      refine seq_take (v := ?_) (a' := ?_) (some 52) rfl rfl (by rfl) ?_ ?_ ?_
      rotate_left; rotate_left
      · intro w' hS; go_simp; with_reducible rfl
      · simp only [Act.put, List.setIfInBounds_toArray, List.set_cons_zero, List.set_cons_succ]; rfl
      refine seq_take (v := ?_) (a' := ?_) (some 53) rfl rfl (by rfl) ?_ ?_ ?_
      rotate_left; rotate_left
      · intro w' hS; go_simp; with_reducible rfl
      · simp only [Act.put, List.setIfInBounds_toArray, List.set_cons_zero, List.set_cons_succ]; rfl
      refine seq_take (v := ?_) (a' := ?_) (some 54) rfl rfl (by rfl) ?_ ?_ ?_
      rotate_left; rotate_left
      · intro w' hS; go_simp; with_reducible rfl
      · simp only [Act.put, List.setIfInBounds_toArray, List.set_cons_zero, List.set_cons_succ]; rfl
      refine seq_take (v := ?_) (a' := ?_) (some 55) rfl rfl (by rfl) ?_ ?_ ?_
      rotate_left; rotate_left
      · intro w' hS; go_simp; with_reducible rfl
      · simp only [Act.put, List.setIfInBounds_toArray, List.set_cons_zero, List.set_cons_succ]; rfl
      refine seq_take (v := ?_) (a' := ?_) (some 56) rfl rfl (by rfl) ?_ ?_ ?_
      rotate_left; rotate_left
      · intro w' hS; have s0_0 := cb hS c0_0; have s0_1 := cb hS c0_1; have s0_2 := cb hS c0_2; have s0_3 := cb hS c0_3; have s0_4 := cb hS c0_4; have s0_5 := cb hS c0_5; have s1_0 := cb hS c1_0; have s1_1 := cb hS c1_1; have s1_2 := cb hS c1_2; have s2_0 := cb hS c2_0; have s2_1 := cb hS c2_1; have s2_2 := cb hS c2_2; go_simp; with_reducible rfl
      · simp only [Act.put, List.setIfInBounds_toArray, List.set_cons_zero, List.set_cons_succ]; rfl
      refine seq_take (v := ?_) (a' := ?_) (some 58) rfl rfl (by rfl) ?_ ?_ ?_
      rotate_left; rotate_left
      · intro w' hS; go_simp; with_reducible rfl
      · simp only [Act.put, List.setIfInBounds_toArray, List.set_cons_zero, List.set_cons_succ]; rfl
      refine seq_take (v := ?_) (a' := ?_) (some 59) rfl rfl (by rfl) ?_ ?_ ?_
      rotate_left; rotate_left
      · intro w' hS; have s0_0 := cb hS c0_0; have s0_1 := cb hS c0_1; have s0_2 := cb hS c0_2; have s0_3 := cb hS c0_3; have s0_4 := cb hS c0_4; have s0_5 := cb hS c0_5; have s1_0 := cb hS c1_0; have s1_1 := cb hS c1_1; have s1_2 := cb hS c1_2; have s2_0 := cb hS c2_0; have s2_1 := cb hS c2_1; have s2_2 := cb hS c2_2; go_simp; with_reducible rfl
      · simp only [Act.put, List.setIfInBounds_toArray, List.set_cons_zero, List.set_cons_succ]; rfl
      refine seq_call (args := ?_) Try.func34 (by kernel_rfl) rfl (some 57) rfl rfl (by rfl) rfl ?_ ?_
      rotate_left
      · simp only [List.map_toArray, List.map_cons, List.map_nil]; go_simp; rfl
      with_reducible refine (textK_calls _ _ _ _ (by omega) (by omega) (by omega)).mono ?_
      rintro e w' ⟨rfl, hb⟩
      refine ⟨_, rfl, bl_next hB hb, ?_⟩
      have hB := bl_next hB hb; clear hb
      simp only [Act.put, List.setIfInBounds_toArray, List.set_cons_zero, List.set_cons_succ]
      refine seq_call (args := ?_) Try.func35 (by kernel_rfl) rfl (some 60) rfl rfl (by rfl) rfl ?_ ?_
      rotate_left
      · simp only [List.map_toArray, List.map_cons, List.map_nil]; go_simp; rfl
      with_reducible refine (refText_calls _ _ _ _ (by omega) (by omega) (by omega)).mono ?_
      rintro e w' ⟨rfl, hb⟩
      refine ⟨_, rfl, bl_next hB hb, ?_⟩
      have hB := bl_next hB hb; clear hb
      simp only [Act.put, List.setIfInBounds_toArray, List.set_cons_zero, List.set_cons_succ]
      refine seq_take (v := ?_) (a' := ?_) (some 61) rfl rfl (by rfl) ?_ ?_ ?_
      rotate_left; rotate_left
      · intro w' hS; go_simp; with_reducible rfl
      · simp only [Act.put, List.setIfInBounds_toArray, List.set_cons_zero, List.set_cons_succ]; rfl
      refine seq_take (v := ?_) (a' := ?_) (some 62) rfl rfl (by rfl) ?_ ?_ ?_
      rotate_left; rotate_left
      · intro w' hS; go_simp; with_reducible rfl
      · simp only [Act.put, List.setIfInBounds_toArray, List.set_cons_zero, List.set_cons_succ]; rfl
      refine seq_take (v := ?_) (a' := ?_) (some 11) rfl rfl (by rfl) ?_ ?_ ?_
      rotate_left; rotate_left
      · intro w' hS; go_simp; with_reducible rfl
      · simp only [Act.put, List.setIfInBounds_toArray, List.set_cons_zero, List.set_cons_succ]; rfl
      refine seq_done ?_
      go_wp2_with fail
      have hB := hB.drew
      refine region_seq (fun w' => Below V2.heap.size V2 w') [(0, false), (1, true), (2, true), (3, true), (4, true), (5, true), (6, true), (7, true), (8, true), (9, true), (10, true), (11, true), (12, true), (13, true), (14, true), (15, true), (16, true), (17, true), (18, true), (20, true), (21, true), (22, true), (23, true), (19, false), (24, false), (25, true), (26, true), (27, true)] (by kernel_rfl) (by kernel_rfl) (fun _ _ _ _ h => h) hB ?_
      try generalize World.drew _ = wS at hB ⊢
      refine seq_call (args := ?_) Try.func27 (by kernel_rfl) rfl (some 63) rfl rfl (by rfl) rfl ?_ ?_
      rotate_left
      · simp only [List.map_toArray, List.map_cons, List.map_nil]; go_simp; rfl
      with_reducible refine (alive1_calls _).mono ?_
      rintro e w' ⟨rfl, hb⟩
      refine ⟨_, rfl, bl_next hB hb, ?_⟩
      have hB := bl_next hB hb; clear hb
      simp only [Act.put, List.setIfInBounds_toArray, List.set_cons_zero, List.set_cons_succ]
      refine seq_take (v := ?_) (a' := ?_) (some 64) rfl rfl (by rfl) ?_ ?_ ?_
      rotate_left; rotate_left
      · intro w' hS; go_simp; with_reducible rfl
      · simp only [Act.put, List.setIfInBounds_toArray, List.set_cons_zero, List.set_cons_succ]; rfl
      refine seq_take (v := ?_) (a' := ?_) (some 65) rfl rfl (by rfl) ?_ ?_ ?_
      rotate_left; rotate_left
      · intro w' hS; go_simp; with_reducible rfl
      · simp only [Act.put, List.setIfInBounds_toArray, List.set_cons_zero, List.set_cons_succ]; rfl
      refine seq_take (v := ?_) (a' := ?_) (some 66) rfl rfl (by rfl) ?_ ?_ ?_
      rotate_left; rotate_left
      · intro w' hS; go_simp; with_reducible rfl
      · simp only [Act.put, List.setIfInBounds_toArray, List.set_cons_zero, List.set_cons_succ]; rfl
      refine seq_take (v := ?_) (a' := ?_) (some 67) rfl rfl (by rfl) ?_ ?_ ?_
      rotate_left; rotate_left
      · intro w' hS; go_simp; with_reducible rfl
      · simp only [Act.put, List.setIfInBounds_toArray, List.set_cons_zero, List.set_cons_succ]; rfl
      refine seq_take (v := ?_) (a' := ?_) (some 68) rfl rfl (by rfl) ?_ ?_ ?_
      rotate_left; rotate_left
      · intro w' hS; have s0_0 := cb hS c0_0; have s0_1 := cb hS c0_1; have s0_2 := cb hS c0_2; have s0_3 := cb hS c0_3; have s0_4 := cb hS c0_4; have s0_5 := cb hS c0_5; have s1_0 := cb hS c1_0; have s1_1 := cb hS c1_1; have s1_2 := cb hS c1_2; have s2_0 := cb hS c2_0; have s2_1 := cb hS c2_1; have s2_2 := cb hS c2_2; go_simp; with_reducible rfl
      · simp only [Act.put, List.setIfInBounds_toArray, List.set_cons_zero, List.set_cons_succ]; rfl
      refine seq_take (v := ?_) (a' := ?_) (some 69) rfl rfl (by rfl) ?_ ?_ ?_
      rotate_left; rotate_left
      · intro w' hS; have s0_0 := cb hS c0_0; have s0_1 := cb hS c0_1; have s0_2 := cb hS c0_2; have s0_3 := cb hS c0_3; have s0_4 := cb hS c0_4; have s0_5 := cb hS c0_5; have s1_0 := cb hS c1_0; have s1_1 := cb hS c1_1; have s1_2 := cb hS c1_2; have s2_0 := cb hS c2_0; have s2_1 := cb hS c2_1; have s2_2 := cb hS c2_2; go_simp; with_reducible rfl
      · simp only [Act.put, List.setIfInBounds_toArray, List.set_cons_zero, List.set_cons_succ]; rfl
      refine seq_take (v := ?_) (a' := ?_) (some 70) rfl rfl (by rfl) ?_ ?_ ?_
      rotate_left; rotate_left
      · intro w' hS; go_simp; with_reducible rfl
      · simp only [Act.put, List.setIfInBounds_toArray, List.set_cons_zero, List.set_cons_succ]; rfl
      refine seq_take (v := ?_) (a' := ?_) (some 71) rfl rfl (by rfl) ?_ ?_ ?_
      rotate_left; rotate_left
      · intro w' hS; go_simp; with_reducible rfl
      · simp only [Act.put, List.setIfInBounds_toArray, List.set_cons_zero, List.set_cons_succ]; rfl
      refine seq_take (v := ?_) (a' := ?_) (some 72) rfl rfl (by rfl) ?_ ?_ ?_
      rotate_left; rotate_left
      · intro w' hS; go_simp; with_reducible rfl
      · simp only [Act.put, List.setIfInBounds_toArray, List.set_cons_zero, List.set_cons_succ]; rfl
      refine seq_take (v := ?_) (a' := ?_) (some 73) rfl rfl (by rfl) ?_ ?_ ?_
      rotate_left; rotate_left
      · intro w' hS; go_simp; with_reducible rfl
      · simp only [Act.put, List.setIfInBounds_toArray, List.set_cons_zero, List.set_cons_succ]; rfl
      refine seq_take (v := ?_) (a' := ?_) (some 74) rfl rfl (by rfl) ?_ ?_ ?_
      rotate_left; rotate_left
      · intro w' hS; go_simp; with_reducible rfl
      · simp only [Act.put, List.setIfInBounds_toArray, List.set_cons_zero, List.set_cons_succ]; rfl
      refine seq_take (v := ?_) (a' := ?_) (some 75) rfl rfl (by rfl) ?_ ?_ ?_
      rotate_left; rotate_left
      · intro w' hS; go_simp; with_reducible rfl
      · simp only [Act.put, List.setIfInBounds_toArray, List.set_cons_zero, List.set_cons_succ]; rfl
      refine seq_take (v := ?_) (a' := ?_) (some 76) rfl rfl (by rfl) ?_ ?_ ?_
      rotate_left; rotate_left
      · intro w' hS; go_simp; with_reducible rfl
      · simp only [Act.put, List.setIfInBounds_toArray, List.set_cons_zero, List.set_cons_succ]; rfl
      refine seq_take (v := ?_) (a' := ?_) (some 77) rfl rfl (by rfl) ?_ ?_ ?_
      rotate_left; rotate_left
      · intro w' hS; go_simp; with_reducible rfl
      · simp only [Act.put, List.setIfInBounds_toArray, List.set_cons_zero, List.set_cons_succ]; rfl
      refine seq_take (v := ?_) (a' := ?_) (some 78) rfl rfl (by rfl) ?_ ?_ ?_
      rotate_left; rotate_left
      · intro w' hS; go_simp; with_reducible rfl
      · simp only [Act.put, List.setIfInBounds_toArray, List.set_cons_zero, List.set_cons_succ]; rfl
      refine seq_take (v := ?_) (a' := ?_) (some 79) rfl rfl (by rfl) ?_ ?_ ?_
      rotate_left; rotate_left
      · intro w' hS; have s0_0 := cb hS c0_0; have s0_1 := cb hS c0_1; have s0_2 := cb hS c0_2; have s0_3 := cb hS c0_3; have s0_4 := cb hS c0_4; have s0_5 := cb hS c0_5; have s1_0 := cb hS c1_0; have s1_1 := cb hS c1_1; have s1_2 := cb hS c1_2; have s2_0 := cb hS c2_0; have s2_1 := cb hS c2_1; have s2_2 := cb hS c2_2; go_simp; with_reducible rfl
      · simp only [Act.put, List.setIfInBounds_toArray, List.set_cons_zero, List.set_cons_succ]; rfl
      refine seq_take (v := ?_) (a' := ?_) (some 80) rfl rfl (by rfl) ?_ ?_ ?_
      rotate_left; rotate_left
      · intro w' hS; go_simp; with_reducible rfl
      · simp only [Act.put, List.setIfInBounds_toArray, List.set_cons_zero, List.set_cons_succ]; rfl
      refine seq_take (v := ?_) (a' := ?_) (some 81) rfl rfl (by rfl) ?_ ?_ ?_
      rotate_left; rotate_left
      · intro w' hS; have s0_0 := cb hS c0_0; have s0_1 := cb hS c0_1; have s0_2 := cb hS c0_2; have s0_3 := cb hS c0_3; have s0_4 := cb hS c0_4; have s0_5 := cb hS c0_5; have s1_0 := cb hS c1_0; have s1_1 := cb hS c1_1; have s1_2 := cb hS c1_2; have s2_0 := cb hS c2_0; have s2_1 := cb hS c2_1; have s2_2 := cb hS c2_2; go_simp; with_reducible rfl
      · simp only [Act.put, List.setIfInBounds_toArray, List.set_cons_zero, List.set_cons_succ]; rfl
      refine seq_take (v := ?_) (a' := ?_) (some 83) rfl rfl (by rfl) ?_ ?_ ?_
      rotate_left; rotate_left
      · intro w' hS; go_simp; with_reducible rfl
      · simp only [Act.put, List.setIfInBounds_toArray, List.set_cons_zero, List.set_cons_succ]; rfl
      refine seq_take (v := ?_) (a' := ?_) (some 84) rfl rfl (by rfl) ?_ ?_ ?_
      rotate_left; rotate_left
      · intro w' hS; have s0_0 := cb hS c0_0; have s0_1 := cb hS c0_1; have s0_2 := cb hS c0_2; have s0_3 := cb hS c0_3; have s0_4 := cb hS c0_4; have s0_5 := cb hS c0_5; have s1_0 := cb hS c1_0; have s1_1 := cb hS c1_1; have s1_2 := cb hS c1_2; have s2_0 := cb hS c2_0; have s2_1 := cb hS c2_1; have s2_2 := cb hS c2_2; go_simp; with_reducible rfl
      · simp only [Act.put, List.setIfInBounds_toArray, List.set_cons_zero, List.set_cons_succ]; rfl
      refine seq_take (v := ?_) (a' := ?_) (some 85) rfl rfl (by rfl) ?_ ?_ ?_
      rotate_left; rotate_left
      · intro w' hS; go_simp; with_reducible rfl
      · simp only [Act.put, List.setIfInBounds_toArray, List.set_cons_zero, List.set_cons_succ]; rfl
      refine seq_take (v := ?_) (a' := ?_) (some 86) rfl rfl (by rfl) ?_ ?_ ?_
      rotate_left; rotate_left
      · intro w' hS; have s0_0 := cb hS c0_0; have s0_1 := cb hS c0_1; have s0_2 := cb hS c0_2; have s0_3 := cb hS c0_3; have s0_4 := cb hS c0_4; have s0_5 := cb hS c0_5; have s1_0 := cb hS c1_0; have s1_1 := cb hS c1_1; have s1_2 := cb hS c1_2; have s2_0 := cb hS c2_0; have s2_1 := cb hS c2_1; have s2_2 := cb hS c2_2; go_simp; with_reducible rfl
      · simp only [Act.put, List.setIfInBounds_toArray, List.set_cons_zero, List.set_cons_succ]; rfl
      refine seq_call (args := ?_) Try.func36 (by kernel_rfl) rfl (some 82) rfl rfl (by rfl) rfl ?_ ?_
      rotate_left
      · simp only [List.map_toArray, List.map_cons, List.map_nil]; go_simp; rfl
      with_reducible refine (less_calls _ _ _ _ _ _ _ (by omega) (by omega)).mono ?_
      rintro e w' ⟨rfl, hb⟩
      refine ⟨_, rfl, bl_next hB hb, ?_⟩
      have hB := bl_next hB hb; clear hb
      simp only [Act.put, List.setIfInBounds_toArray, List.set_cons_zero, List.set_cons_succ]
      refine seq_call (args := ?_) Try.func37 (by kernel_rfl) rfl (some 87) rfl rfl (by rfl) rfl ?_ ?_
      rotate_left
      · simp only [List.map_toArray, List.map_cons, List.map_nil]; go_simp; rfl
      with_reducible refine (refLess_calls _ _ _ _ _ _ _ (by omega) (by omega)).mono ?_
      rintro e w' ⟨rfl, hb⟩
      refine ⟨_, rfl, bl_next hB hb, ?_⟩
      have hB := bl_next hB hb; clear hb
      simp only [Act.put, List.setIfInBounds_toArray, List.set_cons_zero, List.set_cons_succ]
      refine seq_take (v := ?_) (a' := ?_) (some 88) rfl rfl (by rfl) ?_ ?_ ?_
      rotate_left; rotate_left
      · intro w' hS; go_simp; with_reducible rfl
      · simp only [Act.put, List.setIfInBounds_toArray, List.set_cons_zero, List.set_cons_succ]; rfl
      refine seq_take (v := ?_) (a' := ?_) (some 89) rfl rfl (by rfl) ?_ ?_ ?_
      rotate_left; rotate_left
      · intro w' hS; go_simp; with_reducible rfl
      · simp only [Act.put, List.setIfInBounds_toArray, List.set_cons_zero, List.set_cons_succ]; rfl
      refine seq_take (v := ?_) (a' := ?_) (some 4) rfl rfl (by rfl) ?_ ?_ ?_
      rotate_left; rotate_left
      · intro w' hS; go_simp; with_reducible rfl
      · simp only [Act.put, List.setIfInBounds_toArray, List.set_cons_zero, List.set_cons_succ]; rfl
      refine seq_done ?_
      go_wp2_with fail
      go_ret
      exact ⟨rfl, bl_from Hw.out hB⟩
    | false =>
      have HP2 := Lib.hid (pv_no hq); clear hq
      go_wp2_with (first | (go_at_call 28; refine (parse_calls s _ (by omega)).mono ?_; rintro e w1 ⟨rfl, hb⟩; rw [HP2.out]; have hB := bl_next (by repeat (first | with_reducible exact hB | refine Below.alloc ?_ (by have := hB.size; simp; omega) _ | refine bl_dN ?_ _ | refine Below.drew ?_ | refine Below.setCell ?_ (by have := hB.size; simp; omega) _)) hb; clear hb; have k0_0 := cb hB c0_0; have k0_1 := cb hB c0_1; have k0_2 := cb hB c0_2; have k0_3 := cb hB c0_3; have k0_4 := cb hB c0_4; have k0_5 := cb hB c0_5; have kz0 : w.heap.size < _ := lt_of_cell k0_0))
      first | with_reducible refine name_wp ?_ | with_reducible refine name_calls ?_
      intro V hWeq
      have g1 : V.heap[w1.heap.size]? = some (.cells #[.string ⟨#[]⟩, .string ⟨#[]⟩, .string ⟨#[]⟩] 35) := by rw [hWeq]; repeat (first | (with_reducible exact blk_newAt _ _ (by simp)) | refine blk_old ?_ _ | refine blk_dN ?_ _ | refine blk_drew ?_)
      have hWW : Below W.heap.size W V := by rw [hWeq]; exact (by repeat (first | with_reducible exact hB | refine Below.alloc ?_ (by have := hB.size; simp; omega) _ | refine bl_dN ?_ _ | refine Below.drew ?_ | refine Below.setCell ?_ (by have := hB.size; simp; omega) _))
      have hw := bl_from Hw.out hWW
      clear Hw
      have c0_0 := cb hWW c0_0
      have c0_1 := cb hWW c0_1
      have c0_2 := cb hWW c0_2
      have c0_3 := cb hWW c0_3
      have c0_4 := cb hWW c0_4
      have c0_5 := cb hWW c0_5
      have hz : W.heap.size ≤ V.heap.size := hWW.size
      clear hWW hz
      clear hWeq
      have hz : w1.heap.size + 1 ≤ V.heap.size := by have := blk_lt g1; omega
      have c1_0 : V.cell? ⟨w1.heap.size, 0, none⟩ = some (.string ⟨#[]⟩) := blk_cell g1 0
      have c1_1 : V.cell? ⟨w1.heap.size, 1, none⟩ = some (.string ⟨#[]⟩) := blk_cell g1 1
      have c1_2 : V.cell? ⟨w1.heap.size, 2, none⟩ = some (.string ⟨#[]⟩) := blk_cell g1 2
      have f1 : ∀ j, V.frozen? ⟨w1.heap.size, j, none⟩ = false := blk_free g1
      have hB : Below V.heap.size V V := Below.refl _ _
      have G1 := Lib.hid g1; clear g1
      have F1 := Lib.hid f1; clear f1
      have Hw := Lib.hid hw; clear hw
      have kz0 : w.heap.size < V.heap.size := lt_of_cell c0_0
      have kz1 : w1.heap.size < V.heap.size := lt_of_cell c1_0
      go_wp2_with (first | (go_at_call 29; refine (refParse_calls s _ (by omega)).mono ?_; rintro e w2 ⟨rfl, hb⟩; rw [HP2.out]; have hB := bl_next (by repeat (first | with_reducible exact hB | refine Below.alloc ?_ (by have := hB.size; simp; omega) _ | refine bl_dN ?_ _ | refine Below.drew ?_ | refine Below.setCell ?_ (by have := hB.size; simp; omega) _)) hb; clear hb; have k0_0 := cb hB c0_0; have k0_1 := cb hB c0_1; have k0_2 := cb hB c0_2; have k0_3 := cb hB c0_3; have k0_4 := cb hB c0_4; have k0_5 := cb hB c0_5; have k1_0 := cb hB c1_0; have k1_1 := cb hB c1_1; have k1_2 := cb hB c1_2; have kz0 : w.heap.size < _ := lt_of_cell k0_0; have kz1 : w1.heap.size < _ := lt_of_cell k1_0))
      first | with_reducible refine name_wp ?_ | with_reducible refine name_calls ?_
      intro V2 hWeq
      have g2 : V2.heap[w2.heap.size]? = some (.cells #[.string ⟨#[]⟩, .string ⟨#[]⟩, .string ⟨#[]⟩] 35) := by rw [hWeq]; repeat (first | (with_reducible exact blk_newAt _ _ (by simp)) | refine blk_old ?_ _ | refine blk_dN ?_ _ | refine blk_drew ?_)
      have hWW : Below V.heap.size V V2 := by rw [hWeq]; exact (by repeat (first | with_reducible exact hB | refine Below.alloc ?_ (by have := hB.size; simp; omega) _ | refine bl_dN ?_ _ | refine Below.drew ?_ | refine Below.setCell ?_ (by have := hB.size; simp; omega) _))
      have hw := bl_from Hw.out hWW
      clear Hw
      have c0_0 := cb hWW c0_0
      have c0_1 := cb hWW c0_1
      have c0_2 := cb hWW c0_2
      have c0_3 := cb hWW c0_3
      have c0_4 := cb hWW c0_4
      have c0_5 := cb hWW c0_5
      have c1_0 := cb hWW c1_0
      have c1_1 := cb hWW c1_1
      have c1_2 := cb hWW c1_2
      have hz : V.heap.size ≤ V2.heap.size := hWW.size
      clear hWW hz
      clear hWeq
      have hz : w2.heap.size + 1 ≤ V2.heap.size := by have := blk_lt g2; omega
      have c2_0 : V2.cell? ⟨w2.heap.size, 0, none⟩ = some (.string ⟨#[]⟩) := blk_cell g2 0
      have c2_1 : V2.cell? ⟨w2.heap.size, 1, none⟩ = some (.string ⟨#[]⟩) := blk_cell g2 1
      have c2_2 : V2.cell? ⟨w2.heap.size, 2, none⟩ = some (.string ⟨#[]⟩) := blk_cell g2 2
      have f2 : ∀ j, V2.frozen? ⟨w2.heap.size, j, none⟩ = false := blk_free g2
      have hB : Below V2.heap.size V2 V2 := Below.refl _ _
      have G2 := Lib.hid g2; clear g2
      have F2 := Lib.hid f2; clear f2
      have Hw := Lib.hid hw; clear hw
      have kz0 : w.heap.size < V2.heap.size := lt_of_cell c0_0
      have kz1 : w1.heap.size < V2.heap.size := lt_of_cell c1_0
      have kz2 : w2.heap.size < V2.heap.size := lt_of_cell c2_0
      have hB := hB.drew
      refine region_seq (fun w' => Below V2.heap.size V2 w') [(0, true), (2, true), (1, false), (3, false), (4, true), (5, true), (6, true), (7, true), (9, true), (10, true), (8, false), (11, false), (12, true), (13, true), (14, true), (15, true), (16, true), (18, true), (19, true), (17, false), (20, false), (21, true), (22, true), (23, true)] (by kernel_rfl) (by kernel_rfl) (fun _ _ _ _ h => h) hB ?_
      try generalize World.drew _ = wS at hB ⊢
      refine seq_take (v := ?_) (a' := ?_) (some 40) rfl rfl (by rfl) ?_ ?_ ?_
      rotate_left; rotate_left
      · intro w' hS; go_simp; with_reducible rfl
      · simp only [Act.put, List.setIfInBounds_toArray, List.set_cons_zero, List.set_cons_succ]; rfl
      refine seq_take (v := ?_) (a' := ?_) (some 42) rfl rfl (by rfl) ?_ ?_ ?_
      rotate_left; rotate_left
      · intro w' hS; go_simp; with_reducible rfl
      · simp only [Act.put, List.setIfInBounds_toArray, List.set_cons_zero, List.set_cons_succ]; rfl
      refine seq_call (args := ?_) Try.func30 (by kernel_rfl) rfl (some 41) rfl rfl (by rfl) rfl ?_ ?_
      rotate_left
      · simp only [List.map_toArray, List.map_cons, List.map_nil]; go_simp; rfl
      with_reducible refine (right_calls _ _ (by omega)).mono ?_
      rintro e w' ⟨rfl, hb⟩
      refine ⟨_, rfl, bl_next hB hb, ?_⟩
      have hB := bl_next hB hb; clear hb
      simp only [Act.put, List.setIfInBounds_toArray, List.set_cons_zero, List.set_cons_succ]
      refine seq_call (args := ?_) Try.func31 (by kernel_rfl) rfl (some 43) rfl rfl (by rfl) rfl ?_ ?_
      rotate_left
      · simp only [List.map_toArray, List.map_cons, List.map_nil]; go_simp; rfl
      with_reducible refine (refRightB_calls _ _ (by omega)).mono ?_
      rintro e w' ⟨rfl, hb⟩
      refine ⟨_, rfl, bl_next hB hb, ?_⟩
      have hB := bl_next hB hb; clear hb
      simp only [Act.put, List.setIfInBounds_toArray, List.set_cons_zero, List.set_cons_succ]
      refine seq_take (v := ?_) (a' := ?_) (some 44) rfl rfl (by rfl) ?_ ?_ ?_
      rotate_left; rotate_left
      · intro w' hS; go_simp; with_reducible rfl
      · simp only [Act.put, List.setIfInBounds_toArray, List.set_cons_zero, List.set_cons_succ]; rfl
      refine seq_take (v := ?_) (a' := ?_) (some 45) rfl rfl (by rfl) ?_ ?_ ?_
      rotate_left; rotate_left
      · intro w' hS; go_simp; with_reducible rfl
      · simp only [Act.put, List.setIfInBounds_toArray, List.set_cons_zero, List.set_cons_succ]; rfl
      refine seq_take (v := ?_) (a' := ?_) (some 46) rfl rfl (by rfl) ?_ ?_ ?_
      rotate_left; rotate_left
      · intro w' hS; go_simp; with_reducible rfl
      · simp only [Act.put, List.setIfInBounds_toArray, List.set_cons_zero, List.set_cons_succ]; rfl
      refine seq_take (v := ?_) (a' := ?_) (some 47) rfl rfl (by rfl) ?_ ?_ ?_
      rotate_left; rotate_left
      · intro w' hS; have s0_0 := cb hS c0_0; have s0_1 := cb hS c0_1; have s0_2 := cb hS c0_2; have s0_3 := cb hS c0_3; have s0_4 := cb hS c0_4; have s0_5 := cb hS c0_5; have s1_0 := cb hS c1_0; have s1_1 := cb hS c1_1; have s1_2 := cb hS c1_2; have s2_0 := cb hS c2_0; have s2_1 := cb hS c2_1; have s2_2 := cb hS c2_2; go_simp; with_reducible rfl
      · simp only [Act.put, List.setIfInBounds_toArray, List.set_cons_zero, List.set_cons_succ]; rfl
      refine seq_take (v := ?_) (a' := ?_) (some 49) rfl rfl (by rfl) ?_ ?_ ?_
      rotate_left; rotate_left
      · intro w' hS; go_simp; with_reducible rfl
      · simp only [Act.put, List.setIfInBounds_toArray, List.set_cons_zero, List.set_cons_succ]; rfl
      refine seq_take (v := ?_) (a' := ?_) (some 50) rfl rfl (by rfl) ?_ ?_ ?_
      rotate_left; rotate_left
      · intro w' hS; have s0_0 := cb hS c0_0; have s0_1 := cb hS c0_1; have s0_2 := cb hS c0_2; have s0_3 := cb hS c0_3; have s0_4 := cb hS c0_4; have s0_5 := cb hS c0_5; have s1_0 := cb hS c1_0; have s1_1 := cb hS c1_1; have s1_2 := cb hS c1_2; have s2_0 := cb hS c2_0; have s2_1 := cb hS c2_1; have s2_2 := cb hS c2_2; go_simp; with_reducible rfl
      · simp only [Act.put, List.setIfInBounds_toArray, List.set_cons_zero, List.set_cons_succ]; rfl
      refine seq_call (args := ?_) Try.func32 (by kernel_rfl) rfl (some 48) rfl rfl (by rfl) rfl ?_ ?_
      rotate_left
      · simp only [List.map_toArray, List.map_cons, List.map_nil]; go_simp; rfl
      with_reducible refine (key_calls _ _ _ _ (by omega) (by omega) (by omega)).mono ?_
      rintro e w' ⟨rfl, hb⟩
      refine ⟨_, rfl, bl_next hB hb, ?_⟩
      have hB := bl_next hB hb; clear hb
      simp only [Act.put, List.setIfInBounds_toArray, List.set_cons_zero, List.set_cons_succ]
      refine seq_call (args := ?_) Try.func33 (by kernel_rfl) rfl (some 51) rfl rfl (by rfl) rfl ?_ ?_
      rotate_left
      · simp only [List.map_toArray, List.map_cons, List.map_nil]; go_simp; rfl
      with_reducible refine (refKey_calls _ _ _ _ (by omega) (by omega) (by omega)).mono ?_
      rintro e w' ⟨rfl, hb⟩
      refine ⟨_, rfl, bl_next hB hb, ?_⟩
      have hB := bl_next hB hb; clear hb
      simp only [Act.put, List.setIfInBounds_toArray, List.set_cons_zero, List.set_cons_succ]
      refine seq_take (v := ?_) (a' := ?_) (some 52) rfl rfl (by rfl) ?_ ?_ ?_
      rotate_left; rotate_left
      · intro w' hS; go_simp; with_reducible rfl
      · simp only [Act.put, List.setIfInBounds_toArray, List.set_cons_zero, List.set_cons_succ]; rfl
      refine seq_take (v := ?_) (a' := ?_) (some 53) rfl rfl (by rfl) ?_ ?_ ?_
      rotate_left; rotate_left
      · intro w' hS; go_simp; with_reducible rfl
      · simp only [Act.put, List.setIfInBounds_toArray, List.set_cons_zero, List.set_cons_succ]; rfl
      refine seq_take (v := ?_) (a' := ?_) (some 54) rfl rfl (by rfl) ?_ ?_ ?_
      rotate_left; rotate_left
      · intro w' hS; go_simp; with_reducible rfl
      · simp only [Act.put, List.setIfInBounds_toArray, List.set_cons_zero, List.set_cons_succ]; rfl
      refine seq_take (v := ?_) (a' := ?_) (some 55) rfl rfl (by rfl) ?_ ?_ ?_
      rotate_left; rotate_left
      · intro w' hS; go_simp; with_reducible rfl
      · simp only [Act.put, List.setIfInBounds_toArray, List.set_cons_zero, List.set_cons_succ]; rfl
      refine seq_take (v := ?_) (a' := ?_) (some 56) rfl rfl (by rfl) ?_ ?_ ?_
      rotate_left; rotate_left
      · intro w' hS; have s0_0 := cb hS c0_0; have s0_1 := cb hS c0_1; have s0_2 := cb hS c0_2; have s0_3 := cb hS c0_3; have s0_4 := cb hS c0_4; have s0_5 := cb hS c0_5; have s1_0 := cb hS c1_0; have s1_1 := cb hS c1_1; have s1_2 := cb hS c1_2; have s2_0 := cb hS c2_0; have s2_1 := cb hS c2_1; have s2_2 := cb hS c2_2; go_simp; with_reducible rfl
      · simp only [Act.put, List.setIfInBounds_toArray, List.set_cons_zero, List.set_cons_succ]; rfl
      refine seq_take (v := ?_) (a' := ?_) (some 58) rfl rfl (by rfl) ?_ ?_ ?_
      rotate_left; rotate_left
      · intro w' hS; go_simp; with_reducible rfl
      · simp only [Act.put, List.setIfInBounds_toArray, List.set_cons_zero, List.set_cons_succ]; rfl
      refine seq_take (v := ?_) (a' := ?_) (some 59) rfl rfl (by rfl) ?_ ?_ ?_
      rotate_left; rotate_left
      · intro w' hS; have s0_0 := cb hS c0_0; have s0_1 := cb hS c0_1; have s0_2 := cb hS c0_2; have s0_3 := cb hS c0_3; have s0_4 := cb hS c0_4; have s0_5 := cb hS c0_5; have s1_0 := cb hS c1_0; have s1_1 := cb hS c1_1; have s1_2 := cb hS c1_2; have s2_0 := cb hS c2_0; have s2_1 := cb hS c2_1; have s2_2 := cb hS c2_2; go_simp; with_reducible rfl
      · simp only [Act.put, List.setIfInBounds_toArray, List.set_cons_zero, List.set_cons_succ]; rfl
      refine seq_call (args := ?_) Try.func34 (by kernel_rfl) rfl (some 57) rfl rfl (by rfl) rfl ?_ ?_
      rotate_left
      · simp only [List.map_toArray, List.map_cons, List.map_nil]; go_simp; rfl
      with_reducible refine (textK_calls _ _ _ _ (by omega) (by omega) (by omega)).mono ?_
      rintro e w' ⟨rfl, hb⟩
      refine ⟨_, rfl, bl_next hB hb, ?_⟩
      have hB := bl_next hB hb; clear hb
      simp only [Act.put, List.setIfInBounds_toArray, List.set_cons_zero, List.set_cons_succ]
      refine seq_call (args := ?_) Try.func35 (by kernel_rfl) rfl (some 60) rfl rfl (by rfl) rfl ?_ ?_
      rotate_left
      · simp only [List.map_toArray, List.map_cons, List.map_nil]; go_simp; rfl
      with_reducible refine (refText_calls _ _ _ _ (by omega) (by omega) (by omega)).mono ?_
      rintro e w' ⟨rfl, hb⟩
      refine ⟨_, rfl, bl_next hB hb, ?_⟩
      have hB := bl_next hB hb; clear hb
      simp only [Act.put, List.setIfInBounds_toArray, List.set_cons_zero, List.set_cons_succ]
      refine seq_take (v := ?_) (a' := ?_) (some 61) rfl rfl (by rfl) ?_ ?_ ?_
      rotate_left; rotate_left
      · intro w' hS; go_simp; with_reducible rfl
      · simp only [Act.put, List.setIfInBounds_toArray, List.set_cons_zero, List.set_cons_succ]; rfl
      refine seq_take (v := ?_) (a' := ?_) (some 62) rfl rfl (by rfl) ?_ ?_ ?_
      rotate_left; rotate_left
      · intro w' hS; go_simp; with_reducible rfl
      · simp only [Act.put, List.setIfInBounds_toArray, List.set_cons_zero, List.set_cons_succ]; rfl
      refine seq_take (v := ?_) (a' := ?_) (some 11) rfl rfl (by rfl) ?_ ?_ ?_
      rotate_left; rotate_left
      · intro w' hS; go_simp; with_reducible rfl
      · simp only [Act.put, List.setIfInBounds_toArray, List.set_cons_zero, List.set_cons_succ]; rfl
      refine seq_done ?_
      go_wp2_with fail
      have hB := hB.drew
      refine region_seq (fun w' => Below V2.heap.size V2 w') [(0, false), (1, true), (2, true), (3, true), (4, true), (5, true), (6, true), (7, true), (8, true), (9, true), (10, true), (11, true), (12, true), (13, true), (14, true), (15, true), (16, true), (17, true), (18, true), (20, true), (21, true), (22, true), (23, true), (19, false), (24, false), (25, true), (26, true), (27, true)] (by kernel_rfl) (by kernel_rfl) (fun _ _ _ _ h => h) hB ?_
      try generalize World.drew _ = wS at hB ⊢
      refine seq_call (args := ?_) Try.func27 (by kernel_rfl) rfl (some 63) rfl rfl (by rfl) rfl ?_ ?_
      rotate_left
      · simp only [List.map_toArray, List.map_cons, List.map_nil]; go_simp; rfl
      with_reducible refine (alive1_calls _).mono ?_
      rintro e w' ⟨rfl, hb⟩
      refine ⟨_, rfl, bl_next hB hb, ?_⟩
      have hB := bl_next hB hb; clear hb
      simp only [Act.put, List.setIfInBounds_toArray, List.set_cons_zero, List.set_cons_succ]
      refine seq_take (v := ?_) (a' := ?_) (some 64) rfl rfl (by rfl) ?_ ?_ ?_
      rotate_left; rotate_left
      · intro w' hS; go_simp; with_reducible rfl
      · simp only [Act.put, List.setIfInBounds_toArray, List.set_cons_zero, List.set_cons_succ]; rfl
      refine seq_take (v := ?_) (a' := ?_) (some 65) rfl rfl (by rfl) ?_ ?_ ?_
      rotate_left; rotate_left
      · intro w' hS; go_simp; with_reducible rfl
      · simp only [Act.put, List.setIfInBounds_toArray, List.set_cons_zero, List.set_cons_succ]; rfl
      refine seq_take (v := ?_) (a' := ?_) (some 66) rfl rfl (by rfl) ?_ ?_ ?_
      rotate_left; rotate_left
      · intro w' hS; go_simp; with_reducible rfl
      · simp only [Act.put, List.setIfInBounds_toArray, List.set_cons_zero, List.set_cons_succ]; rfl
      refine seq_take (v := ?_) (a' := ?_) (some 67) rfl rfl (by rfl) ?_ ?_ ?_
      rotate_left; rotate_left
      · intro w' hS; go_simp; with_reducible rfl
      · simp only [Act.put, List.setIfInBounds_toArray, List.set_cons_zero, List.set_cons_succ]; rfl
      refine seq_take (v := ?_) (a' := ?_) (some 68) rfl rfl (by rfl) ?_ ?_ ?_
      rotate_left; rotate_left
      · intro w' hS; have s0_0 := cb hS c0_0; have s0_1 := cb hS c0_1; have s0_2 := cb hS c0_2; have s0_3 := cb hS c0_3; have s0_4 := cb hS c0_4; have s0_5 := cb hS c0_5; have s1_0 := cb hS c1_0; have s1_1 := cb hS c1_1; have s1_2 := cb hS c1_2; have s2_0 := cb hS c2_0; have s2_1 := cb hS c2_1; have s2_2 := cb hS c2_2; go_simp; with_reducible rfl
      · simp only [Act.put, List.setIfInBounds_toArray, List.set_cons_zero, List.set_cons_succ]; rfl
      refine seq_take (v := ?_) (a' := ?_) (some 69) rfl rfl (by rfl) ?_ ?_ ?_
      rotate_left; rotate_left
      · intro w' hS; have s0_0 := cb hS c0_0; have s0_1 := cb hS c0_1; have s0_2 := cb hS c0_2; have s0_3 := cb hS c0_3; have s0_4 := cb hS c0_4; have s0_5 := cb hS c0_5; have s1_0 := cb hS c1_0; have s1_1 := cb hS c1_1; have s1_2 := cb hS c1_2; have s2_0 := cb hS c2_0; have s2_1 := cb hS c2_1; have s2_2 := cb hS c2_2; go_simp; with_reducible rfl
      · simp only [Act.put, List.setIfInBounds_toArray, List.set_cons_zero, List.set_cons_succ]; rfl
      refine seq_take (v := ?_) (a' := ?_) (some 70) rfl rfl (by rfl) ?_ ?_ ?_
      rotate_left; rotate_left
      · intro w' hS; go_simp; with_reducible rfl
      · simp only [Act.put, List.setIfInBounds_toArray, List.set_cons_zero, List.set_cons_succ]; rfl
      refine seq_take (v := ?_) (a' := ?_) (some 71) rfl rfl (by rfl) ?_ ?_ ?_
      rotate_left; rotate_left
      · intro w' hS; go_simp; with_reducible rfl
      · simp only [Act.put, List.setIfInBounds_toArray, List.set_cons_zero, List.set_cons_succ]; rfl
      refine seq_take (v := ?_) (a' := ?_) (some 72) rfl rfl (by rfl) ?_ ?_ ?_
      rotate_left; rotate_left
      · intro w' hS; go_simp; with_reducible rfl
      · simp only [Act.put, List.setIfInBounds_toArray, List.set_cons_zero, List.set_cons_succ]; rfl
      refine seq_take (v := ?_) (a' := ?_) (some 73) rfl rfl (by rfl) ?_ ?_ ?_
      rotate_left; rotate_left
      · intro w' hS; go_simp; with_reducible rfl
      · simp only [Act.put, List.setIfInBounds_toArray, List.set_cons_zero, List.set_cons_succ]; rfl
      refine seq_take (v := ?_) (a' := ?_) (some 74) rfl rfl (by rfl) ?_ ?_ ?_
      rotate_left; rotate_left
      · intro w' hS; go_simp; with_reducible rfl
      · simp only [Act.put, List.setIfInBounds_toArray, List.set_cons_zero, List.set_cons_succ]; rfl
      refine seq_take (v := ?_) (a' := ?_) (some 75) rfl rfl (by rfl) ?_ ?_ ?_
      rotate_left; rotate_left
      · intro w' hS; go_simp; with_reducible rfl
      · simp only [Act.put, List.setIfInBounds_toArray, List.set_cons_zero, List.set_cons_succ]; rfl
      refine seq_take (v := ?_) (a' := ?_) (some 76) rfl rfl (by rfl) ?_ ?_ ?_
      rotate_left; rotate_left
      · intro w' hS; go_simp; with_reducible rfl
      · simp only [Act.put, List.setIfInBounds_toArray, List.set_cons_zero, List.set_cons_succ]; rfl
      refine seq_take (v := ?_) (a' := ?_) (some 77) rfl rfl (by rfl) ?_ ?_ ?_
      rotate_left; rotate_left
      · intro w' hS; go_simp; with_reducible rfl
      · simp only [Act.put, List.setIfInBounds_toArray, List.set_cons_zero, List.set_cons_succ]; rfl
      refine seq_take (v := ?_) (a' := ?_) (some 78) rfl rfl (by rfl) ?_ ?_ ?_
      rotate_left; rotate_left
      · intro w' hS; go_simp; with_reducible rfl
      · simp only [Act.put, List.setIfInBounds_toArray, List.set_cons_zero, List.set_cons_succ]; rfl
      refine seq_take (v := ?_) (a' := ?_) (some 79) rfl rfl (by rfl) ?_ ?_ ?_
      rotate_left; rotate_left
      · intro w' hS; have s0_0 := cb hS c0_0; have s0_1 := cb hS c0_1; have s0_2 := cb hS c0_2; have s0_3 := cb hS c0_3; have s0_4 := cb hS c0_4; have s0_5 := cb hS c0_5; have s1_0 := cb hS c1_0; have s1_1 := cb hS c1_1; have s1_2 := cb hS c1_2; have s2_0 := cb hS c2_0; have s2_1 := cb hS c2_1; have s2_2 := cb hS c2_2; go_simp; with_reducible rfl
      · simp only [Act.put, List.setIfInBounds_toArray, List.set_cons_zero, List.set_cons_succ]; rfl
      refine seq_take (v := ?_) (a' := ?_) (some 80) rfl rfl (by rfl) ?_ ?_ ?_
      rotate_left; rotate_left
      · intro w' hS; go_simp; with_reducible rfl
      · simp only [Act.put, List.setIfInBounds_toArray, List.set_cons_zero, List.set_cons_succ]; rfl
      refine seq_take (v := ?_) (a' := ?_) (some 81) rfl rfl (by rfl) ?_ ?_ ?_
      rotate_left; rotate_left
      · intro w' hS; have s0_0 := cb hS c0_0; have s0_1 := cb hS c0_1; have s0_2 := cb hS c0_2; have s0_3 := cb hS c0_3; have s0_4 := cb hS c0_4; have s0_5 := cb hS c0_5; have s1_0 := cb hS c1_0; have s1_1 := cb hS c1_1; have s1_2 := cb hS c1_2; have s2_0 := cb hS c2_0; have s2_1 := cb hS c2_1; have s2_2 := cb hS c2_2; go_simp; with_reducible rfl
      · simp only [Act.put, List.setIfInBounds_toArray, List.set_cons_zero, List.set_cons_succ]; rfl
      refine seq_take (v := ?_) (a' := ?_) (some 83) rfl rfl (by rfl) ?_ ?_ ?_
      rotate_left; rotate_left
      · intro w' hS; go_simp; with_reducible rfl
      · simp only [Act.put, List.setIfInBounds_toArray, List.set_cons_zero, List.set_cons_succ]; rfl
      refine seq_take (v := ?_) (a' := ?_) (some 84) rfl rfl (by rfl) ?_ ?_ ?_
      rotate_left; rotate_left
      · intro w' hS; have s0_0 := cb hS c0_0; have s0_1 := cb hS c0_1; have s0_2 := cb hS c0_2; have s0_3 := cb hS c0_3; have s0_4 := cb hS c0_4; have s0_5 := cb hS c0_5; have s1_0 := cb hS c1_0; have s1_1 := cb hS c1_1; have s1_2 := cb hS c1_2; have s2_0 := cb hS c2_0; have s2_1 := cb hS c2_1; have s2_2 := cb hS c2_2; go_simp; with_reducible rfl
      · simp only [Act.put, List.setIfInBounds_toArray, List.set_cons_zero, List.set_cons_succ]; rfl
      refine seq_take (v := ?_) (a' := ?_) (some 85) rfl rfl (by rfl) ?_ ?_ ?_
      rotate_left; rotate_left
      · intro w' hS; go_simp; with_reducible rfl
      · simp only [Act.put, List.setIfInBounds_toArray, List.set_cons_zero, List.set_cons_succ]; rfl
      refine seq_take (v := ?_) (a' := ?_) (some 86) rfl rfl (by rfl) ?_ ?_ ?_
      rotate_left; rotate_left
      · intro w' hS; have s0_0 := cb hS c0_0; have s0_1 := cb hS c0_1; have s0_2 := cb hS c0_2; have s0_3 := cb hS c0_3; have s0_4 := cb hS c0_4; have s0_5 := cb hS c0_5; have s1_0 := cb hS c1_0; have s1_1 := cb hS c1_1; have s1_2 := cb hS c1_2; have s2_0 := cb hS c2_0; have s2_1 := cb hS c2_1; have s2_2 := cb hS c2_2; go_simp; with_reducible rfl
      · simp only [Act.put, List.setIfInBounds_toArray, List.set_cons_zero, List.set_cons_succ]; rfl
      refine seq_call (args := ?_) Try.func36 (by kernel_rfl) rfl (some 82) rfl rfl (by rfl) rfl ?_ ?_
      rotate_left
      · simp only [List.map_toArray, List.map_cons, List.map_nil]; go_simp; rfl
      with_reducible refine (less_calls _ _ _ _ _ _ _ (by omega) (by omega)).mono ?_
      rintro e w' ⟨rfl, hb⟩
      refine ⟨_, rfl, bl_next hB hb, ?_⟩
      have hB := bl_next hB hb; clear hb
      simp only [Act.put, List.setIfInBounds_toArray, List.set_cons_zero, List.set_cons_succ]
      refine seq_call (args := ?_) Try.func37 (by kernel_rfl) rfl (some 87) rfl rfl (by rfl) rfl ?_ ?_
      rotate_left
      · simp only [List.map_toArray, List.map_cons, List.map_nil]; go_simp; rfl
      with_reducible refine (refLess_calls _ _ _ _ _ _ _ (by omega) (by omega)).mono ?_
      rintro e w' ⟨rfl, hb⟩
      refine ⟨_, rfl, bl_next hB hb, ?_⟩
      have hB := bl_next hB hb; clear hb
      simp only [Act.put, List.setIfInBounds_toArray, List.set_cons_zero, List.set_cons_succ]
      refine seq_take (v := ?_) (a' := ?_) (some 88) rfl rfl (by rfl) ?_ ?_ ?_
      rotate_left; rotate_left
      · intro w' hS; go_simp; with_reducible rfl
      · simp only [Act.put, List.setIfInBounds_toArray, List.set_cons_zero, List.set_cons_succ]; rfl
      refine seq_take (v := ?_) (a' := ?_) (some 89) rfl rfl (by rfl) ?_ ?_ ?_
      rotate_left; rotate_left
      · intro w' hS; go_simp; with_reducible rfl
      · simp only [Act.put, List.setIfInBounds_toArray, List.set_cons_zero, List.set_cons_succ]; rfl
      refine seq_take (v := ?_) (a' := ?_) (some 4) rfl rfl (by rfl) ?_ ?_ ?_
      rotate_left; rotate_left
      · intro w' hS; go_simp; with_reducible rfl
      · simp only [Act.put, List.setIfInBounds_toArray, List.set_cons_zero, List.set_cons_succ]; rfl
      refine seq_done ?_
      go_wp2_with fail
      go_ret
      exact ⟨rfl, bl_from Hw.out hB⟩
  · skip
    have hdl : decide (200 < (s.size : Int)) = true ∨ sh = false ∨ sh2 = false := by cases sh <;> cases sh2 <;> simp_all <;> omega
    cases hd : decide (200 < (s.size : Int)) <;> cases sh <;> cases sh2
    all_goals first | (simp [hd] at hdl; done) | skip
    all_goals
      clear hl hdl
      go_wp2_with (first | (go_at_call 26; refine (short_calls _ _ _ _).mono ?_; rintro e w' ⟨rfl, hb⟩; (first | rw [HS.out] | rw [HS2.out]); have hB := bl_next (by repeat (first | with_reducible exact hB | refine Below.alloc ?_ (by have := hB.size; simp; omega) _ | refine bl_dN ?_ _ | refine Below.drew ?_ | refine Below.setCell ?_ (by have := hB.size; simp; omega) _)) hb; clear hb; have k0_0 := cb hB c0_0; have k0_1 := cb hB c0_1; have k0_2 := cb hB c0_2; have k0_3 := cb hB c0_3; have k0_4 := cb hB c0_4; have k0_5 := cb hB c0_5; have kz0 : w.heap.size < _ := lt_of_cell k0_0) | (go_at_call 27; refine (alive1_calls _).mono ?_; rintro e w' ⟨rfl, hb⟩; have hB := bl_next hB hb; clear hb))
      go_ret
      exact ⟨rfl, bl_from Hw.out hB⟩
end Go.Proofs.Ytdcceaafiammfaa
