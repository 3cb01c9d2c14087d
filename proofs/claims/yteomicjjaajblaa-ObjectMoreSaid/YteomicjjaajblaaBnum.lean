import Derived.Test.YteomicjjaajblaaProg
import Derived.Test.YteomicjjaajblaaBsum
namespace Go.Proofs.Yteomicjjaajblaa
open Go.RowKit
set_option linter.unusedSimpArgs false
set_option linter.unusedVariables false
theorem num_fits {S : Int} {n : Nat} (h128 : 128 ≤ n) (hr : S / 2 ^ (n - 1) = 0 ∨ S / 2 ^ (n - 1) = -1) (h : ∀ j, j < n - 128 → S / 2 ^ (128 + j) % 2 = S / 2 ^ 127 % 2) : wIn S = true := by
  refine wIn_of_bits (n := n - 128) (by rw [show 127 + (n - 128) = n - 1 by omega]; exact hr) (fun j hj => ?_)
  cases j with
  | zero => rfl
  | succ j => rw [show 127 + (j + 1) = 128 + j by omega]; exact h j (by omega)
theorem num_not {S : Int} {j : Nat} (h : S / 2 ^ (128 + j) % 2 ≠ S / 2 ^ 127 % 2) : wIn S = false := by
  cases hw : wIn S with
  | false => rfl
  | true => exact absurd (by rw [show 128 + j = 127 + (j + 1) by omega, top_bit hw]) h
theorem num_hi {S : Int} (h : wIn S = true) : wrap64 (S / 2 ^ (64 + 0) % 2 ^ (64 - 0)) = whi S := by
  rw [show S / 2 ^ (64 + 0) % 2 ^ (64 - 0) = S / 18446744073709551616 % 18446744073709551616 from rfl]
  simp only [wIn, Bool.and_eq_true, decide_eq_true_eq] at h
  rw [wrap64_eq]
  unfold whi at *
  omega
theorem num_lo (S : Int) : S / 2 ^ (0 + 0) % 2 ^ (64 - 0) = wlo S := by
  show S / 1 % 18446744073709551616 = wlo S
  rw [Int.ediv_one]; rfl
set_option maxHeartbeats 4000000 in
set_option maxRecDepth 100000 in
theorem number_calls (S : Int) (n : Nat) (va : Value) (w : World) (h128 : 128 ≤ n) (hn : n ≤ 1000) (hr : S / 2 ^ (n - 1) = 0 ∨ S / 2 ^ (n - 1) = -1) (ha : Own w 0 3 va (ints (bits S n))) :
    Calls Try.prog 49 #[va] w fun e w' => e = .returned (wideRes S) ∧ Below w.heap.size w w' := by
  obtain ⟨ga, capa, rfl, _, hga, hca, _⟩ := own_cells ha (by rw [ints_length, bits_length]; omega)
  rw [ints_length, bits_length] at hca ⊢
  have HA := Lib.hid (show ∀ j, j < n → w.cell? ⟨ga, j, none⟩ = some (.int .i64 (S / 2 ^ j % 2)) from fun j hj => by rw [hca j hj, ints_getD (by rw [bits_length]; exact hj), bits_getD _ _ _ hj])
  have HR := Lib.hid hr
  clear hca ha hr
  go_enter Try.func49, Try.ntmps49
  go_wp2_with fail
  first | with_reducible refine name_wp ?_ | with_reducible refine name_calls ?_
  intro W hWeq
  have g0 : W.heap[w.heap.size]? = some (.cells #[.int .i64 0, .int .u64 0] 40) := by rw [hWeq]; repeat (first | (with_reducible exact blk_newAt _ _ (by simp)) | with_reducible refine blk_drew ?_ | with_reducible refine blk_dN ?_ _ | with_reducible refine blk_old ?_ _)
  have hw : Below w.heap.size w W := by rw [hWeq]; repeat (first | with_reducible exact Below.refl _ _ | with_reducible refine Below.drew ?_ | with_reducible refine bl_dN ?_ _ | with_reducible refine Below.alloc ?_ (by simp <;> omega) _)
  clear hWeq
  have hz : w.heap.size + 1 ≤ W.heap.size := by have := blk_lt g0; omega
  have c0_0 : W.cell? ⟨w.heap.size, 0, none⟩ = some (.int .i64 0) := blk_cell g0 0
  have c0_1 : W.cell? ⟨w.heap.size, 1, none⟩ = some (.int .u64 0) := blk_cell g0 1
  have f0 : ∀ j, W.frozen? ⟨w.heap.size, j, none⟩ = false := blk_free g0
  have hB : Below W.heap.size W W := Below.refl _ _
  have G0 := Lib.hid g0; clear g0
  have F0 := Lib.hid f0; clear f0
  have Hw := Lib.hid hw; clear hw
  have HAW := Lib.hid (fun j hj => cb Hw.out (HA.out j hj))
  clear HA
  go_loopw [4] (fun i wr => ∃ k : Nat, i = .int .i64 k ∧ 128 ≤ k ∧ k ≤ n ∧ Hid (∀ j, j < k - 128 → S / 2 ^ (128 + j) % 2 = S / 2 ^ 127 % 2) ∧ Below W.heap.size W wr) (fun i _ => n - (intOf i).toNat)
  case atStart => exact ⟨128, rfl, by omega, h128, Lib.hid (fun j hj => by omega), hB⟩
  case round =>
    clear hB
    obtain ⟨k, rfl, hk1, hk, hsame, hB⟩ := hrel
    have k0_0 := cb hB c0_0
    have k0_1 := cb hB c0_1
    have kz0 : w.heap.size < _ := lt_of_cell k0_0
    have kf0_0 := fb hB (lt_of_cell c0_0) (F0.out 0)
    have kf0_1 := fb hB (lt_of_cell c0_1) (F0.out 1)
    by_cases hlt : k < n
    · have ca := HAW.out k hlt
      have cc := HAW.out 127 (by omega)
      obtain ⟨x, hx⟩ : ∃ x, S / 2 ^ k % 2 = x := ⟨_, rfl⟩
      obtain ⟨y, hy⟩ : ∃ y, S / 2 ^ 127 % 2 = y := ⟨_, rfl⟩
      rw [hx] at ca; rw [hy] at cc
      have HX := Lib.hid hx; have HY := Lib.hid hy
      clear hx hy
      have hkn : (k : Int) < n := by omega
      have hn127 : (127 : Int) < n := by omega
      go_upto_region 4 with fail
      by_cases hxy : x = y
      · subst hxy
        have hB := hB.drew
        refine region_seq (fun w' => Below W.heap.size W w') [(0, true), (1, true), (2, true), (3, true), (4, true), (5, true), (6, true), (7, true)] (by kernel_rfl) (by kernel_rfl) (fun _ _ _ _ h => h) hB ?_
        try generalize World.drew _ = wS at hB ⊢
        refine seq_take (v := ?_) (a' := ?_) (some 14) rfl rfl (by rfl) ?_ ?_ ?_
        rotate_left; rotate_left
        · intro w' hS; go_simp; with_reducible rfl
        · simp only [Act.put, List.setIfInBounds_toArray, List.set_cons_zero, List.set_cons_succ]; rfl
        refine seq_take (v := ?_) (a' := ?_) (some 15) rfl rfl (by rfl) ?_ ?_ ?_
        rotate_left; rotate_left
        · intro w' hS; go_simp; with_reducible rfl
        · simp only [Act.put, List.setIfInBounds_toArray, List.set_cons_zero, List.set_cons_succ]; rfl
        refine seq_take (v := ?_) (a' := ?_) (some 16) rfl rfl (by rfl) ?_ ?_ ?_
        rotate_left; rotate_left
        · intro w' hS; go_simp; with_reducible rfl
        · simp only [Act.put, List.setIfInBounds_toArray, List.set_cons_zero, List.set_cons_succ]; rfl
        refine seq_take (v := ?_) (a' := ?_) (some 17) rfl rfl (by rfl) ?_ ?_ ?_
        rotate_left; rotate_left
        · intro w' hS; have s0 := cb hS ca; have s1 := cb hS cc; go_simp; with_reducible rfl
        · simp only [Act.put, List.setIfInBounds_toArray, List.set_cons_zero, List.set_cons_succ]; rfl
        refine seq_take (v := ?_) (a' := ?_) (some 18) rfl rfl (by rfl) ?_ ?_ ?_
        rotate_left; rotate_left
        · intro w' hS; go_simp; with_reducible rfl
        · simp only [Act.put, List.setIfInBounds_toArray, List.set_cons_zero, List.set_cons_succ]; rfl
        refine seq_take (v := ?_) (a' := ?_) (some 19) rfl rfl (by rfl) ?_ ?_ ?_
        rotate_left; rotate_left
        · intro w' hS; go_simp; with_reducible rfl
        · simp only [Act.put, List.setIfInBounds_toArray, List.set_cons_zero, List.set_cons_succ]; rfl
        refine seq_take (v := ?_) (a' := ?_) (some 20) rfl rfl (by rfl) ?_ ?_ ?_
        rotate_left; rotate_left
        · intro w' hS; have s0 := cb hS ca; have s1 := cb hS cc; go_simp; with_reducible rfl
        · simp only [Act.put, List.setIfInBounds_toArray, List.set_cons_zero, List.set_cons_succ]; rfl
        refine seq_take (v := ?_) (a' := ?_) (some 21) rfl rfl (by rfl) ?_ ?_ ?_
        rotate_left; rotate_left
        · intro w' hS; go_simp; with_reducible rfl
        · simp only [Act.put, List.setIfInBounds_toArray, List.set_cons_zero, List.set_cons_succ]; rfl
        refine seq_done ?_
        go_wp2_with fail
        go_roundw
        case rel => exact ⟨k + 1, by go_num, by omega, by omega, Lib.hid (fun j hj => by rcases Nat.lt_or_ge j (k - 128) with q | q; exact hsame.out j q; rw [show 128 + j = k by omega, HX.out, HY.out]), hB⟩
        case measure => simp [intOf]; omega
      · have HXY := Lib.hid hxy
        have hB := hB.drew
        refine region_seq (fun w' => Below W.heap.size W w') [(0, true), (1, true), (2, true), (3, true), (4, true), (5, true), (6, true), (7, true)] (by kernel_rfl) (by kernel_rfl) (fun _ _ _ _ h => h) hB ?_
        try generalize World.drew _ = wS at hB ⊢
        refine seq_take (v := ?_) (a' := ?_) (some 14) rfl rfl (by rfl) ?_ ?_ ?_
        rotate_left; rotate_left
        · intro w' hS; go_simp; with_reducible rfl
        · simp only [Act.put, List.setIfInBounds_toArray, List.set_cons_zero, List.set_cons_succ]; rfl
        refine seq_take (v := ?_) (a' := ?_) (some 15) rfl rfl (by rfl) ?_ ?_ ?_
        rotate_left; rotate_left
        · intro w' hS; go_simp; with_reducible rfl
        · simp only [Act.put, List.setIfInBounds_toArray, List.set_cons_zero, List.set_cons_succ]; rfl
        refine seq_take (v := ?_) (a' := ?_) (some 16) rfl rfl (by rfl) ?_ ?_ ?_
        rotate_left; rotate_left
        · intro w' hS; go_simp; with_reducible rfl
        · simp only [Act.put, List.setIfInBounds_toArray, List.set_cons_zero, List.set_cons_succ]; rfl
        refine seq_take (v := ?_) (a' := ?_) (some 17) rfl rfl (by rfl) ?_ ?_ ?_
        rotate_left; rotate_left
        · intro w' hS; have s0 := cb hS ca; have s1 := cb hS cc; go_simp; with_reducible rfl
        · simp only [Act.put, List.setIfInBounds_toArray, List.set_cons_zero, List.set_cons_succ]; rfl
        refine seq_take (v := ?_) (a' := ?_) (some 18) rfl rfl (by rfl) ?_ ?_ ?_
        rotate_left; rotate_left
        · intro w' hS; go_simp; with_reducible rfl
        · simp only [Act.put, List.setIfInBounds_toArray, List.set_cons_zero, List.set_cons_succ]; rfl
        refine seq_take (v := ?_) (a' := ?_) (some 19) rfl rfl (by rfl) ?_ ?_ ?_
        rotate_left; rotate_left
        · intro w' hS; go_simp; with_reducible rfl
        · simp only [Act.put, List.setIfInBounds_toArray, List.set_cons_zero, List.set_cons_succ]; rfl
        refine seq_take (v := ?_) (a' := ?_) (some 20) rfl rfl (by rfl) ?_ ?_ ?_
        rotate_left; rotate_left
        · intro w' hS; have s0 := cb hS ca; have s1 := cb hS cc; go_simp; with_reducible rfl
        · simp only [Act.put, List.setIfInBounds_toArray, List.set_cons_zero, List.set_cons_succ]; rfl
        refine seq_take (v := ?_) (a' := ?_) (some 21) rfl rfl (by rfl) ?_ ?_ ?_
        rotate_left; rotate_left
        · intro w' hS; go_simp; with_reducible rfl
        · simp only [Act.put, List.setIfInBounds_toArray, List.set_cons_zero, List.set_cons_succ]; rfl
        refine seq_done ?_
        have k0_0 := cb hB c0_0
        have k0_1 := cb hB c0_1
        have kz0 : w.heap.size < _ := lt_of_cell k0_0
        have kf0_0 := fb hB (lt_of_cell c0_0) (F0.out 0)
        have kf0_1 := fb hB (lt_of_cell c0_1) (F0.out 1)
        go_wp2_with fail
        have hw0 := bl_from Hw.out hB
        refine bodyPost_ret (v := .tuple #[.agg #[.int .i64 0, .int .u64 0], .bool false]) (by simp [results, Try.results49, go_sem, k0_0, k0_1, kf0_0, kf0_1]) rfl ⟨?_, by (repeat (first | exact Below.refl _ _ | exact hw0 | refine Below.setCell ?_ (by first | (simp; done) | (simp; omega)) _ | refine Below.alloc ?_ (by first | (simp; done) | (simp; omega)) _ | refine bl_dN ?_ _ | refine Below.drew ?_))⟩
        have hno : wIn S = false := num_not (j := k - 128) (by rw [show 128 + (k - 128) = k by omega, HX.out, HY.out]; exact hxy)
        rw [wideRes, hno]; rfl
    · have hkn := Lib.hid (show k = n by omega)
      have hIn := Lib.hid (num_fits h128 HR.out (by rw [hkn.out] at hsame; exact hsame.out))
      clear hsame HR
      go_wp2_with fail
      go_loopw [5, 6, 7] (fun lo hi i wr => ∃ r : Nat, i = .int .i64 ((r : Int) - 1) ∧ r ≤ 64 ∧ lo = .int .u64 (S / 2 ^ (0 + r) % 2 ^ (64 - r)) ∧ hi = .int .u64 (S / 2 ^ (64 + r) % 2 ^ (64 - r)) ∧ Below W.heap.size W wr) (fun _ _ i _ => (intOf i + 1).toNat)
      case atStart => exact ⟨64, rfl, by omega, by simp, by simp, hB⟩
      case round =>
        clear hB k0_0 k0_1
        obtain ⟨r, rfl, hr, rfl, rfl, hB⟩ := hrel
        have k0_0 := cb hB c0_0
        have k0_1 := cb hB c0_1
        have kz0 : w.heap.size < _ := lt_of_cell k0_0
        have kf0_0 := fb hB (lt_of_cell c0_0) (F0.out 0)
        have kf0_1 := fb hB (lt_of_cell c0_1) (F0.out 1)
        cases r with
        | succ k2 =>
          have n1 := num_step S 0 (k2 + 1) (by omega) (by omega)
          have n2 := num_step S 64 (k2 + 1) (by omega) (by omega)
          have n3 := num_lt S 0 (k2 + 1) (by omega) (by omega)
          have n4 := num_lt S 64 (k2 + 1) (by omega) (by omega)
          have e1 : k2 + 1 - 1 = k2 := by omega
          rw [e1] at n1 n2
          rw [show 0 + k2 = k2 by omega] at n1
          obtain ⟨lo, hlo⟩ : ∃ x, S / 2 ^ (0 + (k2 + 1)) % 2 ^ (64 - (k2 + 1)) = x := ⟨_, rfl⟩
          obtain ⟨hi, hhi⟩ : ∃ x, S / 2 ^ (64 + (k2 + 1)) % 2 ^ (64 - (k2 + 1)) = x := ⟨_, rfl⟩
          rw [hlo] at n1 n3; rw [hhi] at n2 n4
          rw [hlo, hhi]
          obtain ⟨x, hx⟩ : ∃ x, S / 2 ^ k2 % 2 = x := ⟨_, rfl⟩
          obtain ⟨y, hy⟩ : ∃ y, S / 2 ^ (64 + k2) % 2 = y := ⟨_, rfl⟩
          have ca := cb hB (HAW.out k2 (by omega))
          have cc := cb hB (HAW.out (64 + k2) (by omega))
          rw [hx] at ca n1; rw [hy] at cc n2
          have hx01 : 0 ≤ x ∧ x ≤ 1 := by omega
          have hy01 : 0 ≤ y ∧ y ≤ 1 := by omega
          have NN1 := Lib.hid n1; have NN2 := Lib.hid n2
          clear n1 n2 hx hy hlo hhi e1
          obtain ⟨hx0, hx1⟩ := hx01; obtain ⟨hy0, hy1⟩ := hy01
          obtain ⟨hlo0, hlo1⟩ := n3; obtain ⟨hhi0, hhi1⟩ := n4
          rw [show ((k2 + 1 : Nat) : Int) - 1 = (k2 : Int) by omega]
          have hk0 : (0 : Int) ≤ k2 := by omega
          have hkn : (k2 : Int) < n := by omega
          have hkn2 : (64 : Int) + k2 < n := by omega
          have htn : (64 + (k2 : Int)).toNat = 64 + k2 := by omega
          go_wp2_with fail
          go_roundw
          case rel => exact ⟨k2, rfl, by omega, by rw [show 0 + k2 = k2 by omega, NN1.out], by rw [NN2.out], hB⟩
          case measure => simp [intOf]
        | zero =>
          go_wp2_with fail
          have hw0 := bl_from Hw.out hB
          refine bodyPost_ret (v := .tuple #[.agg #[.int .i64 (wrap64 (S / 2 ^ (64 + 0) % 2 ^ (64 - 0))), .int .u64 (S / 2 ^ (0 + 0) % 2 ^ (64 - 0))], .bool true]) (by simp [results, Try.results49, go_sem, k0_0, k0_1, kf0_0, kf0_1]) rfl ⟨?_, by (repeat (first | exact Below.refl _ _ | exact hw0 | refine Below.setCell ?_ (by first | (simp; done) | (simp; omega)) _ | refine Below.alloc ?_ (by first | (simp; done) | (simp; omega)) _ | refine bl_dN ?_ _ | refine Below.drew ?_))⟩
          rw [num_hi hIn.out, num_lo, wideRes, hIn.out]; rfl
end Go.Proofs.Yteomicjjaajblaa
