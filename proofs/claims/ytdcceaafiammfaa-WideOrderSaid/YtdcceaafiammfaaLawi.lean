import Derived.Test.YtdcceaafiammfaaProg
import Derived.Test.YtdcceaafiammfaaLawh
namespace Go.Proofs.Ytdcceaafiammfaa
open Go.RowKit
set_option linter.unusedSimpArgs false
set_option linter.unusedVariables false
set_option maxHeartbeats 4000000 in
set_option maxRecDepth 100000 in
theorem worder_law (hh ll : Nat → Int) (n m : Int) (w : World) (kk : ∀ i, i < 3 → WOk (hh i) (ll i)) (n1 : -9223372036854775808 ≤ n) (n2 : n ≤ 9223372036854775807) (m1 : -9223372036854775808 ≤ m) (m2 : m ≤ 9223372036854775807) :
    Calls Try.prog 11 #[.agg #[.int .i64 (hh 0), .int .u64 (ll 0), .int .i64 (hh 1), .int .u64 (ll 1), .int .i64 (hh 2), .int .u64 (ll 2)], .int .i64 n, .int .i64 m] w fun e w' => e = .returned (.bool true) ∧ Below w.heap.size w w' := by
  have KK := Lib.hid kk; clear kk
  have N1 := Lib.hid n1; have N2 := Lib.hid n2; have M1 := Lib.hid m1; have M2 := Lib.hid m2; clear n1 n2 m1 m2
  go_enter Try.func11, Try.ntmps11
  go_wp2_with fail
  first | with_reducible refine name_wp ?_ | with_reducible refine name_calls ?_
  intro W hWeq
  have g0 : W.heap[w.heap.size]? = some (.cells #[.int .i64 (hh 0), .int .u64 (ll 0), .int .i64 (hh 1), .int .u64 (ll 1), .int .i64 (hh 2), .int .u64 (ll 2)] 70) := by rw [hWeq]; repeat (first | (with_reducible exact blk_newAt _ _ (by simp)) | with_reducible refine blk_drew ?_ | with_reducible refine blk_dN ?_ _ | with_reducible refine blk_old ?_ _)
  have hw : Below w.heap.size w W := by rw [hWeq]; repeat (first | with_reducible exact Below.refl _ _ | with_reducible refine Below.drew ?_ | with_reducible refine bl_dN ?_ _ | with_reducible refine Below.alloc ?_ (by simp <;> omega) _)
  clear hWeq
  have hz : w.heap.size + 1 ≤ W.heap.size := by have := blk_lt g0; omega
  have c0_0 : W.cell? ⟨w.heap.size, 0, none⟩ = some (.int .i64 (hh 0)) := blk_cell g0 0
  have c0_1 : W.cell? ⟨w.heap.size, 1, none⟩ = some (.int .u64 (ll 0)) := blk_cell g0 1
  have c0_2 : W.cell? ⟨w.heap.size, 2, none⟩ = some (.int .i64 (hh 1)) := blk_cell g0 2
  have c0_3 : W.cell? ⟨w.heap.size, 3, none⟩ = some (.int .u64 (ll 1)) := blk_cell g0 3
  have c0_4 : W.cell? ⟨w.heap.size, 4, none⟩ = some (.int .i64 (hh 2)) := blk_cell g0 4
  have c0_5 : W.cell? ⟨w.heap.size, 5, none⟩ = some (.int .u64 (ll 2)) := blk_cell g0 5
  have f0 : ∀ j, W.frozen? ⟨w.heap.size, j, none⟩ = false := blk_free g0
  have hB : Below W.heap.size W W := Below.refl _ _
  have G0 := Lib.hid g0; clear g0
  have F0 := Lib.hid f0; clear f0
  have Hw := Lib.hid hw; clear hw
  have HT := Lib.hid (show ∀ i, i < 3 → W.cell? ⟨w.heap.size, i * 2, none⟩ = some (.int .i64 (hh i)) ∧ W.cell? ⟨w.heap.size, i * 2 + 1, none⟩ = some (.int .u64 (ll i)) from by
    intro i hi
    match i, hi with
    | 0, _ => exact ⟨c0_0, c0_1⟩
    | 1, _ => exact ⟨c0_2, c0_3⟩
    | 2, _ => exact ⟨c0_4, c0_5⟩)
  clear c0_0 c0_1 c0_2 c0_3 c0_4 c0_5 F0 G0
  go_loopw [7, 8, 9, 10, 11, 12, 13, 14, 15, 16, 17, 18, 19, 20] (fun i _ _ _ _ _ _ _ _ _ _ _ _ _ wr => ∃ k : Nat, i = .int .i64 k ∧ k ≤ 3 ∧ Below W.heap.size W wr) (fun i _ _ _ _ _ _ _ _ _ _ _ _ _ _ => 3 - (intOf i).toNat)
  case atStart => exact ⟨0, rfl, by omega, hB⟩
  case round =>
    obtain ⟨i, rfl, hi, hB⟩ := hrel
    by_cases hil : i < 3
    · have hdi : decide ((i : Int) < 3) = true := by simp; omega
      go_wp2_with fail
      go_loopw [8, 9, 10, 11, 12, 13, 14, 15, 16, 17, 18, 19, 20] (fun i _ _ _ _ _ _ _ _ _ _ _ _ wr => ∃ k : Nat, i = .int .i64 k ∧ k ≤ 3 ∧ Below W.heap.size W wr) (fun i _ _ _ _ _ _ _ _ _ _ _ _ _ => 3 - (intOf i).toNat)
      case atStart => exact ⟨0, rfl, by omega, hB⟩
      case round =>
        obtain ⟨j, rfl, hj, hB⟩ := hrel
        by_cases hjl : j < 3
        · have hdj : decide ((j : Int) < 3) = true := by simp; omega
          obtain ⟨t0, t1⟩ := HT.out i hil
          obtain ⟨t2, t3⟩ := HT.out j hjl
          have k0 := cb hB t0; have k1 := cb hB t1; have k2 := cb hB t2; have k3 := cb hB t3
          have hzB : w.heap.size < wr.heap.size := by have := hB.size; omega
          clear t0 t1 t2 t3
          go_upto_region 9 with fail
          have hBW := hB
          obtain ⟨wo, rfl⟩ : ∃ wo : World, wo = wr := ⟨_, rfl⟩
          obtain ⟨a, ha⟩ : ∃ a, hh i = a := ⟨_, rfl⟩
          obtain ⟨b, hb⟩ : ∃ b, ll i = b := ⟨_, rfl⟩
          obtain ⟨c, hc⟩ : ∃ c, hh j = c := ⟨_, rfl⟩
          obtain ⟨d, hd⟩ : ∃ d, ll j = d := ⟨_, rfl⟩
          have KA := Lib.hid (show WOk a b by rw [← ha, ← hb]; exact KK.out i hil)
          have KC := Lib.hid (show WOk c d by rw [← hc, ← hd]; exact KK.out j hjl)
          rw [ha, hb, hc, hd]
          clear ha hb hc hd k0 k1 k2 k3
          first | with_reducible refine name_wp ?_ | with_reducible refine name_calls ?_
          intro V hWeq
          have g0 : V.heap[wo.heap.size]? = some (.cells #[.int .i64 a, .int .u64 b] 57) := by rw [hWeq]; repeat (first | (with_reducible exact blk_newAt _ _ (by simp)) | with_reducible refine blk_drew ?_ | with_reducible refine blk_dN ?_ _ | with_reducible refine blk_old ?_ _)
          have g1 : V.heap[wo.heap.size + 1]? = some (.cells #[.int .i64 c, .int .u64 d] 57) := by rw [hWeq]; repeat (first | (with_reducible exact blk_newAt _ _ (by simp)) | with_reducible refine blk_drew ?_ | with_reducible refine blk_dN ?_ _ | with_reducible refine blk_old ?_ _)
          have hw : Below wo.heap.size wo V := by rw [hWeq]; repeat (first | with_reducible exact Below.refl _ _ | with_reducible refine Below.drew ?_ | with_reducible refine bl_dN ?_ _ | with_reducible refine Below.alloc ?_ (by simp <;> omega) _)
          clear hWeq
          have hz : wo.heap.size + 2 ≤ V.heap.size := by have := blk_lt g1; omega
          have c0_0 : V.cell? ⟨wo.heap.size, 0, none⟩ = some (.int .i64 a) := blk_cell g0 0
          have c0_1 : V.cell? ⟨wo.heap.size, 1, none⟩ = some (.int .u64 b) := blk_cell g0 1
          have f0 : ∀ j, V.frozen? ⟨wo.heap.size, j, none⟩ = false := blk_free g0
          have c1_0 : V.cell? ⟨wo.heap.size + 1, 0, none⟩ = some (.int .i64 c) := blk_cell g1 0
          have c1_1 : V.cell? ⟨wo.heap.size + 1, 1, none⟩ = some (.int .u64 d) := blk_cell g1 1
          have f1 : ∀ j, V.frozen? ⟨wo.heap.size + 1, j, none⟩ = false := blk_free g1
          have hB : Below V.heap.size V V := Below.refl _ _
          have G0 := Lib.hid g0; clear g0
          have F0 := Lib.hid f0; clear f0
          have G1 := Lib.hid g1; clear g1
          have F1 := Lib.hid f1; clear f1
          have Hw := Lib.hid hw; clear hw
          have hWV := Lib.hid (bl_next hBW Hw.out : Below W.heap.size W V)
          obtain ⟨X, hX⟩ : ∃ X, X = wval a b := ⟨_, rfl⟩
          obtain ⟨Y, hY⟩ : ∃ Y, Y = wval c d := ⟨_, rfl⟩
          have HX := Lib.hid hX.symm; have HY := Lib.hid hY.symm; clear hX hY
          obtain ⟨C, hC⟩ : ∃ C, C = sgn X Y := ⟨_, rfl⟩
          have RC := Lib.hid hC.symm; clear hC
          go_upto_region 10 with (go_at_call 49; refine (wcmp_calls _ _ _ _ _ KA.out KC.out).mono ?_; rintro e w' ⟨rfl, hb⟩; rw [HX.out, HY.out, RC.out]; have hB := bl_next (by repeat (first | with_reducible exact hB | refine Below.alloc ?_ (by have := hB.size; simp; omega) _ | refine bl_dN ?_ _ | refine Below.drew ?_ | refine Below.setCell ?_ (by have := hB.size; simp; omega) _)) hb; clear hb; have k0_0 := cb hB c0_0; have k0_1 := cb hB c0_1; have k1_0 := cb hB c1_0; have k1_1 := cb hB c1_1; have kz0 : wo.heap.size < _ := lt_of_cell k0_0; have kz1 : wo.heap.size + 1 < _ := lt_of_cell k1_0)
          go_cut [62] from 41 to 61 (fun s62 wc => s62 = .bool false ∧ Below V.heap.size V wc)
          case first =>
            by_cases heq : a = c ∧ b = d
            · obtain ⟨rfl, rfl⟩ := heq
              have hxy : X = Y := by rw [← HX.out, ← HY.out]
              obtain rfl : C = 0 := by rw [← RC.out]; exact sgn_eq hxy
              subst hxy
              have RD := Lib.hid (sgn_eq (rfl : X = X))
              go_wp2_with (go_at_call 49; refine (wcmp_calls _ _ _ _ _ KC.out KA.out).mono ?_; rintro e w' ⟨rfl, hb⟩; rw [HX.out, RD.out]; have hB := bl_next (by repeat (first | with_reducible exact hB | refine Below.alloc ?_ (by have := hB.size; simp; omega) _ | refine bl_dN ?_ _ | refine Below.drew ?_ | refine Below.setCell ?_ (by have := hB.size; simp; omega) _)) hb; clear hb; have k0_0 := cb hB c0_0; have k0_1 := cb hB c0_1; have k1_0 := cb hB c1_0; have k1_1 := cb hB c1_1; have kz0 : wo.heap.size < _ := lt_of_cell k0_0; have kz1 : wo.heap.size + 1 < _ := lt_of_cell k1_0)
              go_meet
              exact ⟨rfl, hB⟩
            · have hxy : X ≠ Y := by rw [← HX.out, ← HY.out]; exact fun e => heq (wval_inj KA.out KC.out e)
              by_cases hlt : X < Y
              · obtain rfl : C = -1 := by rw [← RC.out]; exact sgn_lt hlt
                have RD := Lib.hid (sgn_gt hlt)
                clear hxy hlt
                by_cases hac : a = c
                · subst hac
                  have hbd : ¬ b = d := fun e => heq ⟨rfl, e⟩
                  clear heq
                  go_wp2_with (go_at_call 49; refine (wcmp_calls _ _ _ _ _ KC.out KA.out).mono ?_; rintro e w' ⟨rfl, hb⟩; rw [HX.out, HY.out, RD.out]; have hB := bl_next (by repeat (first | with_reducible exact hB | refine Below.alloc ?_ (by have := hB.size; simp; omega) _ | refine bl_dN ?_ _ | refine Below.drew ?_ | refine Below.setCell ?_ (by have := hB.size; simp; omega) _)) hb; clear hb; have k0_0 := cb hB c0_0; have k0_1 := cb hB c0_1; have k1_0 := cb hB c1_0; have k1_1 := cb hB c1_1; have kz0 : wo.heap.size < _ := lt_of_cell k0_0; have kz1 : wo.heap.size + 1 < _ := lt_of_cell k1_0)
                  go_meet
                  exact ⟨rfl, hB⟩
                · clear heq
                  go_wp2_with (go_at_call 49; refine (wcmp_calls _ _ _ _ _ KC.out KA.out).mono ?_; rintro e w' ⟨rfl, hb⟩; rw [HX.out, HY.out, RD.out]; have hB := bl_next (by repeat (first | with_reducible exact hB | refine Below.alloc ?_ (by have := hB.size; simp; omega) _ | refine bl_dN ?_ _ | refine Below.drew ?_ | refine Below.setCell ?_ (by have := hB.size; simp; omega) _)) hb; clear hb; have k0_0 := cb hB c0_0; have k0_1 := cb hB c0_1; have k1_0 := cb hB c1_0; have k1_1 := cb hB c1_1; have kz0 : wo.heap.size < _ := lt_of_cell k0_0; have kz1 : wo.heap.size + 1 < _ := lt_of_cell k1_0)
                  go_meet
                  exact ⟨rfl, hB⟩
              · obtain rfl : C = 1 := by rw [← RC.out]; exact sgn_gt (by omega)
                have RD := Lib.hid (sgn_lt (show Y < X by omega))
                clear hxy hlt
                by_cases hac : a = c
                · subst hac
                  have hbd : ¬ b = d := fun e => heq ⟨rfl, e⟩
                  clear heq
                  go_wp2_with (go_at_call 49; refine (wcmp_calls _ _ _ _ _ KC.out KA.out).mono ?_; rintro e w' ⟨rfl, hb⟩; rw [HX.out, HY.out, RD.out]; have hB := bl_next (by repeat (first | with_reducible exact hB | refine Below.alloc ?_ (by have := hB.size; simp; omega) _ | refine bl_dN ?_ _ | refine Below.drew ?_ | refine Below.setCell ?_ (by have := hB.size; simp; omega) _)) hb; clear hb; have k0_0 := cb hB c0_0; have k0_1 := cb hB c0_1; have k1_0 := cb hB c1_0; have k1_1 := cb hB c1_1; have kz0 : wo.heap.size < _ := lt_of_cell k0_0; have kz1 : wo.heap.size + 1 < _ := lt_of_cell k1_0)
                  go_meet
                  exact ⟨rfl, hB⟩
                · clear heq
                  go_wp2_with (go_at_call 49; refine (wcmp_calls _ _ _ _ _ KC.out KA.out).mono ?_; rintro e w' ⟨rfl, hb⟩; rw [HX.out, HY.out, RD.out]; have hB := bl_next (by repeat (first | with_reducible exact hB | refine Below.alloc ?_ (by have := hB.size; simp; omega) _ | refine bl_dN ?_ _ | refine Below.drew ?_ | refine Below.setCell ?_ (by have := hB.size; simp; omega) _)) hb; clear hb; have k0_0 := cb hB c0_0; have k0_1 := cb hB c0_1; have k1_0 := cb hB c1_0; have k1_1 := cb hB c1_1; have kz0 : wo.heap.size < _ := lt_of_cell k0_0; have kz1 : wo.heap.size + 1 < _ := lt_of_cell k1_0)
                  go_meet
                  exact ⟨rfl, hB⟩
          case rest =>
            obtain ⟨rfl, hB⟩ := hcut
            have k0_0 := cb hB c0_0
            have k0_1 := cb hB c0_1
            have k1_0 := cb hB c1_0
            have k1_1 := cb hB c1_1
            have kz0 : wo.heap.size < _ := lt_of_cell k0_0
            have kz1 : wo.heap.size + 1 < _ := lt_of_cell k1_0
            go_wp2_with fail
            go_loopw [12, 13, 14, 15, 16, 17, 18, 19, 20] (fun n _ _ _ _ _ _ _ _ wn => ∃ k : Nat, n = .int .i64 k ∧ k ≤ 3 ∧ Below V.heap.size V wn) (fun n _ _ _ _ _ _ _ _ _ => 3 - (intOf n).toNat)
            case atStart => exact ⟨0, rfl, by omega, hB⟩
            case round =>
              obtain ⟨k, rfl, hk, hB⟩ := hrel
              by_cases hkl : k < 3
              · have hdk : decide ((k : Int) < 3) = true := by simp; omega
                obtain ⟨t6, t7⟩ := HT.out k hkl
                obtain ⟨p, hp⟩ : ∃ p, hh k = p := ⟨_, rfl⟩
                obtain ⟨q, hq⟩ : ∃ q, ll k = q := ⟨_, rfl⟩
                have KP := Lib.hid (show WOk p q by rw [← hp, ← hq]; exact KK.out k hkl)
                rw [hp] at t6; rw [hq] at t7
                have v0 := cb hWV.out t6; have v1 := cb hWV.out t7
                clear hp hq t6 t7 k0_0 k0_1 k1_0 k1_1
                obtain ⟨Z, hZ⟩ : ∃ Z, Z = wval p q := ⟨_, rfl⟩
                have HZ := Lib.hid hZ.symm; clear hZ
                have hki : (k : Int) < 3 := by omega
                go_upto_region 15 with fail
                go_cut [84] from 67 to 83 (fun s84 wc => s84 = .bool false ∧ Below V.heap.size V wc)
                case first =>
                  rcases Int.lt_trichotomy X Y with hlt | heq | hgt
                  · obtain rfl : C = -1 := by rw [← RC.out]; exact sgn_lt hlt
                    rcases Int.lt_trichotomy Y Z with h2 | h2 | h2
                    · have RYZ := Lib.hid (sgn_lt h2)
                      have RXZ := Lib.hid (sgn_lt (show X < Z by omega))
                      have hB := hB.drew
                      refine region_seq (fun w' => Below V.heap.size V w') [(0, true), (1, true), (2, true), (3, true), (4, true), (5, true), (6, true), (7, false), (8, true), (9, true), (10, true), (11, true), (12, true), (13, true), (14, true), (15, false), (16, true), (17, true)] (by kernel_rfl) (by kernel_rfl) (fun _ _ _ _ h => h) hB ?_
                      try generalize World.drew _ = wS at hB ⊢
                      refine seq_take (v := ?_) (a' := ?_) (some 67) rfl rfl (by rfl) ?_ ?_ ?_
                      rotate_left; rotate_left
                      · intro w' hS; go_simp; with_reducible rfl
                      · simp only [Act.put, List.setIfInBounds_toArray, List.set_cons_zero, List.set_cons_succ]; rfl
                      refine seq_take (v := ?_) (a' := ?_) (some 68) rfl rfl (by rfl) ?_ ?_ ?_
                      rotate_left; rotate_left
                      · intro w' hS; go_simp; with_reducible rfl
                      · simp only [Act.put, List.setIfInBounds_toArray, List.set_cons_zero, List.set_cons_succ]; rfl
                      refine seq_take (v := ?_) (a' := ?_) (some 69) rfl rfl (by rfl) ?_ ?_ ?_
                      rotate_left; rotate_left
                      · intro w' hS; go_simp; with_reducible rfl
                      · simp only [Act.put, List.setIfInBounds_toArray, List.set_cons_zero, List.set_cons_succ]; rfl
                      refine seq_take (v := ?_) (a' := ?_) (some 70) rfl rfl (by rfl) ?_ ?_ ?_
                      rotate_left; rotate_left
                      · intro w' hS; have s0_0 := cb hS c0_0; have s0_1 := cb hS c0_1; have s1_0 := cb hS c1_0; have s1_1 := cb hS c1_1; have s8 := cb hS v0; have s9 := cb hS v1; go_simp; with_reducible rfl
                      · simp only [Act.put, List.setIfInBounds_toArray, List.set_cons_zero, List.set_cons_succ]; rfl
                      refine seq_take (v := ?_) (a' := ?_) (some 71) rfl rfl (by rfl) ?_ ?_ ?_
                      rotate_left; rotate_left
                      · intro w' hS; go_simp; with_reducible rfl
                      · simp only [Act.put, List.setIfInBounds_toArray, List.set_cons_zero, List.set_cons_succ]; rfl
                      refine seq_take (v := ?_) (a' := ?_) (some 72) rfl rfl (by rfl) ?_ ?_ ?_
                      rotate_left; rotate_left
                      · intro w' hS; go_simp; with_reducible rfl
                      · simp only [Act.put, List.setIfInBounds_toArray, List.set_cons_zero, List.set_cons_succ]; rfl
                      refine seq_take (v := ?_) (a' := ?_) (some 73) rfl rfl (by rfl) ?_ ?_ ?_
                      rotate_left; rotate_left
                      · intro w' hS; have s0_0 := cb hS c0_0; have s0_1 := cb hS c0_1; have s1_0 := cb hS c1_0; have s1_1 := cb hS c1_1; have s8 := cb hS v0; have s9 := cb hS v1; go_simp; with_reducible rfl
                      · simp only [Act.put, List.setIfInBounds_toArray, List.set_cons_zero, List.set_cons_succ]; rfl
                      refine seq_call (args := ?_) Try.func49 (by kernel_rfl) rfl (some 74) rfl rfl (by rfl) rfl ?_ ?_
                      rotate_left
                      · simp only [List.map_toArray, List.map_cons, List.map_nil]; go_simp; rfl
                      with_reducible refine (wcmp_calls _ _ _ _ _ (by first | exact KA.out | exact KC.out) KP.out).mono ?_
                      rintro e w' ⟨rfl, hb⟩
                      (first | rw [HX.out, HZ.out, RXZ.out] | rw [HY.out, HZ.out, RYZ.out])
                      refine ⟨_, rfl, bl_next (by repeat (first | with_reducible exact hB | refine Below.alloc ?_ (by have := hB.size; simp; omega) _ | refine bl_dN ?_ _ | refine Below.drew ?_ | refine Below.setCell ?_ (by have := hB.size; simp; omega) _)) hb, ?_⟩
                      have hB := bl_next (by repeat (first | with_reducible exact hB | refine Below.alloc ?_ (by have := hB.size; simp; omega) _ | refine bl_dN ?_ _ | refine Below.drew ?_ | refine Below.setCell ?_ (by have := hB.size; simp; omega) _)) hb; clear hb
                      simp only [Act.put, List.setIfInBounds_toArray, List.set_cons_zero, List.set_cons_succ]
                      refine seq_take (v := ?_) (a' := ?_) (some 75) rfl rfl (by rfl) ?_ ?_ ?_
                      rotate_left; rotate_left
                      · intro w' hS; go_simp; with_reducible rfl
                      · simp only [Act.put, List.setIfInBounds_toArray, List.set_cons_zero, List.set_cons_succ]; rfl
                      refine seq_take (v := ?_) (a' := ?_) (some 76) rfl rfl (by rfl) ?_ ?_ ?_
                      rotate_left; rotate_left
                      · intro w' hS; go_simp; with_reducible rfl
                      · simp only [Act.put, List.setIfInBounds_toArray, List.set_cons_zero, List.set_cons_succ]; rfl
                      refine seq_take (v := ?_) (a' := ?_) (some 77) rfl rfl (by rfl) ?_ ?_ ?_
                      rotate_left; rotate_left
                      · intro w' hS; go_simp; with_reducible rfl
                      · simp only [Act.put, List.setIfInBounds_toArray, List.set_cons_zero, List.set_cons_succ]; rfl
                      refine seq_take (v := ?_) (a' := ?_) (some 78) rfl rfl (by rfl) ?_ ?_ ?_
                      rotate_left; rotate_left
                      · intro w' hS; have s0_0 := cb hS c0_0; have s0_1 := cb hS c0_1; have s1_0 := cb hS c1_0; have s1_1 := cb hS c1_1; have s8 := cb hS v0; have s9 := cb hS v1; go_simp; with_reducible rfl
                      · simp only [Act.put, List.setIfInBounds_toArray, List.set_cons_zero, List.set_cons_succ]; rfl
                      refine seq_take (v := ?_) (a' := ?_) (some 79) rfl rfl (by rfl) ?_ ?_ ?_
                      rotate_left; rotate_left
                      · intro w' hS; go_simp; with_reducible rfl
                      · simp only [Act.put, List.setIfInBounds_toArray, List.set_cons_zero, List.set_cons_succ]; rfl
                      refine seq_take (v := ?_) (a' := ?_) (some 80) rfl rfl (by rfl) ?_ ?_ ?_
                      rotate_left; rotate_left
                      · intro w' hS; go_simp; with_reducible rfl
                      · simp only [Act.put, List.setIfInBounds_toArray, List.set_cons_zero, List.set_cons_succ]; rfl
                      refine seq_take (v := ?_) (a' := ?_) (some 81) rfl rfl (by rfl) ?_ ?_ ?_
                      rotate_left; rotate_left
                      · intro w' hS; have s0_0 := cb hS c0_0; have s0_1 := cb hS c0_1; have s1_0 := cb hS c1_0; have s1_1 := cb hS c1_1; have s8 := cb hS v0; have s9 := cb hS v1; go_simp; with_reducible rfl
                      · simp only [Act.put, List.setIfInBounds_toArray, List.set_cons_zero, List.set_cons_succ]; rfl
                      refine seq_call (args := ?_) Try.func49 (by kernel_rfl) rfl (some 82) rfl rfl (by rfl) rfl ?_ ?_
                      rotate_left
                      · simp only [List.map_toArray, List.map_cons, List.map_nil]; go_simp; rfl
                      with_reducible refine (wcmp_calls _ _ _ _ _ (by first | exact KA.out | exact KC.out) KP.out).mono ?_
                      rintro e w' ⟨rfl, hb⟩
                      (first | rw [HX.out, HZ.out, RXZ.out] | rw [HY.out, HZ.out, RYZ.out])
                      refine ⟨_, rfl, bl_next (by repeat (first | with_reducible exact hB | refine Below.alloc ?_ (by have := hB.size; simp; omega) _ | refine bl_dN ?_ _ | refine Below.drew ?_ | refine Below.setCell ?_ (by have := hB.size; simp; omega) _)) hb, ?_⟩
                      have hB := bl_next (by repeat (first | with_reducible exact hB | refine Below.alloc ?_ (by have := hB.size; simp; omega) _ | refine bl_dN ?_ _ | refine Below.drew ?_ | refine Below.setCell ?_ (by have := hB.size; simp; omega) _)) hb; clear hb
                      simp only [Act.put, List.setIfInBounds_toArray, List.set_cons_zero, List.set_cons_succ]
                      refine seq_take (v := ?_) (a' := ?_) (some 83) rfl rfl (by rfl) ?_ ?_ ?_
                      rotate_left; rotate_left
                      · intro w' hS; go_simp; with_reducible rfl
                      · simp only [Act.put, List.setIfInBounds_toArray, List.set_cons_zero, List.set_cons_succ]; rfl
                      refine seq_take (v := ?_) (a' := ?_) (some 84) rfl rfl (by rfl) ?_ ?_ ?_
                      rotate_left; rotate_left
                      · intro w' hS; go_simp; with_reducible rfl
                      · simp only [Act.put, List.setIfInBounds_toArray, List.set_cons_zero, List.set_cons_succ]; rfl
                      refine seq_done ?_
                      go_wp2_with fail
                      go_meet
                      exact ⟨rfl, hB⟩
                    · have RYZ := Lib.hid (sgn_eq h2)
                      have RXZ := RYZ
                      have hB := hB.drew
                      refine region_seq (fun w' => Below V.heap.size V w') [(0, true), (1, true), (2, true), (3, true), (4, true), (5, true), (6, true), (7, false), (8, true), (9, true), (10, true), (11, true), (12, true), (13, true), (14, true), (15, false), (16, true), (17, true)] (by kernel_rfl) (by kernel_rfl) (fun _ _ _ _ h => h) hB ?_
                      try generalize World.drew _ = wS at hB ⊢
                      refine seq_take (v := ?_) (a' := ?_) (some 67) rfl rfl (by rfl) ?_ ?_ ?_
                      rotate_left; rotate_left
                      · intro w' hS; go_simp; with_reducible rfl
                      · simp only [Act.put, List.setIfInBounds_toArray, List.set_cons_zero, List.set_cons_succ]; rfl
                      refine seq_take (v := ?_) (a' := ?_) (some 68) rfl rfl (by rfl) ?_ ?_ ?_
                      rotate_left; rotate_left
                      · intro w' hS; go_simp; with_reducible rfl
                      · simp only [Act.put, List.setIfInBounds_toArray, List.set_cons_zero, List.set_cons_succ]; rfl
                      refine seq_take (v := ?_) (a' := ?_) (some 69) rfl rfl (by rfl) ?_ ?_ ?_
                      rotate_left; rotate_left
                      · intro w' hS; go_simp; with_reducible rfl
                      · simp only [Act.put, List.setIfInBounds_toArray, List.set_cons_zero, List.set_cons_succ]; rfl
                      refine seq_take (v := ?_) (a' := ?_) (some 70) rfl rfl (by rfl) ?_ ?_ ?_
                      rotate_left; rotate_left
                      · intro w' hS; have s0_0 := cb hS c0_0; have s0_1 := cb hS c0_1; have s1_0 := cb hS c1_0; have s1_1 := cb hS c1_1; have s8 := cb hS v0; have s9 := cb hS v1; go_simp; with_reducible rfl
                      · simp only [Act.put, List.setIfInBounds_toArray, List.set_cons_zero, List.set_cons_succ]; rfl
                      refine seq_take (v := ?_) (a' := ?_) (some 71) rfl rfl (by rfl) ?_ ?_ ?_
                      rotate_left; rotate_left
                      · intro w' hS; go_simp; with_reducible rfl
                      · simp only [Act.put, List.setIfInBounds_toArray, List.set_cons_zero, List.set_cons_succ]; rfl
                      refine seq_take (v := ?_) (a' := ?_) (some 72) rfl rfl (by rfl) ?_ ?_ ?_
                      rotate_left; rotate_left
                      · intro w' hS; go_simp; with_reducible rfl
                      · simp only [Act.put, List.setIfInBounds_toArray, List.set_cons_zero, List.set_cons_succ]; rfl
                      refine seq_take (v := ?_) (a' := ?_) (some 73) rfl rfl (by rfl) ?_ ?_ ?_
                      rotate_left; rotate_left
                      · intro w' hS; have s0_0 := cb hS c0_0; have s0_1 := cb hS c0_1; have s1_0 := cb hS c1_0; have s1_1 := cb hS c1_1; have s8 := cb hS v0; have s9 := cb hS v1; go_simp; with_reducible rfl
                      · simp only [Act.put, List.setIfInBounds_toArray, List.set_cons_zero, List.set_cons_succ]; rfl
                      refine seq_call (args := ?_) Try.func49 (by kernel_rfl) rfl (some 74) rfl rfl (by rfl) rfl ?_ ?_
                      rotate_left
                      · simp only [List.map_toArray, List.map_cons, List.map_nil]; go_simp; rfl
                      with_reducible refine (wcmp_calls _ _ _ _ _ (by first | exact KA.out | exact KC.out) KP.out).mono ?_
                      rintro e w' ⟨rfl, hb⟩
                      (first | rw [HX.out, HZ.out, RXZ.out] | rw [HY.out, HZ.out, RYZ.out])
                      refine ⟨_, rfl, bl_next (by repeat (first | with_reducible exact hB | refine Below.alloc ?_ (by have := hB.size; simp; omega) _ | refine bl_dN ?_ _ | refine Below.drew ?_ | refine Below.setCell ?_ (by have := hB.size; simp; omega) _)) hb, ?_⟩
                      have hB := bl_next (by repeat (first | with_reducible exact hB | refine Below.alloc ?_ (by have := hB.size; simp; omega) _ | refine bl_dN ?_ _ | refine Below.drew ?_ | refine Below.setCell ?_ (by have := hB.size; simp; omega) _)) hb; clear hb
                      simp only [Act.put, List.setIfInBounds_toArray, List.set_cons_zero, List.set_cons_succ]
                      refine seq_take (v := ?_) (a' := ?_) (some 75) rfl rfl (by rfl) ?_ ?_ ?_
                      rotate_left; rotate_left
                      · intro w' hS; go_simp; with_reducible rfl
                      · simp only [Act.put, List.setIfInBounds_toArray, List.set_cons_zero, List.set_cons_succ]; rfl
                      refine seq_take (v := ?_) (a' := ?_) (some 76) rfl rfl (by rfl) ?_ ?_ ?_
                      rotate_left; rotate_left
                      · intro w' hS; go_simp; with_reducible rfl
                      · simp only [Act.put, List.setIfInBounds_toArray, List.set_cons_zero, List.set_cons_succ]; rfl
                      refine seq_take (v := ?_) (a' := ?_) (some 77) rfl rfl (by rfl) ?_ ?_ ?_
                      rotate_left; rotate_left
                      · intro w' hS; go_simp; with_reducible rfl
                      · simp only [Act.put, List.setIfInBounds_toArray, List.set_cons_zero, List.set_cons_succ]; rfl
                      refine seq_skip (a' := ?_) (some 78) rfl rfl (by rfl) ?_ ?_
                      rotate_left
                      · simp only [Act.put, List.setIfInBounds_toArray, List.set_cons_zero, List.set_cons_succ]; rfl
                      refine seq_skip (a' := ?_) (some 79) rfl rfl (by rfl) ?_ ?_
                      rotate_left
                      · simp only [Act.put, List.setIfInBounds_toArray, List.set_cons_zero, List.set_cons_succ]; rfl
                      refine seq_skip (a' := ?_) (some 80) rfl rfl (by rfl) ?_ ?_
                      rotate_left
                      · simp only [Act.put, List.setIfInBounds_toArray, List.set_cons_zero, List.set_cons_succ]; rfl
                      refine seq_skip (a' := ?_) (some 81) rfl rfl (by rfl) ?_ ?_
                      rotate_left
                      · simp only [Act.put, List.setIfInBounds_toArray, List.set_cons_zero, List.set_cons_succ]; rfl
                      refine seq_skip1 (a' := ?_) (some 82) rfl rfl (by rfl) ?_ hB ?_
                      rotate_left
                      · simp only [Act.put, List.setIfInBounds_toArray, List.set_cons_zero, List.set_cons_succ]; rfl
                      refine seq_skip (a' := ?_) (some 83) rfl rfl (by rfl) ?_ ?_
                      rotate_left
                      · simp only [Act.put, List.setIfInBounds_toArray, List.set_cons_zero, List.set_cons_succ]; rfl
                      refine seq_take (v := ?_) (a' := ?_) (some 84) rfl rfl (by rfl) ?_ ?_ ?_
                      rotate_left; rotate_left
                      · intro w' hS; go_simp; with_reducible rfl
                      · simp only [Act.put, List.setIfInBounds_toArray, List.set_cons_zero, List.set_cons_succ]; rfl
                      refine seq_done ?_
                      go_wp2_with fail
                      go_meet
                      exact ⟨rfl, hB⟩
                    · have RYZ := Lib.hid (sgn_gt h2)
                      have RXZ := RYZ
                      have hB := hB.drew
                      refine region_seq (fun w' => Below V.heap.size V w') [(0, true), (1, true), (2, true), (3, true), (4, true), (5, true), (6, true), (7, false), (8, true), (9, true), (10, true), (11, true), (12, true), (13, true), (14, true), (15, false), (16, true), (17, true)] (by kernel_rfl) (by kernel_rfl) (fun _ _ _ _ h => h) hB ?_
                      try generalize World.drew _ = wS at hB ⊢
                      refine seq_take (v := ?_) (a' := ?_) (some 67) rfl rfl (by rfl) ?_ ?_ ?_
                      rotate_left; rotate_left
                      · intro w' hS; go_simp; with_reducible rfl
                      · simp only [Act.put, List.setIfInBounds_toArray, List.set_cons_zero, List.set_cons_succ]; rfl
                      refine seq_take (v := ?_) (a' := ?_) (some 68) rfl rfl (by rfl) ?_ ?_ ?_
                      rotate_left; rotate_left
                      · intro w' hS; go_simp; with_reducible rfl
                      · simp only [Act.put, List.setIfInBounds_toArray, List.set_cons_zero, List.set_cons_succ]; rfl
                      refine seq_take (v := ?_) (a' := ?_) (some 69) rfl rfl (by rfl) ?_ ?_ ?_
                      rotate_left; rotate_left
                      · intro w' hS; go_simp; with_reducible rfl
                      · simp only [Act.put, List.setIfInBounds_toArray, List.set_cons_zero, List.set_cons_succ]; rfl
                      refine seq_take (v := ?_) (a' := ?_) (some 70) rfl rfl (by rfl) ?_ ?_ ?_
                      rotate_left; rotate_left
                      · intro w' hS; have s0_0 := cb hS c0_0; have s0_1 := cb hS c0_1; have s1_0 := cb hS c1_0; have s1_1 := cb hS c1_1; have s8 := cb hS v0; have s9 := cb hS v1; go_simp; with_reducible rfl
                      · simp only [Act.put, List.setIfInBounds_toArray, List.set_cons_zero, List.set_cons_succ]; rfl
                      refine seq_take (v := ?_) (a' := ?_) (some 71) rfl rfl (by rfl) ?_ ?_ ?_
                      rotate_left; rotate_left
                      · intro w' hS; go_simp; with_reducible rfl
                      · simp only [Act.put, List.setIfInBounds_toArray, List.set_cons_zero, List.set_cons_succ]; rfl
                      refine seq_take (v := ?_) (a' := ?_) (some 72) rfl rfl (by rfl) ?_ ?_ ?_
                      rotate_left; rotate_left
                      · intro w' hS; go_simp; with_reducible rfl
                      · simp only [Act.put, List.setIfInBounds_toArray, List.set_cons_zero, List.set_cons_succ]; rfl
                      refine seq_take (v := ?_) (a' := ?_) (some 73) rfl rfl (by rfl) ?_ ?_ ?_
                      rotate_left; rotate_left
                      · intro w' hS; have s0_0 := cb hS c0_0; have s0_1 := cb hS c0_1; have s1_0 := cb hS c1_0; have s1_1 := cb hS c1_1; have s8 := cb hS v0; have s9 := cb hS v1; go_simp; with_reducible rfl
                      · simp only [Act.put, List.setIfInBounds_toArray, List.set_cons_zero, List.set_cons_succ]; rfl
                      refine seq_call (args := ?_) Try.func49 (by kernel_rfl) rfl (some 74) rfl rfl (by rfl) rfl ?_ ?_
                      rotate_left
                      · simp only [List.map_toArray, List.map_cons, List.map_nil]; go_simp; rfl
                      with_reducible refine (wcmp_calls _ _ _ _ _ (by first | exact KA.out | exact KC.out) KP.out).mono ?_
                      rintro e w' ⟨rfl, hb⟩
                      (first | rw [HX.out, HZ.out, RXZ.out] | rw [HY.out, HZ.out, RYZ.out])
                      refine ⟨_, rfl, bl_next (by repeat (first | with_reducible exact hB | refine Below.alloc ?_ (by have := hB.size; simp; omega) _ | refine bl_dN ?_ _ | refine Below.drew ?_ | refine Below.setCell ?_ (by have := hB.size; simp; omega) _)) hb, ?_⟩
                      have hB := bl_next (by repeat (first | with_reducible exact hB | refine Below.alloc ?_ (by have := hB.size; simp; omega) _ | refine bl_dN ?_ _ | refine Below.drew ?_ | refine Below.setCell ?_ (by have := hB.size; simp; omega) _)) hb; clear hb
                      simp only [Act.put, List.setIfInBounds_toArray, List.set_cons_zero, List.set_cons_succ]
                      refine seq_take (v := ?_) (a' := ?_) (some 75) rfl rfl (by rfl) ?_ ?_ ?_
                      rotate_left; rotate_left
                      · intro w' hS; go_simp; with_reducible rfl
                      · simp only [Act.put, List.setIfInBounds_toArray, List.set_cons_zero, List.set_cons_succ]; rfl
                      refine seq_take (v := ?_) (a' := ?_) (some 76) rfl rfl (by rfl) ?_ ?_ ?_
                      rotate_left; rotate_left
                      · intro w' hS; go_simp; with_reducible rfl
                      · simp only [Act.put, List.setIfInBounds_toArray, List.set_cons_zero, List.set_cons_succ]; rfl
                      refine seq_take (v := ?_) (a' := ?_) (some 77) rfl rfl (by rfl) ?_ ?_ ?_
                      rotate_left; rotate_left
                      · intro w' hS; go_simp; with_reducible rfl
                      · simp only [Act.put, List.setIfInBounds_toArray, List.set_cons_zero, List.set_cons_succ]; rfl
                      refine seq_skip (a' := ?_) (some 78) rfl rfl (by rfl) ?_ ?_
                      rotate_left
                      · simp only [Act.put, List.setIfInBounds_toArray, List.set_cons_zero, List.set_cons_succ]; rfl
                      refine seq_skip (a' := ?_) (some 79) rfl rfl (by rfl) ?_ ?_
                      rotate_left
                      · simp only [Act.put, List.setIfInBounds_toArray, List.set_cons_zero, List.set_cons_succ]; rfl
                      refine seq_skip (a' := ?_) (some 80) rfl rfl (by rfl) ?_ ?_
                      rotate_left
                      · simp only [Act.put, List.setIfInBounds_toArray, List.set_cons_zero, List.set_cons_succ]; rfl
                      refine seq_skip (a' := ?_) (some 81) rfl rfl (by rfl) ?_ ?_
                      rotate_left
                      · simp only [Act.put, List.setIfInBounds_toArray, List.set_cons_zero, List.set_cons_succ]; rfl
                      refine seq_skip1 (a' := ?_) (some 82) rfl rfl (by rfl) ?_ hB ?_
                      rotate_left
                      · simp only [Act.put, List.setIfInBounds_toArray, List.set_cons_zero, List.set_cons_succ]; rfl
                      refine seq_skip (a' := ?_) (some 83) rfl rfl (by rfl) ?_ ?_
                      rotate_left
                      · simp only [Act.put, List.setIfInBounds_toArray, List.set_cons_zero, List.set_cons_succ]; rfl
                      refine seq_take (v := ?_) (a' := ?_) (some 84) rfl rfl (by rfl) ?_ ?_ ?_
                      rotate_left; rotate_left
                      · intro w' hS; go_simp; with_reducible rfl
                      · simp only [Act.put, List.setIfInBounds_toArray, List.set_cons_zero, List.set_cons_succ]; rfl
                      refine seq_done ?_
                      go_wp2_with fail
                      go_meet
                      exact ⟨rfl, hB⟩
                  · obtain rfl : C = 0 := by rw [← RC.out]; exact sgn_eq heq
                    have hB := hB.drew
                    refine region_seq (fun w' => Below V.heap.size V w') [(0, true), (1, true), (2, true), (3, true), (4, true), (5, true), (6, true), (7, false), (8, true), (9, true), (10, true), (11, true), (12, true), (13, true), (14, true), (15, false), (16, true), (17, true)] (by kernel_rfl) (by kernel_rfl) (fun _ _ _ _ h => h) hB ?_
                    try generalize World.drew _ = wS at hB ⊢
                    refine seq_take (v := ?_) (a' := ?_) (some 67) rfl rfl (by rfl) ?_ ?_ ?_
                    rotate_left; rotate_left
                    · intro w' hS; go_simp; with_reducible rfl
                    · simp only [Act.put, List.setIfInBounds_toArray, List.set_cons_zero, List.set_cons_succ]; rfl
                    refine seq_take (v := ?_) (a' := ?_) (some 68) rfl rfl (by rfl) ?_ ?_ ?_
                    rotate_left; rotate_left
                    · intro w' hS; go_simp; with_reducible rfl
                    · simp only [Act.put, List.setIfInBounds_toArray, List.set_cons_zero, List.set_cons_succ]; rfl
                    refine seq_take (v := ?_) (a' := ?_) (some 69) rfl rfl (by rfl) ?_ ?_ ?_
                    rotate_left; rotate_left
                    · intro w' hS; go_simp; with_reducible rfl
                    · simp only [Act.put, List.setIfInBounds_toArray, List.set_cons_zero, List.set_cons_succ]; rfl
                    refine seq_skip (a' := ?_) (some 70) rfl rfl (by rfl) ?_ ?_
                    rotate_left
                    · simp only [Act.put, List.setIfInBounds_toArray, List.set_cons_zero, List.set_cons_succ]; rfl
                    refine seq_skip (a' := ?_) (some 71) rfl rfl (by rfl) ?_ ?_
                    rotate_left
                    · simp only [Act.put, List.setIfInBounds_toArray, List.set_cons_zero, List.set_cons_succ]; rfl
                    refine seq_skip (a' := ?_) (some 72) rfl rfl (by rfl) ?_ ?_
                    rotate_left
                    · simp only [Act.put, List.setIfInBounds_toArray, List.set_cons_zero, List.set_cons_succ]; rfl
                    refine seq_skip (a' := ?_) (some 73) rfl rfl (by rfl) ?_ ?_
                    rotate_left
                    · simp only [Act.put, List.setIfInBounds_toArray, List.set_cons_zero, List.set_cons_succ]; rfl
                    refine seq_skip1 (a' := ?_) (some 74) rfl rfl (by rfl) ?_ hB ?_
                    rotate_left
                    · simp only [Act.put, List.setIfInBounds_toArray, List.set_cons_zero, List.set_cons_succ]; rfl
                    refine seq_skip (a' := ?_) (some 75) rfl rfl (by rfl) ?_ ?_
                    rotate_left
                    · simp only [Act.put, List.setIfInBounds_toArray, List.set_cons_zero, List.set_cons_succ]; rfl
                    refine seq_take (v := ?_) (a' := ?_) (some 76) rfl rfl (by rfl) ?_ ?_ ?_
                    rotate_left; rotate_left
                    · intro w' hS; go_simp; with_reducible rfl
                    · simp only [Act.put, List.setIfInBounds_toArray, List.set_cons_zero, List.set_cons_succ]; rfl
                    refine seq_take (v := ?_) (a' := ?_) (some 77) rfl rfl (by rfl) ?_ ?_ ?_
                    rotate_left; rotate_left
                    · intro w' hS; go_simp; with_reducible rfl
                    · simp only [Act.put, List.setIfInBounds_toArray, List.set_cons_zero, List.set_cons_succ]; rfl
                    refine seq_skip (a' := ?_) (some 78) rfl rfl (by rfl) ?_ ?_
                    rotate_left
                    · simp only [Act.put, List.setIfInBounds_toArray, List.set_cons_zero, List.set_cons_succ]; rfl
                    refine seq_skip (a' := ?_) (some 79) rfl rfl (by rfl) ?_ ?_
                    rotate_left
                    · simp only [Act.put, List.setIfInBounds_toArray, List.set_cons_zero, List.set_cons_succ]; rfl
                    refine seq_skip (a' := ?_) (some 80) rfl rfl (by rfl) ?_ ?_
                    rotate_left
                    · simp only [Act.put, List.setIfInBounds_toArray, List.set_cons_zero, List.set_cons_succ]; rfl
                    refine seq_skip (a' := ?_) (some 81) rfl rfl (by rfl) ?_ ?_
                    rotate_left
                    · simp only [Act.put, List.setIfInBounds_toArray, List.set_cons_zero, List.set_cons_succ]; rfl
                    refine seq_skip1 (a' := ?_) (some 82) rfl rfl (by rfl) ?_ hB ?_
                    rotate_left
                    · simp only [Act.put, List.setIfInBounds_toArray, List.set_cons_zero, List.set_cons_succ]; rfl
                    refine seq_skip (a' := ?_) (some 83) rfl rfl (by rfl) ?_ ?_
                    rotate_left
                    · simp only [Act.put, List.setIfInBounds_toArray, List.set_cons_zero, List.set_cons_succ]; rfl
                    refine seq_take (v := ?_) (a' := ?_) (some 84) rfl rfl (by rfl) ?_ ?_ ?_
                    rotate_left; rotate_left
                    · intro w' hS; go_simp; with_reducible rfl
                    · simp only [Act.put, List.setIfInBounds_toArray, List.set_cons_zero, List.set_cons_succ]; rfl
                    refine seq_done ?_
                    go_wp2_with fail
                    go_meet
                    exact ⟨rfl, hB⟩
                  · obtain rfl : C = 1 := by rw [← RC.out]; exact sgn_gt hgt
                    have hB := hB.drew
                    refine region_seq (fun w' => Below V.heap.size V w') [(0, true), (1, true), (2, true), (3, true), (4, true), (5, true), (6, true), (7, false), (8, true), (9, true), (10, true), (11, true), (12, true), (13, true), (14, true), (15, false), (16, true), (17, true)] (by kernel_rfl) (by kernel_rfl) (fun _ _ _ _ h => h) hB ?_
                    try generalize World.drew _ = wS at hB ⊢
                    refine seq_take (v := ?_) (a' := ?_) (some 67) rfl rfl (by rfl) ?_ ?_ ?_
                    rotate_left; rotate_left
                    · intro w' hS; go_simp; with_reducible rfl
                    · simp only [Act.put, List.setIfInBounds_toArray, List.set_cons_zero, List.set_cons_succ]; rfl
                    refine seq_take (v := ?_) (a' := ?_) (some 68) rfl rfl (by rfl) ?_ ?_ ?_
                    rotate_left; rotate_left
                    · intro w' hS; go_simp; with_reducible rfl
                    · simp only [Act.put, List.setIfInBounds_toArray, List.set_cons_zero, List.set_cons_succ]; rfl
                    refine seq_take (v := ?_) (a' := ?_) (some 69) rfl rfl (by rfl) ?_ ?_ ?_
                    rotate_left; rotate_left
                    · intro w' hS; go_simp; with_reducible rfl
                    · simp only [Act.put, List.setIfInBounds_toArray, List.set_cons_zero, List.set_cons_succ]; rfl
                    refine seq_skip (a' := ?_) (some 70) rfl rfl (by rfl) ?_ ?_
                    rotate_left
                    · simp only [Act.put, List.setIfInBounds_toArray, List.set_cons_zero, List.set_cons_succ]; rfl
                    refine seq_skip (a' := ?_) (some 71) rfl rfl (by rfl) ?_ ?_
                    rotate_left
                    · simp only [Act.put, List.setIfInBounds_toArray, List.set_cons_zero, List.set_cons_succ]; rfl
                    refine seq_skip (a' := ?_) (some 72) rfl rfl (by rfl) ?_ ?_
                    rotate_left
                    · simp only [Act.put, List.setIfInBounds_toArray, List.set_cons_zero, List.set_cons_succ]; rfl
                    refine seq_skip (a' := ?_) (some 73) rfl rfl (by rfl) ?_ ?_
                    rotate_left
                    · simp only [Act.put, List.setIfInBounds_toArray, List.set_cons_zero, List.set_cons_succ]; rfl
                    refine seq_skip1 (a' := ?_) (some 74) rfl rfl (by rfl) ?_ hB ?_
                    rotate_left
                    · simp only [Act.put, List.setIfInBounds_toArray, List.set_cons_zero, List.set_cons_succ]; rfl
                    refine seq_skip (a' := ?_) (some 75) rfl rfl (by rfl) ?_ ?_
                    rotate_left
                    · simp only [Act.put, List.setIfInBounds_toArray, List.set_cons_zero, List.set_cons_succ]; rfl
                    refine seq_take (v := ?_) (a' := ?_) (some 76) rfl rfl (by rfl) ?_ ?_ ?_
                    rotate_left; rotate_left
                    · intro w' hS; go_simp; with_reducible rfl
                    · simp only [Act.put, List.setIfInBounds_toArray, List.set_cons_zero, List.set_cons_succ]; rfl
                    refine seq_take (v := ?_) (a' := ?_) (some 77) rfl rfl (by rfl) ?_ ?_ ?_
                    rotate_left; rotate_left
                    · intro w' hS; go_simp; with_reducible rfl
                    · simp only [Act.put, List.setIfInBounds_toArray, List.set_cons_zero, List.set_cons_succ]; rfl
                    refine seq_skip (a' := ?_) (some 78) rfl rfl (by rfl) ?_ ?_
                    rotate_left
                    · simp only [Act.put, List.setIfInBounds_toArray, List.set_cons_zero, List.set_cons_succ]; rfl
                    refine seq_skip (a' := ?_) (some 79) rfl rfl (by rfl) ?_ ?_
                    rotate_left
                    · simp only [Act.put, List.setIfInBounds_toArray, List.set_cons_zero, List.set_cons_succ]; rfl
                    refine seq_skip (a' := ?_) (some 80) rfl rfl (by rfl) ?_ ?_
                    rotate_left
                    · simp only [Act.put, List.setIfInBounds_toArray, List.set_cons_zero, List.set_cons_succ]; rfl
                    refine seq_skip (a' := ?_) (some 81) rfl rfl (by rfl) ?_ ?_
                    rotate_left
                    · simp only [Act.put, List.setIfInBounds_toArray, List.set_cons_zero, List.set_cons_succ]; rfl
                    refine seq_skip1 (a' := ?_) (some 82) rfl rfl (by rfl) ?_ hB ?_
                    rotate_left
                    · simp only [Act.put, List.setIfInBounds_toArray, List.set_cons_zero, List.set_cons_succ]; rfl
                    refine seq_skip (a' := ?_) (some 83) rfl rfl (by rfl) ?_ ?_
                    rotate_left
                    · simp only [Act.put, List.setIfInBounds_toArray, List.set_cons_zero, List.set_cons_succ]; rfl
                    refine seq_take (v := ?_) (a' := ?_) (some 84) rfl rfl (by rfl) ?_ ?_ ?_
                    rotate_left; rotate_left
                    · intro w' hS; go_simp; with_reducible rfl
                    · simp only [Act.put, List.setIfInBounds_toArray, List.set_cons_zero, List.set_cons_succ]; rfl
                    refine seq_done ?_
                    go_wp2_with fail
                    go_meet
                    exact ⟨rfl, hB⟩
                case rest =>
                  obtain ⟨rfl, hB⟩ := hcut
                  have k0_0 := cb hB c0_0
                  have k0_1 := cb hB c0_1
                  have k1_0 := cb hB c1_0
                  have k1_1 := cb hB c1_1
                  have kz0 : wo.heap.size < _ := lt_of_cell k0_0
                  have kz1 : wo.heap.size + 1 < _ := lt_of_cell k1_0
                  have u0 := cb hB v0; have u1 := cb hB v1
                  obtain ⟨xh, xl, xe, RA, KX, VX⟩ := wide_parts (X + Z)
                  obtain ⟨yh, yl, ye, RB, KY, VY⟩ := wide_parts (Y + Z)
                  obtain ⟨uh, ul, ue, RU, KU, VU⟩ := wide_parts (Z - X)
                  obtain ⟨vh, vl, ve, RV, KV, VV⟩ := wide_parts (Z - Y)
                  go_upto_region 17 with fail
                  go_cut [13, 14] from 85 to 92 (fun s13 s14 wc => ∃ b : Nat, s13 = .pointer (some ⟨b, 0, none⟩) ∧ s14 = .bool xe ∧ wc.heap[b]? = some (.cells #[.int .i64 xh, .int .u64 xl] 57) ∧ V.heap.size ≤ b ∧ Below V.heap.size V wc)
                  case first =>
                    have hB := hB.drew
                    refine region_plan (fun w' => Below V.heap.size V w') (.take 0 (.take 1 (.take 2 (.take 3 (.both 4 8 (.take 5 (.take 6 (.take 7 (.only 8 (.only 9 (.take 10 .done)))))) (.only 4 (.take 5 (.take 6 (.take 7 (.only 9 (.take 10 .done))))))))))) (by kernel_rfl) (by kernel_rfl) (fun _ _ _ _ h => h) hB ?_
                    try generalize World.drew _ = wS at hB ⊢
                    refine plan_take (v := ?_) (a' := ?_) (some 86) rfl rfl (by rfl) ?_ ?_ ?_
                    rotate_left; rotate_left
                    · intro w' hS; have s0_0 := cb hS c0_0; have s0_1 := cb hS c0_1; have s1_0 := cb hS c1_0; have s1_1 := cb hS c1_1; have s8 := cb hS v0; have s9 := cb hS v1; go_simp; with_reducible rfl
                    · simp only [Act.put, List.setIfInBounds_toArray, List.set_cons_zero, List.set_cons_succ]; rfl
                    refine plan_take (v := ?_) (a' := ?_) (some 87) rfl rfl (by rfl) ?_ ?_ ?_
                    rotate_left; rotate_left
                    · intro w' hS; go_simp; with_reducible rfl
                    · simp only [Act.put, List.setIfInBounds_toArray, List.set_cons_zero, List.set_cons_succ]; rfl
                    refine plan_take (v := ?_) (a' := ?_) (some 88) rfl rfl (by rfl) ?_ ?_ ?_
                    rotate_left; rotate_left
                    · intro w' hS; go_simp; with_reducible rfl
                    · simp only [Act.put, List.setIfInBounds_toArray, List.set_cons_zero, List.set_cons_succ]; rfl
                    refine plan_take (v := ?_) (a' := ?_) (some 89) rfl rfl (by rfl) ?_ ?_ ?_
                    rotate_left; rotate_left
                    · intro w' hS; have s0_0 := cb hS c0_0; have s0_1 := cb hS c0_1; have s1_0 := cb hS c1_0; have s1_1 := cb hS c1_1; have s8 := cb hS v0; have s9 := cb hS v1; go_simp; with_reducible rfl
                    · simp only [Act.put, List.setIfInBounds_toArray, List.set_cons_zero, List.set_cons_succ]; rfl
                    refine plan_both ?_ ?_
                    · refine plan_call (args := ?_) Try.func38 (by kernel_rfl) rfl (some 90) rfl rfl (by rfl) rfl ?_ ?_
                      rotate_left
                      · simp only [List.map_toArray, List.map_cons, List.map_nil]; go_simp; rfl
                      with_reducible refine (wadd_calls _ _ _ _ _ KA.out KP.out).mono ?_
                      rintro e w' ⟨rfl, hb⟩
                      rw [HX.out, HZ.out, RA.out]
                      refine ⟨_, rfl, bl_next hB hb, ?_⟩
                      have hB := bl_next hB hb; clear hb
                      simp only [Act.put, List.setIfInBounds_toArray, List.set_cons_zero, List.set_cons_succ]
                      refine plan_take (v := ?_) (a' := ?_) (some 85) rfl rfl (by rfl) ?_ ?_ ?_
                      rotate_left; rotate_left
                      · intro w' hS; go_simp; with_reducible rfl
                      · simp only [Act.put, List.setIfInBounds_toArray, List.set_cons_zero, List.set_cons_succ]; rfl
                      refine plan_take (v := ?_) (a' := ?_) (some 91) rfl rfl (by rfl) ?_ ?_ ?_
                      rotate_left; rotate_left
                      · intro w' hS; go_simp; with_reducible rfl
                      · simp only [Act.put, List.setIfInBounds_toArray, List.set_cons_zero, List.set_cons_succ]; rfl
                      refine plan_take (v := ?_) (a' := ?_) (some 92) rfl rfl (by rfl) ?_ ?_ ?_
                      rotate_left; rotate_left
                      · intro w' hS; go_simp; with_reducible rfl
                      · simp only [Act.put, List.setIfInBounds_toArray, List.set_cons_zero, List.set_cons_succ]; rfl
                      refine plan_op (some 13) rfl rfl (by rfl) ?_
                      apply Exists.intro; apply Exists.intro; apply And.intro
                      · go_simp; first | exact ⟨rfl, rfl⟩ | rfl
                      apply Exists.intro; apply And.intro
                      · simp only [Act.put, List.setIfInBounds_toArray, List.set_cons_zero, List.set_cons_succ]; rfl
                      apply And.intro
                      · exact Below.alloc hB hB.size _
                      have hbV := hB.size
                      refine plan_named ?_; intro wA gA hbA; have hB := bl_next hB hbA; clear hbA
                      have hlA := blk_lt gA
                      have cA0 : _ = some _ := blk_cell gA 0
                      have fA0 := blk_free gA 0
                      have cA1 : _ = some _ := blk_cell gA 1
                      have fA1 := blk_free gA 1
                      refine plan_store none rfl rfl (by rfl) ?_
                      apply Exists.intro; apply And.intro
                      · go_simp; first | exact ⟨rfl, rfl⟩ | rfl
                      apply Exists.intro; apply And.intro
                      · simp only [Act.put, List.setIfInBounds_toArray, List.set_cons_zero, List.set_cons_succ]; rfl
                      apply And.intro
                      · exact Below.setCell (Below.setCell hB hbV _) hbV _
                      clear cA0 fA0 cA1 fA1
                      refine plan_set2 gA hB hbV ?_; clear gA hB hlA; intro wB gA hB
                      refine plan_take (v := ?_) (a' := ?_) (some 14) rfl rfl (by rfl) ?_ ?_ ?_
                      rotate_left; rotate_left
                      · intro w' hS; go_simp; with_reducible rfl
                      · simp only [Act.put, List.setIfInBounds_toArray, List.set_cons_zero, List.set_cons_succ]; rfl
                      refine plan_done ?_
                      go_wp2_with fail
                      go_meet
                      exact ⟨_, rfl, rfl, gA, hbV, hB⟩
                    · refine plan_op (some 13) rfl rfl (by rfl) ?_
                      apply Exists.intro; apply Exists.intro; apply And.intro
                      · go_simp; first | exact ⟨rfl, rfl⟩ | rfl
                      apply Exists.intro; apply And.intro
                      · simp only [Act.put, List.setIfInBounds_toArray, List.set_cons_zero, List.set_cons_succ]; rfl
                      apply And.intro
                      · exact Below.alloc hB hB.size _
                      have hbV := hB.size
                      refine plan_named ?_; intro wA gA hbA; have hB := bl_next hB hbA; clear hbA
                      refine plan_call (args := ?_) Try.func38 (by kernel_rfl) rfl (some 90) rfl rfl (by rfl) rfl ?_ ?_
                      rotate_left
                      · simp only [List.map_toArray, List.map_cons, List.map_nil]; go_simp; rfl
                      with_reducible refine (wadd_calls _ _ _ _ _ KA.out KP.out).mono ?_
                      rintro e w' ⟨rfl, hb⟩
                      rw [HX.out, HZ.out, RA.out]
                      refine ⟨_, rfl, bl_next hB hb, ?_⟩
                      have gA := blk_below gA hb
                      have hB := bl_next hB hb; clear hb
                      simp only [Act.put, List.setIfInBounds_toArray, List.set_cons_zero, List.set_cons_succ]
                      refine plan_take (v := ?_) (a' := ?_) (some 85) rfl rfl (by rfl) ?_ ?_ ?_
                      rotate_left; rotate_left
                      · intro w' hS; go_simp; with_reducible rfl
                      · simp only [Act.put, List.setIfInBounds_toArray, List.set_cons_zero, List.set_cons_succ]; rfl
                      refine plan_take (v := ?_) (a' := ?_) (some 91) rfl rfl (by rfl) ?_ ?_ ?_
                      rotate_left; rotate_left
                      · intro w' hS; go_simp; with_reducible rfl
                      · simp only [Act.put, List.setIfInBounds_toArray, List.set_cons_zero, List.set_cons_succ]; rfl
                      refine plan_take (v := ?_) (a' := ?_) (some 92) rfl rfl (by rfl) ?_ ?_ ?_
                      rotate_left; rotate_left
                      · intro w' hS; go_simp; with_reducible rfl
                      · simp only [Act.put, List.setIfInBounds_toArray, List.set_cons_zero, List.set_cons_succ]; rfl
                      have hlA := blk_lt gA
                      have cA0 : _ = some _ := blk_cell gA 0
                      have fA0 := blk_free gA 0
                      have cA1 : _ = some _ := blk_cell gA 1
                      have fA1 := blk_free gA 1
                      refine plan_store none rfl rfl (by rfl) ?_
                      apply Exists.intro; apply And.intro
                      · go_simp; first | exact ⟨rfl, rfl⟩ | rfl
                      apply Exists.intro; apply And.intro
                      · simp only [Act.put, List.setIfInBounds_toArray, List.set_cons_zero, List.set_cons_succ]; rfl
                      apply And.intro
                      · exact Below.setCell (Below.setCell hB hbV _) hbV _
                      clear cA0 fA0 cA1 fA1
                      refine plan_set2 gA hB hbV ?_; clear gA hB hlA; intro wB gA hB
                      refine plan_take (v := ?_) (a' := ?_) (some 14) rfl rfl (by rfl) ?_ ?_ ?_
                      rotate_left; rotate_left
                      · intro w' hS; go_simp; with_reducible rfl
                      · simp only [Act.put, List.setIfInBounds_toArray, List.set_cons_zero, List.set_cons_succ]; rfl
                      refine plan_done ?_
                      go_wp2_with fail
                      go_meet
                      exact ⟨_, rfl, rfl, gA, hbV, hB⟩
                  case rest =>
                    obtain ⟨b2, rfl, rfl, gK, hbK, hcB⟩ := hcut
                    obtain ⟨V1, rfl⟩ : ∃ V1 : World, V1 = wc := ⟨_, rfl⟩
                    have c0_0 := cb hcB c0_0
                    have c0_1 := cb hcB c0_1
                    have c1_0 := cb hcB c1_0
                    have c1_1 := cb hcB c1_1
                    have c2_0 : V1.cell? ⟨b2, 0, none⟩ = some (.int .i64 xh) := blk_cell gK 0
                    have c2_1 : V1.cell? ⟨b2, 1, none⟩ = some (.int .u64 xl) := blk_cell gK 1
                    have F2 := Lib.hid (fun j => blk_free gK j)
                    have HB_V1 := Lib.hid hcB
                    have Hw := Lib.hid (bl_from Hw.out hcB)
                    clear hcB hbK gK
                    try clear hB
                    have hB : Below V1.heap.size V1 V1 := Below.refl _ _
                    have kz0 : wo.heap.size < V1.heap.size := lt_of_cell c0_0
                    have kz1 : wo.heap.size + 1 < V1.heap.size := lt_of_cell c1_0
                    have kz2 : b2 < V1.heap.size := lt_of_cell c2_0
                    have v0 := cb HB_V1.out v0; have v1 := cb HB_V1.out v1
                    go_upto_region 18 with fail
                    go_cut [15, 16] from 93 to 100 (fun s15 s16 wc => ∃ b : Nat, s15 = .pointer (some ⟨b, 0, none⟩) ∧ s16 = .bool ye ∧ wc.heap[b]? = some (.cells #[.int .i64 yh, .int .u64 yl] 57) ∧ V1.heap.size ≤ b ∧ Below V1.heap.size V1 wc)
                    case first =>
                      have hB := hB.drew
                      refine region_plan (fun w' => Below V1.heap.size V1 w') (.take 0 (.take 1 (.take 2 (.take 3 (.both 4 8 (.take 5 (.take 6 (.take 7 (.only 8 (.only 9 (.take 10 .done)))))) (.only 4 (.take 5 (.take 6 (.take 7 (.only 9 (.take 10 .done))))))))))) (by kernel_rfl) (by kernel_rfl) (fun _ _ _ _ h => h) hB ?_
                      try generalize World.drew _ = wS at hB ⊢
                      refine plan_take (v := ?_) (a' := ?_) (some 94) rfl rfl (by rfl) ?_ ?_ ?_
                      rotate_left; rotate_left
                      · intro w' hS; have s0_0 := cb hS c0_0; have s0_1 := cb hS c0_1; have s1_0 := cb hS c1_0; have s1_1 := cb hS c1_1; have s2_0 := cb hS c2_0; have s2_1 := cb hS c2_1; have s8 := cb hS v0; have s9 := cb hS v1; go_simp; with_reducible rfl
                      · simp only [Act.put, List.setIfInBounds_toArray, List.set_cons_zero, List.set_cons_succ]; rfl
                      refine plan_take (v := ?_) (a' := ?_) (some 95) rfl rfl (by rfl) ?_ ?_ ?_
                      rotate_left; rotate_left
                      · intro w' hS; go_simp; with_reducible rfl
                      · simp only [Act.put, List.setIfInBounds_toArray, List.set_cons_zero, List.set_cons_succ]; rfl
                      refine plan_take (v := ?_) (a' := ?_) (some 96) rfl rfl (by rfl) ?_ ?_ ?_
                      rotate_left; rotate_left
                      · intro w' hS; go_simp; with_reducible rfl
                      · simp only [Act.put, List.setIfInBounds_toArray, List.set_cons_zero, List.set_cons_succ]; rfl
                      refine plan_take (v := ?_) (a' := ?_) (some 97) rfl rfl (by rfl) ?_ ?_ ?_
                      rotate_left; rotate_left
                      · intro w' hS; have s0_0 := cb hS c0_0; have s0_1 := cb hS c0_1; have s1_0 := cb hS c1_0; have s1_1 := cb hS c1_1; have s2_0 := cb hS c2_0; have s2_1 := cb hS c2_1; have s8 := cb hS v0; have s9 := cb hS v1; go_simp; with_reducible rfl
                      · simp only [Act.put, List.setIfInBounds_toArray, List.set_cons_zero, List.set_cons_succ]; rfl
                      refine plan_both ?_ ?_
                      · refine plan_call (args := ?_) Try.func38 (by kernel_rfl) rfl (some 98) rfl rfl (by rfl) rfl ?_ ?_
                        rotate_left
                        · simp only [List.map_toArray, List.map_cons, List.map_nil]; go_simp; rfl
                        with_reducible refine (wadd_calls _ _ _ _ _ KC.out KP.out).mono ?_
                        rintro e w' ⟨rfl, hb⟩
                        rw [HY.out, HZ.out, RB.out]
                        refine ⟨_, rfl, bl_next hB hb, ?_⟩
                        have hB := bl_next hB hb; clear hb
                        simp only [Act.put, List.setIfInBounds_toArray, List.set_cons_zero, List.set_cons_succ]
                        refine plan_take (v := ?_) (a' := ?_) (some 93) rfl rfl (by rfl) ?_ ?_ ?_
                        rotate_left; rotate_left
                        · intro w' hS; go_simp; with_reducible rfl
                        · simp only [Act.put, List.setIfInBounds_toArray, List.set_cons_zero, List.set_cons_succ]; rfl
                        refine plan_take (v := ?_) (a' := ?_) (some 99) rfl rfl (by rfl) ?_ ?_ ?_
                        rotate_left; rotate_left
                        · intro w' hS; go_simp; with_reducible rfl
                        · simp only [Act.put, List.setIfInBounds_toArray, List.set_cons_zero, List.set_cons_succ]; rfl
                        refine plan_take (v := ?_) (a' := ?_) (some 100) rfl rfl (by rfl) ?_ ?_ ?_
                        rotate_left; rotate_left
                        · intro w' hS; go_simp; with_reducible rfl
                        · simp only [Act.put, List.setIfInBounds_toArray, List.set_cons_zero, List.set_cons_succ]; rfl
                        refine plan_op (some 15) rfl rfl (by rfl) ?_
                        apply Exists.intro; apply Exists.intro; apply And.intro
                        · go_simp; first | exact ⟨rfl, rfl⟩ | rfl
                        apply Exists.intro; apply And.intro
                        · simp only [Act.put, List.setIfInBounds_toArray, List.set_cons_zero, List.set_cons_succ]; rfl
                        apply And.intro
                        · exact Below.alloc hB hB.size _
                        have hbV := hB.size
                        refine plan_named ?_; intro wA gA hbA; have hB := bl_next hB hbA; clear hbA
                        have hlA := blk_lt gA
                        have cA0 : _ = some _ := blk_cell gA 0
                        have fA0 := blk_free gA 0
                        have cA1 : _ = some _ := blk_cell gA 1
                        have fA1 := blk_free gA 1
                        refine plan_store none rfl rfl (by rfl) ?_
                        apply Exists.intro; apply And.intro
                        · go_simp; first | exact ⟨rfl, rfl⟩ | rfl
                        apply Exists.intro; apply And.intro
                        · simp only [Act.put, List.setIfInBounds_toArray, List.set_cons_zero, List.set_cons_succ]; rfl
                        apply And.intro
                        · exact Below.setCell (Below.setCell hB hbV _) hbV _
                        clear cA0 fA0 cA1 fA1
                        refine plan_set2 gA hB hbV ?_; clear gA hB hlA; intro wB gA hB
                        refine plan_take (v := ?_) (a' := ?_) (some 16) rfl rfl (by rfl) ?_ ?_ ?_
                        rotate_left; rotate_left
                        · intro w' hS; go_simp; with_reducible rfl
                        · simp only [Act.put, List.setIfInBounds_toArray, List.set_cons_zero, List.set_cons_succ]; rfl
                        refine plan_done ?_
                        go_wp2_with fail
                        go_meet
                        exact ⟨_, rfl, rfl, gA, hbV, hB⟩
                      · refine plan_op (some 15) rfl rfl (by rfl) ?_
                        apply Exists.intro; apply Exists.intro; apply And.intro
                        · go_simp; first | exact ⟨rfl, rfl⟩ | rfl
                        apply Exists.intro; apply And.intro
                        · simp only [Act.put, List.setIfInBounds_toArray, List.set_cons_zero, List.set_cons_succ]; rfl
                        apply And.intro
                        · exact Below.alloc hB hB.size _
                        have hbV := hB.size
                        refine plan_named ?_; intro wA gA hbA; have hB := bl_next hB hbA; clear hbA
                        refine plan_call (args := ?_) Try.func38 (by kernel_rfl) rfl (some 98) rfl rfl (by rfl) rfl ?_ ?_
                        rotate_left
                        · simp only [List.map_toArray, List.map_cons, List.map_nil]; go_simp; rfl
                        with_reducible refine (wadd_calls _ _ _ _ _ KC.out KP.out).mono ?_
                        rintro e w' ⟨rfl, hb⟩
                        rw [HY.out, HZ.out, RB.out]
                        refine ⟨_, rfl, bl_next hB hb, ?_⟩
                        have gA := blk_below gA hb
                        have hB := bl_next hB hb; clear hb
                        simp only [Act.put, List.setIfInBounds_toArray, List.set_cons_zero, List.set_cons_succ]
                        refine plan_take (v := ?_) (a' := ?_) (some 93) rfl rfl (by rfl) ?_ ?_ ?_
                        rotate_left; rotate_left
                        · intro w' hS; go_simp; with_reducible rfl
                        · simp only [Act.put, List.setIfInBounds_toArray, List.set_cons_zero, List.set_cons_succ]; rfl
                        refine plan_take (v := ?_) (a' := ?_) (some 99) rfl rfl (by rfl) ?_ ?_ ?_
                        rotate_left; rotate_left
                        · intro w' hS; go_simp; with_reducible rfl
                        · simp only [Act.put, List.setIfInBounds_toArray, List.set_cons_zero, List.set_cons_succ]; rfl
                        refine plan_take (v := ?_) (a' := ?_) (some 100) rfl rfl (by rfl) ?_ ?_ ?_
                        rotate_left; rotate_left
                        · intro w' hS; go_simp; with_reducible rfl
                        · simp only [Act.put, List.setIfInBounds_toArray, List.set_cons_zero, List.set_cons_succ]; rfl
                        have hlA := blk_lt gA
                        have cA0 : _ = some _ := blk_cell gA 0
                        have fA0 := blk_free gA 0
                        have cA1 : _ = some _ := blk_cell gA 1
                        have fA1 := blk_free gA 1
                        refine plan_store none rfl rfl (by rfl) ?_
                        apply Exists.intro; apply And.intro
                        · go_simp; first | exact ⟨rfl, rfl⟩ | rfl
                        apply Exists.intro; apply And.intro
                        · simp only [Act.put, List.setIfInBounds_toArray, List.set_cons_zero, List.set_cons_succ]; rfl
                        apply And.intro
                        · exact Below.setCell (Below.setCell hB hbV _) hbV _
                        clear cA0 fA0 cA1 fA1
                        refine plan_set2 gA hB hbV ?_; clear gA hB hlA; intro wB gA hB
                        refine plan_take (v := ?_) (a' := ?_) (some 16) rfl rfl (by rfl) ?_ ?_ ?_
                        rotate_left; rotate_left
                        · intro w' hS; go_simp; with_reducible rfl
                        · simp only [Act.put, List.setIfInBounds_toArray, List.set_cons_zero, List.set_cons_succ]; rfl
                        refine plan_done ?_
                        go_wp2_with fail
                        go_meet
                        exact ⟨_, rfl, rfl, gA, hbV, hB⟩
                    case rest =>
                      obtain ⟨b3, rfl, rfl, gK, hbK, hcB⟩ := hcut
                      obtain ⟨V2, rfl⟩ : ∃ V2 : World, V2 = wc := ⟨_, rfl⟩
                      have c0_0 := cb hcB c0_0
                      have c0_1 := cb hcB c0_1
                      have c1_0 := cb hcB c1_0
                      have c1_1 := cb hcB c1_1
                      have c2_0 := cb hcB c2_0
                      have c2_1 := cb hcB c2_1
                      have c3_0 : V2.cell? ⟨b3, 0, none⟩ = some (.int .i64 yh) := blk_cell gK 0
                      have c3_1 : V2.cell? ⟨b3, 1, none⟩ = some (.int .u64 yl) := blk_cell gK 1
                      have F3 := Lib.hid (fun j => blk_free gK j)
                      have HB_V2 := Lib.hid hcB
                      have Hw := Lib.hid (bl_from Hw.out hcB)
                      clear hcB hbK gK
                      try clear hB
                      have hB : Below V2.heap.size V2 V2 := Below.refl _ _
                      have kz0 : wo.heap.size < V2.heap.size := lt_of_cell c0_0
                      have kz1 : wo.heap.size + 1 < V2.heap.size := lt_of_cell c1_0
                      have kz2 : b2 < V2.heap.size := lt_of_cell c2_0
                      have kz3 : b3 < V2.heap.size := lt_of_cell c3_0
                      have v0 := cb HB_V2.out v0; have v1 := cb HB_V2.out v1
                      go_upto_region 19 with fail
                      go_cut [111] from 101 to 110 (fun s111 wc => s111 = .bool false ∧ Below V2.heap.size V2 wc)
                      case first =>
                        cases xe with
                        | false =>
                          go_wp2_with fail
                          go_meet
                          exact ⟨rfl, hB⟩
                        | true =>
                          cases ye with
                          | false =>
                            go_wp2_with fail
                            go_meet
                            exact ⟨rfl, hB⟩
                          | true =>
                            have E1 := Lib.hid (VX.out rfl); have E2 := Lib.hid (VY.out rfl); have E3 := Lib.hid ((sgn_add X Y Z).trans RC.out)
                            go_wp2_with (go_at_call 49; refine (wcmp_calls _ _ _ _ _ KX.out KY.out).mono ?_; rintro e w' ⟨rfl, hb⟩; rw [E1.out, E2.out, E3.out]; have hB := bl_next (by repeat (first | with_reducible exact hB | refine Below.alloc ?_ (by have := hB.size; simp; omega) _ | refine bl_dN ?_ _ | refine Below.drew ?_ | refine Below.setCell ?_ (by have := hB.size; simp; omega) _)) hb; clear hb; have k0_0 := cb hB c0_0; have k0_1 := cb hB c0_1; have k1_0 := cb hB c1_0; have k1_1 := cb hB c1_1; have k2_0 := cb hB c2_0; have k2_1 := cb hB c2_1; have k3_0 := cb hB c3_0; have k3_1 := cb hB c3_1; have kz0 : wo.heap.size < _ := lt_of_cell k0_0; have kz1 : wo.heap.size + 1 < _ := lt_of_cell k1_0; have kz2 : b2 < _ := lt_of_cell k2_0; have kz3 : b3 < _ := lt_of_cell k3_0)
                            go_meet
                            exact ⟨rfl, hB⟩
                      case rest =>
                        obtain ⟨rfl, hB⟩ := hcut
                        have k0_0 := cb hB c0_0
                        have k0_1 := cb hB c0_1
                        have k1_0 := cb hB c1_0
                        have k1_1 := cb hB c1_1
                        have k2_0 := cb hB c2_0
                        have k2_1 := cb hB c2_1
                        have k3_0 := cb hB c3_0
                        have k3_1 := cb hB c3_1
                        have kz0 : wo.heap.size < _ := lt_of_cell k0_0
                        have kz1 : wo.heap.size + 1 < _ := lt_of_cell k1_0
                        have kz2 : b2 < _ := lt_of_cell k2_0
                        have kz3 : b3 < _ := lt_of_cell k3_0
                        have u0 := cb hB v0; have u1 := cb hB v1
                        clear RA RB KX KY VX VY
                        go_upto_region 21 with fail
                        go_cut [17, 18] from 112 to 119 (fun s17 s18 wc => ∃ b : Nat, s17 = .pointer (some ⟨b, 0, none⟩) ∧ s18 = .bool ue ∧ wc.heap[b]? = some (.cells #[.int .i64 uh, .int .u64 ul] 57) ∧ V2.heap.size ≤ b ∧ Below V2.heap.size V2 wc)
                        case first =>
                          have hB := hB.drew
                          refine region_plan (fun w' => Below V2.heap.size V2 w') (.take 0 (.take 1 (.take 2 (.take 3 (.both 4 8 (.take 5 (.take 6 (.take 7 (.only 8 (.only 9 (.take 10 .done)))))) (.only 4 (.take 5 (.take 6 (.take 7 (.only 9 (.take 10 .done))))))))))) (by kernel_rfl) (by kernel_rfl) (fun _ _ _ _ h => h) hB ?_
                          try generalize World.drew _ = wS at hB ⊢
                          refine plan_take (v := ?_) (a' := ?_) (some 113) rfl rfl (by rfl) ?_ ?_ ?_
                          rotate_left; rotate_left
                          · intro w' hS; go_simp; with_reducible rfl
                          · simp only [Act.put, List.setIfInBounds_toArray, List.set_cons_zero, List.set_cons_succ]; rfl
                          refine plan_take (v := ?_) (a' := ?_) (some 114) rfl rfl (by rfl) ?_ ?_ ?_
                          rotate_left; rotate_left
                          · intro w' hS; go_simp; with_reducible rfl
                          · simp only [Act.put, List.setIfInBounds_toArray, List.set_cons_zero, List.set_cons_succ]; rfl
                          refine plan_take (v := ?_) (a' := ?_) (some 115) rfl rfl (by rfl) ?_ ?_ ?_
                          rotate_left; rotate_left
                          · intro w' hS; have s0_0 := cb hS c0_0; have s0_1 := cb hS c0_1; have s1_0 := cb hS c1_0; have s1_1 := cb hS c1_1; have s2_0 := cb hS c2_0; have s2_1 := cb hS c2_1; have s3_0 := cb hS c3_0; have s3_1 := cb hS c3_1; have s8 := cb hS v0; have s9 := cb hS v1; go_simp; with_reducible rfl
                          · simp only [Act.put, List.setIfInBounds_toArray, List.set_cons_zero, List.set_cons_succ]; rfl
                          refine plan_take (v := ?_) (a' := ?_) (some 116) rfl rfl (by rfl) ?_ ?_ ?_
                          rotate_left; rotate_left
                          · intro w' hS; have s0_0 := cb hS c0_0; have s0_1 := cb hS c0_1; have s1_0 := cb hS c1_0; have s1_1 := cb hS c1_1; have s2_0 := cb hS c2_0; have s2_1 := cb hS c2_1; have s3_0 := cb hS c3_0; have s3_1 := cb hS c3_1; have s8 := cb hS v0; have s9 := cb hS v1; go_simp; with_reducible rfl
                          · simp only [Act.put, List.setIfInBounds_toArray, List.set_cons_zero, List.set_cons_succ]; rfl
                          refine plan_both ?_ ?_
                          · refine plan_call (args := ?_) Try.func40 (by kernel_rfl) rfl (some 117) rfl rfl (by rfl) rfl ?_ ?_
                            rotate_left
                            · simp only [List.map_toArray, List.map_cons, List.map_nil]; go_simp; rfl
                            with_reducible refine (wsub_calls _ _ _ _ _ KP.out KA.out).mono ?_
                            rintro e w' ⟨rfl, hb⟩
                            rw [HZ.out, HX.out, RU.out]
                            refine ⟨_, rfl, bl_next hB hb, ?_⟩
                            have hB := bl_next hB hb; clear hb
                            simp only [Act.put, List.setIfInBounds_toArray, List.set_cons_zero, List.set_cons_succ]
                            refine plan_take (v := ?_) (a' := ?_) (some 112) rfl rfl (by rfl) ?_ ?_ ?_
                            rotate_left; rotate_left
                            · intro w' hS; go_simp; with_reducible rfl
                            · simp only [Act.put, List.setIfInBounds_toArray, List.set_cons_zero, List.set_cons_succ]; rfl
                            refine plan_take (v := ?_) (a' := ?_) (some 118) rfl rfl (by rfl) ?_ ?_ ?_
                            rotate_left; rotate_left
                            · intro w' hS; go_simp; with_reducible rfl
                            · simp only [Act.put, List.setIfInBounds_toArray, List.set_cons_zero, List.set_cons_succ]; rfl
                            refine plan_take (v := ?_) (a' := ?_) (some 119) rfl rfl (by rfl) ?_ ?_ ?_
                            rotate_left; rotate_left
                            · intro w' hS; go_simp; with_reducible rfl
                            · simp only [Act.put, List.setIfInBounds_toArray, List.set_cons_zero, List.set_cons_succ]; rfl
                            refine plan_op (some 17) rfl rfl (by rfl) ?_
                            apply Exists.intro; apply Exists.intro; apply And.intro
                            · go_simp; first | exact ⟨rfl, rfl⟩ | rfl
                            apply Exists.intro; apply And.intro
                            · simp only [Act.put, List.setIfInBounds_toArray, List.set_cons_zero, List.set_cons_succ]; rfl
                            apply And.intro
                            · exact Below.alloc hB hB.size _
                            have hbV := hB.size
                            refine plan_named ?_; intro wA gA hbA; have hB := bl_next hB hbA; clear hbA
                            have hlA := blk_lt gA
                            have cA0 : _ = some _ := blk_cell gA 0
                            have fA0 := blk_free gA 0
                            have cA1 : _ = some _ := blk_cell gA 1
                            have fA1 := blk_free gA 1
                            refine plan_store none rfl rfl (by rfl) ?_
                            apply Exists.intro; apply And.intro
                            · go_simp; first | exact ⟨rfl, rfl⟩ | rfl
                            apply Exists.intro; apply And.intro
                            · simp only [Act.put, List.setIfInBounds_toArray, List.set_cons_zero, List.set_cons_succ]; rfl
                            apply And.intro
                            · exact Below.setCell (Below.setCell hB hbV _) hbV _
                            clear cA0 fA0 cA1 fA1
                            refine plan_set2 gA hB hbV ?_; clear gA hB hlA; intro wB gA hB
                            refine plan_take (v := ?_) (a' := ?_) (some 18) rfl rfl (by rfl) ?_ ?_ ?_
                            rotate_left; rotate_left
                            · intro w' hS; go_simp; with_reducible rfl
                            · simp only [Act.put, List.setIfInBounds_toArray, List.set_cons_zero, List.set_cons_succ]; rfl
                            refine plan_done ?_
                            go_wp2_with fail
                            go_meet
                            exact ⟨_, rfl, rfl, gA, hbV, hB⟩
                          · refine plan_op (some 17) rfl rfl (by rfl) ?_
                            apply Exists.intro; apply Exists.intro; apply And.intro
                            · go_simp; first | exact ⟨rfl, rfl⟩ | rfl
                            apply Exists.intro; apply And.intro
                            · simp only [Act.put, List.setIfInBounds_toArray, List.set_cons_zero, List.set_cons_succ]; rfl
                            apply And.intro
                            · exact Below.alloc hB hB.size _
                            have hbV := hB.size
                            refine plan_named ?_; intro wA gA hbA; have hB := bl_next hB hbA; clear hbA
                            refine plan_call (args := ?_) Try.func40 (by kernel_rfl) rfl (some 117) rfl rfl (by rfl) rfl ?_ ?_
                            rotate_left
                            · simp only [List.map_toArray, List.map_cons, List.map_nil]; go_simp; rfl
                            with_reducible refine (wsub_calls _ _ _ _ _ KP.out KA.out).mono ?_
                            rintro e w' ⟨rfl, hb⟩
                            rw [HZ.out, HX.out, RU.out]
                            refine ⟨_, rfl, bl_next hB hb, ?_⟩
                            have gA := blk_below gA hb
                            have hB := bl_next hB hb; clear hb
                            simp only [Act.put, List.setIfInBounds_toArray, List.set_cons_zero, List.set_cons_succ]
                            refine plan_take (v := ?_) (a' := ?_) (some 112) rfl rfl (by rfl) ?_ ?_ ?_
                            rotate_left; rotate_left
                            · intro w' hS; go_simp; with_reducible rfl
                            · simp only [Act.put, List.setIfInBounds_toArray, List.set_cons_zero, List.set_cons_succ]; rfl
                            refine plan_take (v := ?_) (a' := ?_) (some 118) rfl rfl (by rfl) ?_ ?_ ?_
                            rotate_left; rotate_left
                            · intro w' hS; go_simp; with_reducible rfl
                            · simp only [Act.put, List.setIfInBounds_toArray, List.set_cons_zero, List.set_cons_succ]; rfl
                            refine plan_take (v := ?_) (a' := ?_) (some 119) rfl rfl (by rfl) ?_ ?_ ?_
                            rotate_left; rotate_left
                            · intro w' hS; go_simp; with_reducible rfl
                            · simp only [Act.put, List.setIfInBounds_toArray, List.set_cons_zero, List.set_cons_succ]; rfl
                            have hlA := blk_lt gA
                            have cA0 : _ = some _ := blk_cell gA 0
                            have fA0 := blk_free gA 0
                            have cA1 : _ = some _ := blk_cell gA 1
                            have fA1 := blk_free gA 1
                            refine plan_store none rfl rfl (by rfl) ?_
                            apply Exists.intro; apply And.intro
                            · go_simp; first | exact ⟨rfl, rfl⟩ | rfl
                            apply Exists.intro; apply And.intro
                            · simp only [Act.put, List.setIfInBounds_toArray, List.set_cons_zero, List.set_cons_succ]; rfl
                            apply And.intro
                            · exact Below.setCell (Below.setCell hB hbV _) hbV _
                            clear cA0 fA0 cA1 fA1
                            refine plan_set2 gA hB hbV ?_; clear gA hB hlA; intro wB gA hB
                            refine plan_take (v := ?_) (a' := ?_) (some 18) rfl rfl (by rfl) ?_ ?_ ?_
                            rotate_left; rotate_left
                            · intro w' hS; go_simp; with_reducible rfl
                            · simp only [Act.put, List.setIfInBounds_toArray, List.set_cons_zero, List.set_cons_succ]; rfl
                            refine plan_done ?_
                            go_wp2_with fail
                            go_meet
                            exact ⟨_, rfl, rfl, gA, hbV, hB⟩
                        case rest =>
                          obtain ⟨b4, rfl, rfl, gK, hbK, hcB⟩ := hcut
                          obtain ⟨V3, rfl⟩ : ∃ V3 : World, V3 = wc := ⟨_, rfl⟩
                          have c0_0 := cb hcB c0_0
                          have c0_1 := cb hcB c0_1
                          have c1_0 := cb hcB c1_0
                          have c1_1 := cb hcB c1_1
                          have c2_0 := cb hcB c2_0
                          have c2_1 := cb hcB c2_1
                          have c3_0 := cb hcB c3_0
                          have c3_1 := cb hcB c3_1
                          have c4_0 : V3.cell? ⟨b4, 0, none⟩ = some (.int .i64 uh) := blk_cell gK 0
                          have c4_1 : V3.cell? ⟨b4, 1, none⟩ = some (.int .u64 ul) := blk_cell gK 1
                          have F4 := Lib.hid (fun j => blk_free gK j)
                          have HB_V3 := Lib.hid hcB
                          have Hw := Lib.hid (bl_from Hw.out hcB)
                          clear hcB hbK gK
                          try clear hB
                          have hB : Below V3.heap.size V3 V3 := Below.refl _ _
                          have kz0 : wo.heap.size < V3.heap.size := lt_of_cell c0_0
                          have kz1 : wo.heap.size + 1 < V3.heap.size := lt_of_cell c1_0
                          have kz2 : b2 < V3.heap.size := lt_of_cell c2_0
                          have kz3 : b3 < V3.heap.size := lt_of_cell c3_0
                          have kz4 : b4 < V3.heap.size := lt_of_cell c4_0
                          have v0 := cb HB_V3.out v0; have v1 := cb HB_V3.out v1
                          go_upto_region 22 with fail
                          go_cut [19, 20] from 120 to 127 (fun s19 s20 wc => ∃ b : Nat, s19 = .pointer (some ⟨b, 0, none⟩) ∧ s20 = .bool ve ∧ wc.heap[b]? = some (.cells #[.int .i64 vh, .int .u64 vl] 57) ∧ V3.heap.size ≤ b ∧ Below V3.heap.size V3 wc)
                          case first =>
                            have hB := hB.drew
                            refine region_plan (fun w' => Below V3.heap.size V3 w') (.take 0 (.take 1 (.take 2 (.take 3 (.both 4 8 (.take 5 (.take 6 (.take 7 (.only 8 (.only 9 (.take 10 .done)))))) (.only 4 (.take 5 (.take 6 (.take 7 (.only 9 (.take 10 .done))))))))))) (by kernel_rfl) (by kernel_rfl) (fun _ _ _ _ h => h) hB ?_
                            try generalize World.drew _ = wS at hB ⊢
                            refine plan_take (v := ?_) (a' := ?_) (some 121) rfl rfl (by rfl) ?_ ?_ ?_
                            rotate_left; rotate_left
                            · intro w' hS; go_simp; with_reducible rfl
                            · simp only [Act.put, List.setIfInBounds_toArray, List.set_cons_zero, List.set_cons_succ]; rfl
                            refine plan_take (v := ?_) (a' := ?_) (some 122) rfl rfl (by rfl) ?_ ?_ ?_
                            rotate_left; rotate_left
                            · intro w' hS; go_simp; with_reducible rfl
                            · simp only [Act.put, List.setIfInBounds_toArray, List.set_cons_zero, List.set_cons_succ]; rfl
                            refine plan_take (v := ?_) (a' := ?_) (some 123) rfl rfl (by rfl) ?_ ?_ ?_
                            rotate_left; rotate_left
                            · intro w' hS; have s0_0 := cb hS c0_0; have s0_1 := cb hS c0_1; have s1_0 := cb hS c1_0; have s1_1 := cb hS c1_1; have s2_0 := cb hS c2_0; have s2_1 := cb hS c2_1; have s3_0 := cb hS c3_0; have s3_1 := cb hS c3_1; have s4_0 := cb hS c4_0; have s4_1 := cb hS c4_1; have s8 := cb hS v0; have s9 := cb hS v1; go_simp; with_reducible rfl
                            · simp only [Act.put, List.setIfInBounds_toArray, List.set_cons_zero, List.set_cons_succ]; rfl
                            refine plan_take (v := ?_) (a' := ?_) (some 124) rfl rfl (by rfl) ?_ ?_ ?_
                            rotate_left; rotate_left
                            · intro w' hS; have s0_0 := cb hS c0_0; have s0_1 := cb hS c0_1; have s1_0 := cb hS c1_0; have s1_1 := cb hS c1_1; have s2_0 := cb hS c2_0; have s2_1 := cb hS c2_1; have s3_0 := cb hS c3_0; have s3_1 := cb hS c3_1; have s4_0 := cb hS c4_0; have s4_1 := cb hS c4_1; have s8 := cb hS v0; have s9 := cb hS v1; go_simp; with_reducible rfl
                            · simp only [Act.put, List.setIfInBounds_toArray, List.set_cons_zero, List.set_cons_succ]; rfl
                            refine plan_both ?_ ?_
                            · refine plan_call (args := ?_) Try.func40 (by kernel_rfl) rfl (some 125) rfl rfl (by rfl) rfl ?_ ?_
                              rotate_left
                              · simp only [List.map_toArray, List.map_cons, List.map_nil]; go_simp; rfl
                              with_reducible refine (wsub_calls _ _ _ _ _ KP.out KC.out).mono ?_
                              rintro e w' ⟨rfl, hb⟩
                              rw [HZ.out, HY.out, RV.out]
                              refine ⟨_, rfl, bl_next hB hb, ?_⟩
                              have hB := bl_next hB hb; clear hb
                              simp only [Act.put, List.setIfInBounds_toArray, List.set_cons_zero, List.set_cons_succ]
                              refine plan_take (v := ?_) (a' := ?_) (some 120) rfl rfl (by rfl) ?_ ?_ ?_
                              rotate_left; rotate_left
                              · intro w' hS; go_simp; with_reducible rfl
                              · simp only [Act.put, List.setIfInBounds_toArray, List.set_cons_zero, List.set_cons_succ]; rfl
                              refine plan_take (v := ?_) (a' := ?_) (some 126) rfl rfl (by rfl) ?_ ?_ ?_
                              rotate_left; rotate_left
                              · intro w' hS; go_simp; with_reducible rfl
                              · simp only [Act.put, List.setIfInBounds_toArray, List.set_cons_zero, List.set_cons_succ]; rfl
                              refine plan_take (v := ?_) (a' := ?_) (some 127) rfl rfl (by rfl) ?_ ?_ ?_
                              rotate_left; rotate_left
                              · intro w' hS; go_simp; with_reducible rfl
                              · simp only [Act.put, List.setIfInBounds_toArray, List.set_cons_zero, List.set_cons_succ]; rfl
                              refine plan_op (some 19) rfl rfl (by rfl) ?_
                              apply Exists.intro; apply Exists.intro; apply And.intro
                              · go_simp; first | exact ⟨rfl, rfl⟩ | rfl
                              apply Exists.intro; apply And.intro
                              · simp only [Act.put, List.setIfInBounds_toArray, List.set_cons_zero, List.set_cons_succ]; rfl
                              apply And.intro
                              · exact Below.alloc hB hB.size _
                              have hbV := hB.size
                              refine plan_named ?_; intro wA gA hbA; have hB := bl_next hB hbA; clear hbA
                              have hlA := blk_lt gA
                              have cA0 : _ = some _ := blk_cell gA 0
                              have fA0 := blk_free gA 0
                              have cA1 : _ = some _ := blk_cell gA 1
                              have fA1 := blk_free gA 1
                              refine plan_store none rfl rfl (by rfl) ?_
                              apply Exists.intro; apply And.intro
                              · go_simp; first | exact ⟨rfl, rfl⟩ | rfl
                              apply Exists.intro; apply And.intro
                              · simp only [Act.put, List.setIfInBounds_toArray, List.set_cons_zero, List.set_cons_succ]; rfl
                              apply And.intro
                              · exact Below.setCell (Below.setCell hB hbV _) hbV _
                              clear cA0 fA0 cA1 fA1
                              refine plan_set2 gA hB hbV ?_; clear gA hB hlA; intro wB gA hB
                              refine plan_take (v := ?_) (a' := ?_) (some 20) rfl rfl (by rfl) ?_ ?_ ?_
                              rotate_left; rotate_left
                              · intro w' hS; go_simp; with_reducible rfl
                              · simp only [Act.put, List.setIfInBounds_toArray, List.set_cons_zero, List.set_cons_succ]; rfl
                              refine plan_done ?_
                              go_wp2_with fail
                              go_meet
                              exact ⟨_, rfl, rfl, gA, hbV, hB⟩
                            · refine plan_op (some 19) rfl rfl (by rfl) ?_
                              apply Exists.intro; apply Exists.intro; apply And.intro
                              · go_simp; first | exact ⟨rfl, rfl⟩ | rfl
                              apply Exists.intro; apply And.intro
                              · simp only [Act.put, List.setIfInBounds_toArray, List.set_cons_zero, List.set_cons_succ]; rfl
                              apply And.intro
                              · exact Below.alloc hB hB.size _
                              have hbV := hB.size
                              refine plan_named ?_; intro wA gA hbA; have hB := bl_next hB hbA; clear hbA
                              refine plan_call (args := ?_) Try.func40 (by kernel_rfl) rfl (some 125) rfl rfl (by rfl) rfl ?_ ?_
                              rotate_left
                              · simp only [List.map_toArray, List.map_cons, List.map_nil]; go_simp; rfl
                              with_reducible refine (wsub_calls _ _ _ _ _ KP.out KC.out).mono ?_
                              rintro e w' ⟨rfl, hb⟩
                              rw [HZ.out, HY.out, RV.out]
                              refine ⟨_, rfl, bl_next hB hb, ?_⟩
                              have gA := blk_below gA hb
                              have hB := bl_next hB hb; clear hb
                              simp only [Act.put, List.setIfInBounds_toArray, List.set_cons_zero, List.set_cons_succ]
                              refine plan_take (v := ?_) (a' := ?_) (some 120) rfl rfl (by rfl) ?_ ?_ ?_
                              rotate_left; rotate_left
                              · intro w' hS; go_simp; with_reducible rfl
                              · simp only [Act.put, List.setIfInBounds_toArray, List.set_cons_zero, List.set_cons_succ]; rfl
                              refine plan_take (v := ?_) (a' := ?_) (some 126) rfl rfl (by rfl) ?_ ?_ ?_
                              rotate_left; rotate_left
                              · intro w' hS; go_simp; with_reducible rfl
                              · simp only [Act.put, List.setIfInBounds_toArray, List.set_cons_zero, List.set_cons_succ]; rfl
                              refine plan_take (v := ?_) (a' := ?_) (some 127) rfl rfl (by rfl) ?_ ?_ ?_
                              rotate_left; rotate_left
                              · intro w' hS; go_simp; with_reducible rfl
                              · simp only [Act.put, List.setIfInBounds_toArray, List.set_cons_zero, List.set_cons_succ]; rfl
                              have hlA := blk_lt gA
                              have cA0 : _ = some _ := blk_cell gA 0
                              have fA0 := blk_free gA 0
                              have cA1 : _ = some _ := blk_cell gA 1
                              have fA1 := blk_free gA 1
                              refine plan_store none rfl rfl (by rfl) ?_
                              apply Exists.intro; apply And.intro
                              · go_simp; first | exact ⟨rfl, rfl⟩ | rfl
                              apply Exists.intro; apply And.intro
                              · simp only [Act.put, List.setIfInBounds_toArray, List.set_cons_zero, List.set_cons_succ]; rfl
                              apply And.intro
                              · exact Below.setCell (Below.setCell hB hbV _) hbV _
                              clear cA0 fA0 cA1 fA1
                              refine plan_set2 gA hB hbV ?_; clear gA hB hlA; intro wB gA hB
                              refine plan_take (v := ?_) (a' := ?_) (some 20) rfl rfl (by rfl) ?_ ?_ ?_
                              rotate_left; rotate_left
                              · intro w' hS; go_simp; with_reducible rfl
                              · simp only [Act.put, List.setIfInBounds_toArray, List.set_cons_zero, List.set_cons_succ]; rfl
                              refine plan_done ?_
                              go_wp2_with fail
                              go_meet
                              exact ⟨_, rfl, rfl, gA, hbV, hB⟩
                          case rest =>
                            obtain ⟨b5, rfl, rfl, gK, hbK, hcB⟩ := hcut
                            obtain ⟨V4, rfl⟩ : ∃ V4 : World, V4 = wc := ⟨_, rfl⟩
                            have c0_0 := cb hcB c0_0
                            have c0_1 := cb hcB c0_1
                            have c1_0 := cb hcB c1_0
                            have c1_1 := cb hcB c1_1
                            have c2_0 := cb hcB c2_0
                            have c2_1 := cb hcB c2_1
                            have c3_0 := cb hcB c3_0
                            have c3_1 := cb hcB c3_1
                            have c4_0 := cb hcB c4_0
                            have c4_1 := cb hcB c4_1
                            have c5_0 : V4.cell? ⟨b5, 0, none⟩ = some (.int .i64 vh) := blk_cell gK 0
                            have c5_1 : V4.cell? ⟨b5, 1, none⟩ = some (.int .u64 vl) := blk_cell gK 1
                            have F5 := Lib.hid (fun j => blk_free gK j)
                            have HB_V4 := Lib.hid hcB
                            have Hw := Lib.hid (bl_from Hw.out hcB)
                            clear hcB hbK gK
                            try clear hB
                            have hB : Below V4.heap.size V4 V4 := Below.refl _ _
                            have kz0 : wo.heap.size < V4.heap.size := lt_of_cell c0_0
                            have kz1 : wo.heap.size + 1 < V4.heap.size := lt_of_cell c1_0
                            have kz2 : b2 < V4.heap.size := lt_of_cell c2_0
                            have kz3 : b3 < V4.heap.size := lt_of_cell c3_0
                            have kz4 : b4 < V4.heap.size := lt_of_cell c4_0
                            have kz5 : b5 < V4.heap.size := lt_of_cell c5_0
                            go_upto_region 23 with fail
                            go_cut [138] from 128 to 137 (fun s138 wc => s138 = .bool false ∧ Below V4.heap.size V4 wc)
                            case first =>
                              cases ue with
                              | false =>
                                go_wp2_with fail
                                go_meet
                                exact ⟨rfl, hB⟩
                              | true =>
                                cases ve with
                                | false =>
                                  go_wp2_with fail
                                  go_meet
                                  exact ⟨rfl, hB⟩
                                | true =>
                                  have E1 := Lib.hid (VU.out rfl); have E2 := Lib.hid (VV.out rfl); have E3 := Lib.hid ((sgn_sub X Y Z).trans RC.out)
                                  go_wp2_with (go_at_call 49; refine (wcmp_calls _ _ _ _ _ KV.out KU.out).mono ?_; rintro e w' ⟨rfl, hb⟩; rw [E1.out, E2.out, E3.out]; have hB := bl_next (by repeat (first | with_reducible exact hB | refine Below.alloc ?_ (by have := hB.size; simp; omega) _ | refine bl_dN ?_ _ | refine Below.drew ?_ | refine Below.setCell ?_ (by have := hB.size; simp; omega) _)) hb; clear hb; have k0_0 := cb hB c0_0; have k0_1 := cb hB c0_1; have k1_0 := cb hB c1_0; have k1_1 := cb hB c1_1; have k2_0 := cb hB c2_0; have k2_1 := cb hB c2_1; have k3_0 := cb hB c3_0; have k3_1 := cb hB c3_1; have k4_0 := cb hB c4_0; have k4_1 := cb hB c4_1; have k5_0 := cb hB c5_0; have k5_1 := cb hB c5_1; have kz0 : wo.heap.size < _ := lt_of_cell k0_0; have kz1 : wo.heap.size + 1 < _ := lt_of_cell k1_0; have kz2 : b2 < _ := lt_of_cell k2_0; have kz3 : b3 < _ := lt_of_cell k3_0; have kz4 : b4 < _ := lt_of_cell k4_0; have kz5 : b5 < _ := lt_of_cell k5_0)
                                  go_meet
                                  exact ⟨rfl, hB⟩
                            case rest =>
                              obtain ⟨rfl, hB⟩ := hcut
                              go_wp2_with fail
                              go_roundw
                              case rel => exact ⟨k + 1, by go_num, by omega, bl_next (bl_next (bl_next (bl_next HB_V1.out HB_V2.out) HB_V3.out) HB_V4.out) hB⟩
                              case measure => simp [intOf]; omega
              · obtain rfl : k = 3 := by omega
                go_wp2_with fail
                go_roundw
                case rel => exact ⟨j + 1, by go_num, by omega, bl_next hWV.out hB⟩
                case measure => simp [intOf]; omega
        · obtain rfl : j = 3 := by omega
          go_wp2_with fail
          go_roundw
          case rel => exact ⟨i + 1, by go_num, by omega, hB⟩
          case measure => simp [intOf]; omega
    · obtain rfl : i = 3 := by omega
      have n1 := N1.out; have n2 := N2.out; have m1 := M1.out; have m2 := M2.out
      clear n1 n2 m1 m2
      obtain ⟨s, hs⟩ : ∃ s : ByteArray, ByteArray.mk (Lib.itoa n).toArray = s := ⟨_, rfl⟩
      have HS := Lib.hid hs
      have hsz : s.size ≤ 20 := by rw [← hs]; exact itoa_len n N1.out N2.out
      clear hs
      have EF := Lib.hid (fit_of n N1.out N2.out)
      have KN := Lib.hid (WOk.of64 n N1.out N2.out); have KM := Lib.hid (WOk.of64 m M1.out M2.out)
      have hs2 : ((s.size : Int) ≤ 20) := by omega
      rcases Int.lt_trichotomy n m with hlt | heq | hgt
      · have RC := Lib.hid (sgn_lt hlt)
        go_wp2_with (first | (go_at_call 47; refine (wof_calls _ _ (by first | exact N1.out | exact M1.out) (by first | exact N2.out | exact M2.out)).mono ?_; rintro e w' ⟨rfl, hb⟩; unfold wideV; have hB := bl_next hB hb; clear hb) | (go_at_call 42; refine (wfits_calls _ _ _ KN.out).mono ?_; rintro e w' ⟨rfl, hb⟩; rw [EF.out]; have hB := bl_next hB hb; clear hb) | (go_at_call 49; refine (wcmp_calls _ _ _ _ _ KN.out KM.out).mono ?_; rintro e w' ⟨rfl, hb⟩; rw [wval_of, wval_of, RC.out]; have hB := bl_next hB hb; clear hb) | (go_at_call 46; refine (alive2_calls _).mono ?_; rintro e w' ⟨rfl, hb⟩; have hB := bl_next hB hb; clear hb) | (go_at_call 51; refine (wtext_calls _ _ _ KN.out).mono ?_; rintro e w' ⟨rfl, hb⟩; rw [wval_of, HS.out]; have hB := bl_next hB hb; clear hb))
        go_ret
        refine ⟨?_, bl_from Hw.out hB⟩
        first | rfl | (simp; omega)
      · subst heq
        have RC := Lib.hid (sgn_eq (rfl : n = n))
        go_wp2_with (first | (go_at_call 47; refine (wof_calls _ _ (by first | exact N1.out | exact M1.out) (by first | exact N2.out | exact M2.out)).mono ?_; rintro e w' ⟨rfl, hb⟩; unfold wideV; have hB := bl_next hB hb; clear hb) | (go_at_call 42; refine (wfits_calls _ _ _ KN.out).mono ?_; rintro e w' ⟨rfl, hb⟩; rw [EF.out]; have hB := bl_next hB hb; clear hb) | (go_at_call 49; refine (wcmp_calls _ _ _ _ _ KN.out KM.out).mono ?_; rintro e w' ⟨rfl, hb⟩; rw [wval_of, RC.out]; have hB := bl_next hB hb; clear hb) | (go_at_call 46; refine (alive2_calls _).mono ?_; rintro e w' ⟨rfl, hb⟩; have hB := bl_next hB hb; clear hb) | (go_at_call 51; refine (wtext_calls _ _ _ KN.out).mono ?_; rintro e w' ⟨rfl, hb⟩; rw [wval_of, HS.out]; have hB := bl_next hB hb; clear hb))
        go_ret
        refine ⟨?_, bl_from Hw.out hB⟩
        first | rfl | (simp; omega)
      · have RC := Lib.hid (sgn_gt hgt)
        go_wp2_with (first | (go_at_call 47; refine (wof_calls _ _ (by first | exact N1.out | exact M1.out) (by first | exact N2.out | exact M2.out)).mono ?_; rintro e w' ⟨rfl, hb⟩; unfold wideV; have hB := bl_next hB hb; clear hb) | (go_at_call 42; refine (wfits_calls _ _ _ KN.out).mono ?_; rintro e w' ⟨rfl, hb⟩; rw [EF.out]; have hB := bl_next hB hb; clear hb) | (go_at_call 49; refine (wcmp_calls _ _ _ _ _ KN.out KM.out).mono ?_; rintro e w' ⟨rfl, hb⟩; rw [wval_of, wval_of, RC.out]; have hB := bl_next hB hb; clear hb) | (go_at_call 46; refine (alive2_calls _).mono ?_; rintro e w' ⟨rfl, hb⟩; have hB := bl_next hB hb; clear hb) | (go_at_call 51; refine (wtext_calls _ _ _ KN.out).mono ?_; rintro e w' ⟨rfl, hb⟩; rw [wval_of, HS.out]; have hB := bl_next hB hb; clear hb))
        go_ret
        refine ⟨?_, bl_from Hw.out hB⟩
        first | rfl | (simp; omega)
end Go.Proofs.Ytdcceaafiammfaa
