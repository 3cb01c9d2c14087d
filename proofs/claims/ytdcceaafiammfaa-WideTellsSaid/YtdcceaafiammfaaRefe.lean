import Derived.Test.YtdcceaafiammfaaProg
import Derived.Test.YtdcceaafiammfaaDig
namespace Go.Proofs.Ytdcceaafiammfaa
open Go.RowKit
set_option linter.unusedSimpArgs false
set_option linter.unusedVariables false
theorem cast_bit (U r : Nat) : ((U : Int) / 2 ^ r % 2) = ((U / 2 ^ r % 2 : Nat) : Int) := by
  rw [Int.natCast_emod, Int.natCast_ediv, Int.natCast_pow]; rfl
theorem half_step (U r : Nat) : U / 2 ^ r = 2 * (U / 2 ^ (r + 1)) + U / 2 ^ r % 2 := by
  rw [Nat.pow_succ, ← Nat.div_div_eq_div_mul]; omega
set_option maxHeartbeats 4000000 in
set_option maxRecDepth 100000 in
theorem rtext_calls (h l : Int) (w : World) (k : WOk h l) :
    Calls Try.prog 52 #[.agg #[.int .i64 h, .int .u64 l]] w fun e w' => e = .returned (.string ⟨(Lib.itoa (wval h l)).toArray⟩) ∧ Below w.heap.size w w' := by
  have K := Lib.hid k
  obtain ⟨V, hV⟩ : ∃ V, wval h l = V := ⟨_, rfl⟩
  have HV := Lib.hid hV
  obtain ⟨U, hU⟩ : ∃ U : Nat, U = V.natAbs := ⟨_, rfl⟩
  have HN := Lib.hid (show (h < 0 → -V - 1 + 0 + 1 = (U : Int)) ∧ (¬ h < 0 → V = (U : Int)) ∧ (h < 0 ↔ V < 0) by
    obtain ⟨a, b, c, d⟩ := k; unfold wval at hV; omega)
  have HU := Lib.hid (show U / 2 ^ 129 = 0 from Nat.div_eq_of_lt (by
    obtain ⟨a, b, c, d⟩ := k; unfold wval at hV
    rw [show (2 : Nat) ^ 129 = 680564733841876926926749214863536422912 from rfl]; omega))
  have HUV := Lib.hid hU
  clear k hU hV
  rw [HV.out]
  go_enter Try.func52, Try.ntmps52
  go_upto_region 1 with fail
  first | with_reducible refine name_wp ?_ | with_reducible refine name_calls ?_
  intro W hWeq
  have g0 : W.heap[w.heap.size]? = some (.cells #[.int .i64 h, .int .u64 l] 57) := by rw [hWeq]; repeat (first | (with_reducible exact blk_newAt _ _ (by simp)) | with_reducible refine blk_drew ?_ | with_reducible refine blk_dN ?_ _ | with_reducible refine blk_old ?_ _)
  have hw : Below w.heap.size w W := by rw [hWeq]; repeat (first | with_reducible exact Below.refl _ _ | with_reducible refine Below.drew ?_ | with_reducible refine bl_dN ?_ _ | with_reducible refine Below.alloc ?_ (by simp <;> omega) _)
  clear hWeq
  have hz : w.heap.size + 1 ≤ W.heap.size := by have := blk_lt g0; omega
  have c0_0 : W.cell? ⟨w.heap.size, 0, none⟩ = some (.int .i64 h) := blk_cell g0 0
  have c0_1 : W.cell? ⟨w.heap.size, 1, none⟩ = some (.int .u64 l) := blk_cell g0 1
  have f0 : ∀ j, W.frozen? ⟨w.heap.size, j, none⟩ = false := blk_free g0
  have hB : Below W.heap.size W W := Below.refl _ _
  have G0 := Lib.hid g0; clear g0
  have F0 := Lib.hid f0; clear f0
  have Hw := Lib.hid hw; clear hw
  go_upto_region 2 with (go_at_call 71; refine (bits1_calls h l _ K.out).mono ?_; rintro e w' ⟨⟨v1, rfl, o1⟩, hb⟩; rw [HV.out] at o1; have hB := bl_next (by repeat (first | with_reducible exact hB | refine Below.alloc ?_ (by have := hB.size; simp; omega) _ | refine bl_dN ?_ _ | refine Below.drew ?_ | refine Below.setCell ?_ (by have := hB.size; simp; omega) _)) hb; clear hb; have k0_0 := cb hB c0_0; have k0_1 := cb hB c0_1; have kz0 : w.heap.size < _ := lt_of_cell k0_0)
  obtain ⟨g, cap, rfl, hg, hgs, _, _⟩ := own_cells o1 (by rw [ints_length, bits_length]; omega)
  rw [ints_length, bits_length] at o1 ⊢
  have O1 := Lib.hid o1
  clear o1 hgs
  go_upto_if 17 with fail
  go_cut [3, 4, 5] from 17 to 37 (fun s3 _ _ wc => Own wc W.heap.size 3 s3 (ints (bits (U : Int) 129)) ∧ Below W.heap.size W wc)
  case first =>
    by_cases hneg : h < 0
    · have O2 := Lib.hid (show Own w' W.heap.size 3 (.slice (some ⟨g, 0, none⟩) 129 cap) (ints (turn V 0 129)) by rw [turn_zero]; exact O1.out)
      clear O1
      go_wp2_with fail
      go_loopw [4] (fun i wr => ∃ k : Nat, i = .int .i64 k ∧ k ≤ 129 ∧ Hid (Own wr W.heap.size 3 (.slice (some ⟨g, 0, none⟩) 129 cap) (ints (turn V k 129))) ∧ Below W.heap.size W wr) (fun i _ => 129 - (intOf i).toNat)
      case atStart => exact ⟨0, rfl, by omega, O2, hB⟩
      case round =>
        clear O2 hB k0_0 k0_1
        obtain ⟨k, rfl, hk, hown, hB⟩ := hrel
        by_cases hlt : k < 129
        · obtain ⟨_, hgs, hcell, hfz⟩ := own_at hown.out
          rw [ints_length, turn_length] at hcell
          have ca := hcell k hlt
          rw [ints_getD (by rw [turn_length]; exact hlt), turn_getD _ _ _ _ hlt, if_neg (by omega)] at ca
          have cf := hfz k
          obtain ⟨x, hx⟩ : ∃ x, V / 2 ^ k % 2 = x := ⟨_, rfl⟩
          have hx01 : 0 ≤ x ∧ x ≤ 1 := by omega
          rw [hx] at ca
          obtain ⟨hx0, hx1⟩ := hx01
          have ON := Lib.hid (own_set hown.out k (by rw [ints_length, turn_length]; exact hlt) (.int .i64 (1 - x)))
          rw [ints_set, ← hx, turn_set _ _ _ hlt, hx] at ON
          clear hcell hfz hx
          have hkn : (k : Int) < 129 := by omega
          go_wp2_with fail
          go_roundw
          case rel => exact ⟨k + 1, by go_num, by omega, ON, hB.setCell hg _⟩
          case measure => simp [intOf]; omega
        · have hkn := Lib.hid (show k = 129 by omega)
          have o1 := hown.out
          rw [hkn.out, turn_all] at o1
          clear hown
          go_wp2_with (first | (at_make; refine mk_int rfl (.tmp 33) (.tmp 33) rfl W.heap.size 129 rfl rfl (by decide) (by have := hB.size; omega) ?_; intro w1 om hbm; have o1 := own_below o1 hbm; have hB := bl_next hB hbm; clear hbm) | (go_at_call 70; refine (sum_calls (-V - 1) 0 1 129 _ _ _ (by decide) (by decide) (Or.inr rfl) (own_mono o1 (Nat.zero_le _)) (own_mono om (Nat.zero_le _))).mono ?_; rintro e w' ⟨⟨v3, rfl, o3⟩, hb⟩; have hz3 := hB.size; have hB := bl_next (by repeat (first | with_reducible exact hB | refine Below.alloc ?_ (by have := hB.size; simp; omega) _ | refine bl_dN ?_ _ | refine Below.drew ?_ | refine Below.setCell ?_ (by have := hB.size; simp; omega) _)) hb; clear hb; have k0_0 := cb hB c0_0; have k0_1 := cb hB c0_1; have kz0 : w.heap.size < _ := lt_of_cell k0_0))
          go_meet
          rw [HN.out.1 hneg] at o3
          exact ⟨own_mono o3 hz3, hB⟩
    · go_wp2_with fail
      go_meet
      rw [← HN.out.2.1 hneg]
      exact ⟨O1.out, hB⟩
  case rest =>
    clear O1
    obtain ⟨o1, hB⟩ := hcut
    go_upto_region 9 with fail
    obtain ⟨W2, rfl⟩ : ∃ W2 : World, W2 = wc := ⟨_, rfl⟩
    have HBW := Lib.hid hB
    have d0 := cb hB c0_0
    clear hB c0_0 c0_1 k0_0 k0_1
    have hB := Below.refl W2.heap.size W2
    obtain ⟨g1, cap1, rfl, hg1, hgs1, hc1, _⟩ := own_cells o1 (by rw [ints_length, bits_length]; omega)
    rw [ints_length, bits_length] at hc1 ⊢
    have HL := Lib.hid (show ∀ j, j < 129 → W2.cell? ⟨g1, j, none⟩ = some (.int .i64 ((U / 2 ^ j % 2 : Nat) : Int)) from fun j hj => by rw [hc1 j hj, ints_getD (by rw [bits_length]; exact hj), bits_getD _ _ _ hj, cast_bit])
    clear hc1 o1
    go_wp2_with fail
    go_loopw [6, 7, 8, 9, 10] (fun v i _ _ _ wr => ∃ r m : Nat, i = .int .i64 ((r : Int) - 1) ∧ r ≤ 129 ∧ 1 ≤ m ∧ m + r ≤ 130 ∧ Hid (U / 2 ^ r < 10 ^ m ∧ (m = 1 ∨ 10 ^ (m - 1) ≤ U / 2 ^ r)) ∧ Hid (Own wr W2.heap.size 3 v (ints (digs (U / 2 ^ r) m))) ∧ Below W2.heap.size W2 wr) (fun _ i _ _ _ _ => (intOf i + 1).toNat)
    case atStart =>
      refine ⟨129, 1, rfl, by omega, by omega, by omega, Lib.hid ⟨by rw [HU.out]; decide, .inl rfl⟩, Lib.hid ?_, hB.alloc (by omega) _⟩
      rw [HU.out]
      exact own_made1 W2 _ _ _ (Nat.le_refl _)
    case round =>
      clear hB
      obtain ⟨r, m, rfl, hr, hm1, hmr, hb, hown, hB⟩ := hrel
      cases r with
      | zero =>
        rw [Nat.pow_zero, Nat.div_one] at hown hb
        rw [show ((0 : Nat) : Int) - 1 = -1 from rfl]
        obtain ⟨g3, cap3, rfl, hg3, hgs3, hc3, _⟩ := own_cells hown.out (by rw [ints_length, digs_length]; omega)
        rw [ints_length, digs_length] at hc3 ⊢
        obtain ⟨W3, rfl⟩ : ∃ W3 : World, W3 = wr := ⟨_, rfl⟩
        have HD := Lib.hid (show ∀ j, j < m → W3.cell? ⟨g3, j, none⟩ = some (.int .i64 ((U / 10 ^ j % 10 : Nat) : Int)) from fun j hj => by rw [hc3 j hj, ints_getD (by rw [digs_length]; exact hj), digs_getD _ _ _ hj])
        have HBW3 := Lib.hid (bl_next HBW.out hB)
        have e0 := cb hB d0
        clear hB d0 hc3 hown HL
        have hB := Below.refl W3.heap.size W3
        go_upto_if 78 with fail
        go_cut [11] from 78 to 81 (fun s11 wc => Own wc W3.heap.size 5 s11 (byts (if h < 0 then [45] else [])) ∧ Below W3.heap.size W3 wc)
        case first =>
          by_cases hneg : h < 0
          · go_wp2_with (at_builtin; refine app_u8 rfl (.tmp 79) (.tmp 80) rfl W3.heap.size _ _ [] _ rfl (own_nil _ _ _) _ rfl rfl (Nat.le_refl _) (by decide) ?_; intro v' w1 hown' hB' hk')
            go_meet
            rw [if_pos hneg]
            exact ⟨hown', hB.trans hB'⟩
          · go_wp2_with fail
            go_meet
            rw [if_neg (by omega)]
            exact ⟨own_nil _ _ _, hB⟩
        case rest =>
          obtain ⟨op, hB⟩ := hcut
          obtain ⟨pre, hpre⟩ : ∃ pre : List UInt8, pre = (if h < 0 then [45] else []) := ⟨_, rfl⟩
          have hpl : pre.length ≤ 1 := by rw [hpre]; split <;> simp
          rw [← hpre] at op
          have OP := Lib.hid op
          have HPRE := Lib.hid hpre
          clear op hpre
          go_wp2_with fail
          go_loopw [11, 12] (fun v i wr => ∃ r : Nat, i = .int .i64 ((r : Int) - 1) ∧ r ≤ m ∧ Hid (Own wr W3.heap.size 5 v (byts (pre ++ topB U m r))) ∧ Below W3.heap.size W3 wr) (fun _ i _ => (intOf i + 1).toNat)
          case atStart => exact ⟨m, rfl, by omega, by rw [topB_start, List.append_nil]; exact OP, hB⟩
          case round =>
            clear OP hB
            obtain ⟨r, rfl, hrm, hown, hB⟩ := hrel
            cases r with
            | succ r =>
              have ca := cb hB (HD.out r (by omega))
              obtain ⟨D, hD⟩ : ∃ D : Nat, U / 10 ^ r % 10 = D := ⟨_, rfl⟩
              have hD9 : D ≤ 9 := by omega
              rw [hD] at ca
              have HB3 := Lib.hid (dig_byte D (by omega))
              have HTS := Lib.hid (topB_step U m r (by omega))
              rw [hD] at HTS
              clear hD
              rw [show ((r + 1 : Nat) : Int) - 1 = (r : Int) by omega]
              have hr0 : (0 : Int) ≤ r := by omega
              have hrm2 : (r : Int) < m := by omega
              have hD0 : (0 : Int) ≤ (D : Int) := by omega
              have hD1 : (D : Int) ≤ 9 := by omega
              go_wp2_with (at_builtin; refine app_u8 rfl (.tmp 89) (.tmp 96) rfl W3.heap.size _ _ _ _ rfl hown.out _ rfl rfl (by have := hB.size; omega) (by rw [byts_length, List.length_append, topB_length]; omega) ?_; intro v' w1 hown' hB' hk')
              go_roundw
              case rel => exact ⟨r, rfl, by omega, by rw [HTS.out, ← List.append_assoc, ← byts_append, HB3.out]; exact Lib.hid hown', hB.trans hB'⟩
              case measure => simp [intOf]
            | zero =>
              obtain ⟨g4, cap4, rfl, hg4, hgs4, hc4, _⟩ := own_cells hown.out (by rw [byts_length, List.length_append, topB_length]; omega)
              rw [byts_length] at hc4 ⊢
              have hback := run_convert_bytes_back (P := Try.prog) wr 100 9 5 ⟨g4, 0, none⟩ cap4 (pre ++ topB U m 0) Try.underlying100 Try.underlying5 Try.underlying9 (fun j hj => by
                have e0 : (⟨g4, 0, none⟩ : Addr).add j = ⟨g4, j, none⟩ := by unfold Addr.add; split <;> simp_all
                rw [e0, hc4 j hj, byts_getD hj])
              obtain ⟨T, hT⟩ : ∃ T, pre ++ topB U m 0 = T := ⟨_, rfl⟩
              have HT := Lib.hid (show T = Lib.itoa V by
                obtain ⟨m, rfl⟩ : ∃ q, m = q + 1 := ⟨m - 1, by omega⟩
                rw [← hT, topB_dec m U hb.out.1 (by rcases hb.out.2 with q | q; exact .inl (by omega); exact .inr (by simpa using q)), HPRE.out, Lib.itoa]
                by_cases hneg : h < 0
                · rw [if_pos hneg, if_pos (HN.out.2.2.1 hneg), ← HUV.out]; rfl
                · rw [if_neg hneg, if_neg (fun q => hneg (HN.out.2.2.2 q)), HUV.out]
                  have : V.natAbs = V.toNat := by have := mt HN.out.2.2.2 hneg; omega
                  rw [this]; rfl)
              rw [hT] at hback ⊢
              clear hc4 hT
              go_wp2_with fail
              go_ret
              exact ⟨by rw [← HT.out]; rfl, bl_from Hw.out (bl_next HBW3.out hB)⟩
      | succ r =>
        obtain ⟨u, hu⟩ : ∃ u, U / 2 ^ (r + 1) = u := ⟨_, rfl⟩
        obtain ⟨v, hv⟩ : ∃ v, U / 2 ^ r = v := ⟨_, rfl⟩
        obtain ⟨x, hx⟩ : ∃ x, v % 2 = x := ⟨_, rfl⟩
        have ca := cb hB (HL.out r (by omega))
        have hvu := half_step U r
        rw [hu] at hown hb hvu
        rw [hv] at ca hvu
        rw [hx] at ca hvu
        have hx1 : x ≤ 1 := by omega
        have HV2 := Lib.hid hv
        have HVU := Lib.hid hvu
        clear hu hv hx hvu
        obtain ⟨g2, cap2, rfl, hg2, hgs2, _, _⟩ := own_cells hown.out (by rw [ints_length, digs_length]; omega)
        rw [ints_length, digs_length] at hown ⊢
        rw [show ((r + 1 : Nat) : Int) - 1 = (r : Int) by omega]
        have hr0 : (0 : Int) ≤ r := by omega
        have hr1 : (r : Int) < 129 := by omega
        go_wp2_with fail
        go_loopw [8, 9, 10] (fun c i _ wq => ∃ k cy : Nat, i = .int .i64 k ∧ k ≤ m ∧ c = .int .i64 cy ∧ cy ≤ 1 ∧ Hid (v / 10 ^ k = 2 * (u / 10 ^ k) + cy) ∧ Hid (Own wq W2.heap.size 3 (.slice (some ⟨g2, 0, none⟩) m cap2) (ints (mixd u v k m))) ∧ Below W2.heap.size W2 wq) (fun _ i _ _ => m - (intOf i).toNat)
        case atStart => exact ⟨0, x, rfl, by omega, rfl, hx1, Lib.hid (by simpa using HVU.out), Lib.hid (by rw [mixd_zero]; exact hown.out), hB⟩
        case round =>
          clear hB hown ca
          obtain ⟨k, cy, rfl, hk, rfl, hcy, hq, hown, hB⟩ := hrel
          by_cases hlt : k < m
          · obtain ⟨_, hgs, hcell, hfz⟩ := own_at hown.out
            rw [ints_length, mixd_length] at hcell
            have ca := hcell k hlt
            rw [ints_getD (by rw [mixd_length]; exact hlt), mixd_getD _ _ _ _ _ hlt, if_neg (by omega)] at ca
            have cf := hfz k
            obtain ⟨hs1, hs2⟩ := dig_step hq.out
            obtain ⟨D, hD⟩ : ∃ D : Int, ((u / 10 ^ k % 10 : Nat) : Int) = D := ⟨_, rfl⟩
            have hD01 : 0 ≤ D ∧ D ≤ 9 := by omega
            rw [hD] at ca
            have e1 : (2 * D + (cy : Int)) % 10 = ((v / 10 ^ k % 10 : Nat) : Int) := by rw [← hs1, ← hD]; omega
            obtain ⟨cz, hcz⟩ : ∃ cz, (2 * (u / 10 ^ k % 10) + cy) / 10 = cz := ⟨_, rfl⟩
            have e2 : (2 * D + (cy : Int)) / 10 = (cz : Int) := by rw [← hcz, ← hD]; omega
            rw [hcz] at hs2
            have hcz1 : cz ≤ 1 := by omega
            have ON := Lib.hid (own_set hown.out k (by rw [ints_length, mixd_length]; exact hlt) (.int .i64 ((2 * D + (cy : Int)) % 10)))
            rw [ints_set, e1, mixd_set _ _ _ _ hlt, ← e1] at ON
            have E2 := Lib.hid e2; have HS2 := Lib.hid hs2
            obtain ⟨hD0, hD1⟩ := hD01
            clear hcell hfz hD hs1 hs2 e1 e2 hcz
            have hkn : (k : Int) < m := by omega
            have hcyI : (0 : Int) ≤ cy ∧ (cy : Int) ≤ 1 := by omega
            obtain ⟨hcy0, hcyy⟩ := hcyI
            go_wp2_with fail
            go_roundw
            case rel => exact ⟨k + 1, cz, by go_num, by omega, by rw [← E2.out], hcz1, HS2, ON, hB.setCell hg2 _⟩
            case measure => simp [intOf]; omega
          · have hkn := Lib.hid (show k = m by omega)
            rw [hkn.out, mixd_all] at hown
            rw [hkn.out] at hq
            have hum : u / 10 ^ m = 0 := Nat.div_eq_of_lt hb.out.1
            rw [hum] at hq
            have hb1 := hb.out.2
            have hvu := HVU.out
            have hpm : 0 < 10 ^ m := Nat.pow_pos (by decide)
            rcases (show cy = 0 ∨ cy = 1 by omega) with rfl | rfl
            · have HB2 := Lib.hid (show U / 2 ^ r < 10 ^ m ∧ (m = 1 ∨ 10 ^ (m - 1) ≤ U / 2 ^ r) by
                rw [HV2.out]
                refine ⟨?_, by omega⟩
                have := Nat.lt_mul_div_succ v hpm
                rw [hq.out] at this; omega)
              clear hb1 hvu hpm hum
              go_wp2_with fail
              go_roundw
              case rel => exact ⟨r, m, rfl, by omega, hm1, by omega, HB2, by rw [HV2.out]; exact hown, hB⟩
              case measure => simp [intOf]
            · have HB2 := Lib.hid (show U / 2 ^ r < 10 ^ (m + 1) ∧ (m + 1 = 1 ∨ 10 ^ (m + 1 - 1) ≤ U / 2 ^ r) by
                rw [HV2.out, Nat.pow_succ]
                have h1 := Nat.lt_mul_div_succ v hpm
                have h2 := Nat.mul_div_le v (10 ^ m)
                rw [hq.out] at h1 h2
                exact ⟨by omega, by right; simp; omega⟩)
              have hd : ((v / 10 ^ m % 10 : Nat) : Int) = 1 := by rw [hq.out]; rfl
              have HDS := Lib.hid (digs_succ v m)
              rw [hd] at HDS
              clear hb1 hvu hpm hum hd
              go_wp2_with (at_builtin; refine app_int rfl (.tmp 72) (.tmp 74) rfl W2.heap.size _ _ _ _ rfl hown.out _ rfl rfl (by have := hB.size; omega) (by rw [ints_length, digs_length]; omega) ?_; intro v' w1 hown' hB' hk')
              go_roundw
              case rel => exact ⟨r, m + 1, rfl, by omega, by omega, by omega, HB2, by rw [HV2.out, ← HDS.out, ← ints_append]; exact Lib.hid hown', hB.trans hB'⟩
              case measure => simp [intOf]
end Go.Proofs.Ytdcceaafiammfaa
