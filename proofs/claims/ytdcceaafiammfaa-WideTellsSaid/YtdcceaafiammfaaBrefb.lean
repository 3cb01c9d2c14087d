import Derived.Test.YtdcceaafiammfaaProg
import Derived.Test.YtdcceaafiammfaaBref
namespace Go.Proofs.Ytdcceaafiammfaa
open Go.RowKit
set_option linter.unusedSimpArgs false
set_option linter.unusedVariables false
/-- The first k bits turned. -/
def turn (B : Int) (k n : Nat) : List Int := (List.range n).map fun j => if j < k then (-B - 1) / 2 ^ j % 2 else B / 2 ^ j % 2
theorem turn_zero (B : Int) (n : Nat) : turn B 0 n = bits B n := by simp [turn, bits]
theorem turn_all (B : Int) (n : Nat) : turn B n n = bits (-B - 1) n := by
  unfold turn bits
  apply List.map_congr_left
  intro j hj; rw [if_pos (List.mem_range.1 hj)]
theorem turn_length (B : Int) (k n : Nat) : (turn B k n).length = n := by simp [turn]
theorem turn_getD (B : Int) (k n j : Nat) (h : j < n) : (turn B k n).getD j 0 = if j < k then (-B - 1) / 2 ^ j % 2 else B / 2 ^ j % 2 := by
  simp [turn, List.getD_eq_getElem?_getD, h]
theorem turn_set (B : Int) (k n : Nat) (h : k < n) : (turn B k n).set k (1 - B / 2 ^ k % 2) = turn B (k + 1) n := by
  apply List.ext_getElem
  · simp [turn]
  · intro j h1 h2
    have hj : j < n := by simpa [turn] using h1
    rw [List.getElem_set]
    simp only [turn, List.getElem_map, List.getElem_range]
    split
    · rename_i e; subst e; rw [if_pos (by omega), bit_not]
    · rename_i e
      by_cases h3 : j < k
      · rw [if_pos h3, if_pos (by omega)]
      · rw [if_neg h3, if_neg (by omega)]
theorem sub_top {h l h' l' : Int} (k : WOk h l) (k' : WOk h' l') : (wval h l + (-wval h' l' - 1) + 1) / 2 ^ (130 - 1) = 0 ∨ (wval h l + (-wval h' l' - 1) + 1) / 2 ^ (130 - 1) = -1 := by
  rw [show (2 : Int) ^ (130 - 1) = 680564733841876926926749214863536422912 from rfl]
  obtain ⟨a, b, c, d⟩ := k; obtain ⟨a', b', c', d'⟩ := k'; unfold wval; omega
set_option maxHeartbeats 4000000 in
set_option maxRecDepth 100000 in
theorem rsub_calls (h l h' l' : Int) (w : World) (k : WOk h l) (k' : WOk h' l') :
    Calls Try.prog 41 #[.agg #[.int .i64 h, .int .u64 l], .agg #[.int .i64 h', .int .u64 l']] w fun e w' => e = .returned (wideRes (wval h l - wval h' l')) ∧ Below w.heap.size w w' := by
  obtain ⟨x, xl, ok, RR, KX, VX⟩ := wide_parts (wval h l - wval h' l')
  have K := Lib.hid k; have K' := Lib.hid k'; have TT := Lib.hid (sub_top k k'); clear k k'
  have RR' := Lib.hid (show wideRes (wval h l + (-wval h' l' - 1) + 1) = .tuple #[.agg #[.int .i64 x, .int .u64 xl], .bool ok] by rw [show wval h l + (-wval h' l' - 1) + 1 = wval h l - wval h' l' by omega]; exact RR.out)
  rw [RR.out]
  clear KX VX
  go_enter Try.func41, Try.ntmps41
  go_upto_region 1 with fail
  first | with_reducible refine name_wp ?_ | with_reducible refine name_calls ?_
  intro W hWeq
  have g0 : W.heap[w.heap.size]? = some (.cells #[.int .i64 h, .int .u64 l] 57) := by rw [hWeq]; repeat (first | (with_reducible exact blk_newAt _ _ (by simp)) | with_reducible refine blk_drew ?_ | with_reducible refine blk_dN ?_ _ | with_reducible refine blk_old ?_ _)
  have g1 : W.heap[w.heap.size + 1]? = some (.cells #[.int .i64 h', .int .u64 l'] 57) := by rw [hWeq]; repeat (first | (with_reducible exact blk_newAt _ _ (by simp)) | with_reducible refine blk_drew ?_ | with_reducible refine blk_dN ?_ _ | with_reducible refine blk_old ?_ _)
  have g2 : W.heap[w.heap.size + 2]? = some (.cells #[.int .i64 0, .int .u64 0] 57) := by rw [hWeq]; repeat (first | (with_reducible exact blk_newAt _ _ (by simp)) | with_reducible refine blk_drew ?_ | with_reducible refine blk_dN ?_ _ | with_reducible refine blk_old ?_ _)
  have hw : Below w.heap.size w W := by rw [hWeq]; repeat (first | with_reducible exact Below.refl _ _ | with_reducible refine Below.drew ?_ | with_reducible refine bl_dN ?_ _ | with_reducible refine Below.alloc ?_ (by simp <;> omega) _)
  clear hWeq
  have hz : w.heap.size + 3 ≤ W.heap.size := by have := blk_lt g2; omega
  have c0_0 : W.cell? ⟨w.heap.size, 0, none⟩ = some (.int .i64 h) := blk_cell g0 0
  have c0_1 : W.cell? ⟨w.heap.size, 1, none⟩ = some (.int .u64 l) := blk_cell g0 1
  have f0 : ∀ j, W.frozen? ⟨w.heap.size, j, none⟩ = false := blk_free g0
  have c1_0 : W.cell? ⟨w.heap.size + 1, 0, none⟩ = some (.int .i64 h') := blk_cell g1 0
  have c1_1 : W.cell? ⟨w.heap.size + 1, 1, none⟩ = some (.int .u64 l') := blk_cell g1 1
  have f1 : ∀ j, W.frozen? ⟨w.heap.size + 1, j, none⟩ = false := blk_free g1
  have c2_0 : W.cell? ⟨w.heap.size + 2, 0, none⟩ = some (.int .i64 0) := blk_cell g2 0
  have c2_1 : W.cell? ⟨w.heap.size + 2, 1, none⟩ = some (.int .u64 0) := blk_cell g2 1
  have f2 : ∀ j, W.frozen? ⟨w.heap.size + 2, j, none⟩ = false := blk_free g2
  have hB : Below W.heap.size W W := Below.refl _ _
  have G0 := Lib.hid g0; clear g0
  have F0 := Lib.hid f0; clear f0
  have G1 := Lib.hid g1; clear g1
  have F1 := Lib.hid f1; clear f1
  have G2 := Lib.hid g2; clear g2
  have F2 := Lib.hid f2; clear f2
  have Hw := Lib.hid hw; clear hw
  go_upto_region 2 with (go_at_call 71; refine (bits2_calls h' l' _ K'.out).mono ?_; rintro e w' ⟨⟨v1, rfl, o1⟩, hb⟩; have hB := bl_next (by repeat (first | with_reducible exact hB | refine Below.alloc ?_ (by have := hB.size; simp; omega) _ | refine bl_dN ?_ _ | refine Below.drew ?_ | refine Below.setCell ?_ (by have := hB.size; simp; omega) _)) hb; clear hb; have k0_0 := cb hB c0_0; have k0_1 := cb hB c0_1; have k1_0 := cb hB c1_0; have k1_1 := cb hB c1_1; have k2_0 := cb hB c2_0; have k2_1 := cb hB c2_1; have kz0 : w.heap.size < _ := lt_of_cell k0_0; have kz1 : w.heap.size + 1 < _ := lt_of_cell k1_0; have kz2 : w.heap.size + 2 < _ := lt_of_cell k2_0)
  obtain ⟨g, cap, rfl, hg, hgs, _, _⟩ := own_cells o1 (by rw [ints_length, bits_length]; omega)
  rw [ints_length, bits_length] at o1 ⊢
  have O1 := Lib.hid (show Own w' W.heap.size 3 (.slice (some ⟨g, 0, none⟩) 130 cap) (ints (turn (wval h' l') 0 130)) by rw [turn_zero]; exact o1)
  clear o1 hgs
  go_wp2_with fail
  go_loopw [7] (fun i wr => ∃ k : Nat, i = .int .i64 k ∧ k ≤ 130 ∧ Hid (Own wr W.heap.size 3 (.slice (some ⟨g, 0, none⟩) 130 cap) (ints (turn (wval h' l') k 130))) ∧ Below W.heap.size W wr) (fun i _ => 130 - (intOf i).toNat)
  case atStart => exact ⟨0, rfl, by omega, O1, hB⟩
  case round =>
    clear O1 hB k0_0 k0_1 k1_0 k1_1 k2_0 k2_1
    obtain ⟨k, rfl, hk, hown, hB⟩ := hrel
    by_cases hlt : k < 130
    · obtain ⟨_, hgs, hcell, hfz⟩ := own_at hown.out
      rw [ints_length, turn_length] at hcell
      have ca := hcell k hlt
      rw [ints_getD (by rw [turn_length]; exact hlt), turn_getD _ _ _ _ hlt, if_neg (by omega)] at ca
      have cf := hfz k
      obtain ⟨x, hx⟩ : ∃ x, wval h' l' / 2 ^ k % 2 = x := ⟨_, rfl⟩
      have hx01 : 0 ≤ x ∧ x ≤ 1 := by omega
      rw [hx] at ca
      obtain ⟨hx0, hx1⟩ := hx01
      have ON := Lib.hid (own_set hown.out k (by rw [ints_length, turn_length]; exact hlt) (.int .i64 (1 - x)))
      rw [ints_set, ← hx, turn_set _ _ _ hlt, hx] at ON
      clear hcell hfz hx
      have hkn : (k : Int) < 130 := by omega
      go_wp2_with fail
      go_roundw
      case rel => exact ⟨k + 1, by go_num, by omega, ON, hB.setCell hg _⟩
      case measure => simp [intOf]; omega
    · have hkn := Lib.hid (show k = 130 by omega)
      have o1 := hown.out
      rw [hkn.out, turn_all] at o1
      clear hown
      have k0_0 := cb hB c0_0
      have k0_1 := cb hB c0_1
      have k1_0 := cb hB c1_0
      have k1_1 := cb hB c1_1
      have k2_0 := cb hB c2_0
      have k2_1 := cb hB c2_1
      have kz0 : w.heap.size < _ := lt_of_cell k0_0
      have kz1 : w.heap.size + 1 < _ := lt_of_cell k1_0
      have kz2 : w.heap.size + 2 < _ := lt_of_cell k2_0
      have kf0_0 := fb hB (lt_of_cell c0_0) (F0.out 0)
      have kf0_1 := fb hB (lt_of_cell c0_1) (F0.out 1)
      have kf1_0 := fb hB (lt_of_cell c1_0) (F1.out 0)
      have kf1_1 := fb hB (lt_of_cell c1_1) (F1.out 1)
      have kf2_0 := fb hB (lt_of_cell c2_0) (F2.out 0)
      have kf2_1 := fb hB (lt_of_cell c2_1) (F2.out 1)
      go_wp2_with (first | (go_at_call 71; refine (bits2_calls h l _ K.out).mono ?_; rintro e w' ⟨⟨v2, rfl, o2⟩, hb⟩; have o1 := own_below o1 hb; have hB := bl_next (by repeat (first | with_reducible exact hB | refine Below.alloc ?_ (by have := hB.size; simp; omega) _ | refine bl_dN ?_ _ | refine Below.drew ?_ | refine Below.setCell ?_ (by have := hB.size; simp; omega) _)) hb; clear hb; have k0_0 := cb hB c0_0; have k0_1 := cb hB c0_1; have k1_0 := cb hB c1_0; have k1_1 := cb hB c1_1; have k2_0 := cb hB c2_0; have k2_1 := cb hB c2_1; have kz0 : w.heap.size < _ := lt_of_cell k0_0; have kz1 : w.heap.size + 1 < _ := lt_of_cell k1_0; have kz2 : w.heap.size + 2 < _ := lt_of_cell k2_0; have kf0_0 := fb hB (lt_of_cell c0_0) (F0.out 0); have kf0_1 := fb hB (lt_of_cell c0_1) (F0.out 1); have kf1_0 := fb hB (lt_of_cell c1_0) (F1.out 0); have kf1_1 := fb hB (lt_of_cell c1_1) (F1.out 1); have kf2_0 := fb hB (lt_of_cell c2_0) (F2.out 0); have kf2_1 := fb hB (lt_of_cell c2_1) (F2.out 1)) | (go_at_call 70; refine (sum_calls (wval h l) (-wval h' l' - 1) 1 130 _ _ _ (by decide) (by decide) (Or.inr rfl) (own_mono o2 (Nat.zero_le _)) (own_mono o1 (Nat.zero_le _))).mono ?_; rintro e w' ⟨⟨v3, rfl, o3⟩, hb⟩; have hB := bl_next (by repeat (first | with_reducible exact hB | refine Below.alloc ?_ (by have := hB.size; simp; omega) _ | refine bl_dN ?_ _ | refine Below.drew ?_ | refine Below.setCell ?_ (by have := hB.size; simp; omega) _)) hb; clear hb; have k0_0 := cb hB c0_0; have k0_1 := cb hB c0_1; have k1_0 := cb hB c1_0; have k1_1 := cb hB c1_1; have k2_0 := cb hB c2_0; have k2_1 := cb hB c2_1; have kz0 : w.heap.size < _ := lt_of_cell k0_0; have kz1 : w.heap.size + 1 < _ := lt_of_cell k1_0; have kz2 : w.heap.size + 2 < _ := lt_of_cell k2_0; have kf0_0 := fb hB (lt_of_cell c0_0) (F0.out 0); have kf0_1 := fb hB (lt_of_cell c0_1) (F0.out 1); have kf1_0 := fb hB (lt_of_cell c1_0) (F1.out 0); have kf1_1 := fb hB (lt_of_cell c1_1) (F1.out 1); have kf2_0 := fb hB (lt_of_cell c2_0) (F2.out 0); have kf2_1 := fb hB (lt_of_cell c2_1) (F2.out 1)) | (go_at_call 69; refine (number_calls _ 130 _ _ (by decide) (by decide) TT.out (own_mono o3 (Nat.zero_le _))).mono ?_; rintro e w' ⟨rfl, hb⟩; rw [RR'.out]; have hB := bl_next (by repeat (first | with_reducible exact hB | refine Below.alloc ?_ (by have := hB.size; simp; omega) _ | refine bl_dN ?_ _ | refine Below.drew ?_ | refine Below.setCell ?_ (by have := hB.size; simp; omega) _)) hb; clear hb; have k0_0 := cb hB c0_0; have k0_1 := cb hB c0_1; have k1_0 := cb hB c1_0; have k1_1 := cb hB c1_1; have k2_0 := cb hB c2_0; have k2_1 := cb hB c2_1; have kz0 : w.heap.size < _ := lt_of_cell k0_0; have kz1 : w.heap.size + 1 < _ := lt_of_cell k1_0; have kz2 : w.heap.size + 2 < _ := lt_of_cell k2_0; have kf0_0 := fb hB (lt_of_cell c0_0) (F0.out 0); have kf0_1 := fb hB (lt_of_cell c0_1) (F0.out 1); have kf1_0 := fb hB (lt_of_cell c1_0) (F1.out 0); have kf1_1 := fb hB (lt_of_cell c1_1) (F1.out 1); have kf2_0 := fb hB (lt_of_cell c2_0) (F2.out 0); have kf2_1 := fb hB (lt_of_cell c2_1) (F2.out 1)))
      have hw0 := bl_from Hw.out hB
      refine bodyPost_ret (v := .tuple #[.agg #[.int .i64 x, .int .u64 xl], .bool ok]) (by simp [results, Try.results41, go_sem, k2_0, k2_1]) rfl ⟨rfl, by (repeat (first | exact Below.refl _ _ | exact hw0 | refine Below.setCell ?_ (by first | (simp; done) | (simp; omega)) _ | refine Below.alloc ?_ (by first | (simp; done) | (simp; omega)) _ | refine bl_dN ?_ _ | refine Below.drew ?_))⟩
end Go.Proofs.Ytdcceaafiammfaa
