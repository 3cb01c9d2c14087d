import Derived.Test.YtdcceaafiammfaaProg
import Derived.Test.YtdcceaafiammfaaBrefc
namespace Go.Proofs.Ytdcceaafiammfaa
open Go.RowKit
set_option linter.unusedSimpArgs false
set_option linter.unusedVariables false
def zeros (n : Nat) : List Int := List.replicate n 0
theorem zeros_succ (n : Nat) : ints (zeros n) ++ [.int .i64 0] = ints (zeros (n + 1)) := by rw [ints_append]; unfold zeros; rw [List.replicate_succ']
theorem shift_top {h l : Int} (k : WOk h l) (n : Nat) : (wval h l * 2 ^ n) / 2 ^ (n + 128 - 1) = 0 ∨ (wval h l * 2 ^ n) / 2 ^ (n + 128 - 1) = -1 := by
  rw [show n + 128 - 1 = n + 127 by omega, div_add, Int.mul_ediv_cancel _ (by have := p2_pos n; omega)]
  exact wide_top (wIn_val k)
set_option maxHeartbeats 4000000 in
set_option maxRecDepth 100000 in
theorem rshift_calls (h l n : Int) (w : World) (k : WOk h l) :
    Calls Try.prog 45 #[.agg #[.int .i64 h, .int .u64 l], .int .i64 n] w fun e w' => e = .returned (shiftRes (wval h l) n) ∧ Below w.heap.size w w' := by
  have K := Lib.hid k; clear k
  by_cases hn : n < 0 ∨ n > 127
  · have RR := Lib.hid (show shiftRes (wval h l) n = .tuple #[.agg #[.int .i64 0, .int .u64 0], .bool false] by unfold shiftRes; rw [if_neg (by omega)])
    rw [RR.out]
    go_enter Try.func45, Try.ntmps45
    rcases hn with hn | hn
    · go_wp2
      have hw0 := Below.refl w.heap.size w
      refine bodyPost_ret (v := .tuple #[.agg #[.int .i64 0, .int .u64 0], .bool false]) (by simp [results, Try.results45, go_sem]) rfl ⟨rfl, by (repeat (first | exact Below.refl _ _ | exact hw0 | refine Below.setCell ?_ (by first | (simp; done) | (simp; omega)) _ | refine Below.alloc ?_ (by first | (simp; done) | (simp; omega)) _ | refine bl_dN ?_ _ | refine Below.drew ?_))⟩
    · have hn0 : ¬ n < 0 := by omega
      have hn1 : 127 < n := hn
      go_wp2
      have hw0 := Below.refl w.heap.size w
      refine bodyPost_ret (v := .tuple #[.agg #[.int .i64 0, .int .u64 0], .bool false]) (by simp [results, Try.results45, go_sem]) rfl ⟨rfl, by (repeat (first | exact Below.refl _ _ | exact hw0 | refine Below.setCell ?_ (by first | (simp; done) | (simp; omega)) _ | refine Below.alloc ?_ (by first | (simp; done) | (simp; omega)) _ | refine bl_dN ?_ _ | refine Below.drew ?_))⟩
  · obtain ⟨m, rfl⟩ : ∃ m : Nat, n = (m : Int) := ⟨n.toNat, by omega⟩
    have hm : m < 128 := by omega
    clear hn
    have TT := Lib.hid (shift_top K.out m)
    obtain ⟨x, xl, ok, RR, KX, VX⟩ := wide_parts (wval h l * 2 ^ m)
    have RS := Lib.hid (show shiftRes (wval h l) (m : Int) = .tuple #[.agg #[.int .i64 x, .int .u64 xl], .bool ok] by rw [shiftRes, if_pos (by omega), Int.toNat_natCast, RR.out])
    rw [RS.out]
    clear KX VX
    have hm0 : ¬ ((m : Int) < 0) := by omega
    have hm1 : (m : Int) ≤ 127 := by omega
    go_enter Try.func45, Try.ntmps45
    go_upto_region 3 with fail
    first | with_reducible refine name_wp ?_ | with_reducible refine name_calls ?_
    intro W hWeq
    have g0 : W.heap[w.heap.size]? = some (.cells #[.int .i64 h, .int .u64 l] 57) := by rw [hWeq]; repeat (first | (with_reducible exact blk_newAt _ _ (by simp)) | with_reducible refine blk_drew ?_ | with_reducible refine blk_dN ?_ _ | with_reducible refine blk_old ?_ _)
    have g1 : W.heap[w.heap.size + 1]? = some (.cells #[.int .i64 0, .int .u64 0] 57) := by rw [hWeq]; repeat (first | (with_reducible exact blk_newAt _ _ (by simp)) | with_reducible refine blk_drew ?_ | with_reducible refine blk_dN ?_ _ | with_reducible refine blk_old ?_ _)
    have hw : Below w.heap.size w W := by rw [hWeq]; repeat (first | with_reducible exact Below.refl _ _ | with_reducible refine Below.drew ?_ | with_reducible refine bl_dN ?_ _ | with_reducible refine Below.alloc ?_ (by simp <;> omega) _)
    clear hWeq
    have hz : w.heap.size + 2 ≤ W.heap.size := by have := blk_lt g1; omega
    have c0_0 : W.cell? ⟨w.heap.size, 0, none⟩ = some (.int .i64 h) := blk_cell g0 0
    have c0_1 : W.cell? ⟨w.heap.size, 1, none⟩ = some (.int .u64 l) := blk_cell g0 1
    have f0 : ∀ j, W.frozen? ⟨w.heap.size, j, none⟩ = false := blk_free g0
    have c1_0 : W.cell? ⟨w.heap.size + 1, 0, none⟩ = some (.int .i64 0) := blk_cell g1 0
    have c1_1 : W.cell? ⟨w.heap.size + 1, 1, none⟩ = some (.int .u64 0) := blk_cell g1 1
    have f1 : ∀ j, W.frozen? ⟨w.heap.size + 1, j, none⟩ = false := blk_free g1
    have hB : Below W.heap.size W W := Below.refl _ _
    have G0 := Lib.hid g0; clear g0
    have F0 := Lib.hid f0; clear f0
    have G1 := Lib.hid g1; clear g1
    have F1 := Lib.hid f1; clear f1
    have Hw := Lib.hid hw; clear hw
    go_wp2_with fail
    go_loopw [6, 7] (fun v i wr => ∃ k : Nat, i = .int .i64 k ∧ k ≤ m ∧ Hid (Own wr W.heap.size 3 v (ints (zeros k))) ∧ Below W.heap.size W wr) (fun _ i _ => m - (intOf i).toNat)
    case atStart => exact ⟨0, rfl, by omega, Lib.hid (own_nil _ _ _), hB⟩
    case round =>
      clear hB
      obtain ⟨k, rfl, hk, hown, hB⟩ := hrel
      by_cases hlt : k < m
      · have hkm : (k : Int) < m := by omega
        go_wp2_with (at_builtin; refine app_int rfl (.tmp 20) (.tmp 21) rfl W.heap.size _ _ _ _ rfl hown.out _ rfl rfl (by have := hB.size; omega) (by rw [ints_length, zeros, List.length_replicate]; omega) ?_; intro v' w1 hown' hB' hk')
        go_roundw
        case rel => exact ⟨k + 1, by go_num, by omega, Lib.hid (by rw [← zeros_succ]; exact hown'), hB.trans hB'⟩
        case measure => simp [intOf]; omega
      · have hkn := Lib.hid (show k = m by omega)
        rw [hkn.out] at hown
        have k0_0 := cb hB c0_0
        have k0_1 := cb hB c0_1
        have k1_0 := cb hB c1_0
        have k1_1 := cb hB c1_1
        have kz0 : w.heap.size < _ := lt_of_cell k0_0
        have kz1 : w.heap.size + 1 < _ := lt_of_cell k1_0
        have o1 := hown.out
        go_upto_region 9 with (first | (go_at_call 71; refine (bits0_calls h l _ K.out).mono ?_; rintro e w' ⟨⟨v2, rfl, o2⟩, hb⟩; have o1 := own_below o1 hb; obtain ⟨g2, cap2, rfl, hg2, hgs2, hc2, hf2⟩ := own_cells o2 (by rw [ints_length, bits_length]; omega); clear hf2; have hB := bl_next (by repeat (first | with_reducible exact hB | refine Below.alloc ?_ (by have := hB.size; simp; omega) _ | refine bl_dN ?_ _ | refine Below.drew ?_ | refine Below.setCell ?_ (by have := hB.size; simp; omega) _)) hb; clear hb; have k0_0 := cb hB c0_0; have k0_1 := cb hB c0_1; have k1_0 := cb hB c1_0; have k1_1 := cb hB c1_1; have kz0 : w.heap.size < _ := lt_of_cell k0_0; have kz1 : w.heap.size + 1 < _ := lt_of_cell k1_0) | (at_builtin; refine appN_int rfl (.tmp 23) (.tmp 25) rfl W.heap.size _ (ints (zeros m)) (ints (bits (wval h l) 128)) rfl o1 g2 0 cap2 rfl (by intro j hj; rw [Nat.zero_add]; exact hc2 j hj) (ints_one _) (by have := hB.size; omega) (by rw [ints_length, ints_length, bits_length, zeros, List.length_replicate]; omega) ?_; intro v' w1 hown' hB' hk'))
        rw [ints_app, zeros, bits_shift] at hown'
        have hB := hB.trans hB'
        have k0_0 := cb hB c0_0
        have k0_1 := cb hB c0_1
        have k1_0 := cb hB c1_0
        have k1_1 := cb hB c1_1
        have kz0 : w.heap.size < _ := lt_of_cell k0_0
        have kz1 : w.heap.size + 1 < _ := lt_of_cell k1_0
        have kf0_0 := fb hB (lt_of_cell c0_0) (F0.out 0)
        have kf0_1 := fb hB (lt_of_cell c0_1) (F0.out 1)
        have kf1_0 := fb hB (lt_of_cell c1_0) (F1.out 0)
        have kf1_1 := fb hB (lt_of_cell c1_1) (F1.out 1)
        have O3 := Lib.hid hown'
        clear hown' hk' hc2 hB' o1 o2
        go_wp2_with (go_at_call 69; refine (number_calls _ (m + 128) _ _ (by omega) (by omega) TT.out (own_mono O3.out (Nat.zero_le _))).mono ?_; rintro e w' ⟨rfl, hb⟩; rw [RR.out]; have hB := bl_next (by repeat (first | with_reducible exact hB | refine Below.alloc ?_ (by have := hB.size; simp; omega) _ | refine bl_dN ?_ _ | refine Below.drew ?_ | refine Below.setCell ?_ (by have := hB.size; simp; omega) _)) hb; clear hb; have k0_0 := cb hB c0_0; have k0_1 := cb hB c0_1; have k1_0 := cb hB c1_0; have k1_1 := cb hB c1_1; have kz0 : w.heap.size < _ := lt_of_cell k0_0; have kz1 : w.heap.size + 1 < _ := lt_of_cell k1_0; have kf0_0 := fb hB (lt_of_cell c0_0) (F0.out 0); have kf0_1 := fb hB (lt_of_cell c0_1) (F0.out 1); have kf1_0 := fb hB (lt_of_cell c1_0) (F1.out 0); have kf1_1 := fb hB (lt_of_cell c1_1) (F1.out 1))
        have hw0 := bl_from Hw.out hB
        refine bodyPost_ret (v := .tuple #[.agg #[.int .i64 x, .int .u64 xl], .bool ok]) (by simp [results, Try.results45, go_sem, k1_0, k1_1]) rfl ⟨rfl, by (repeat (first | exact Below.refl _ _ | exact hw0 | refine Below.setCell ?_ (by first | (simp; done) | (simp; omega)) _ | refine Below.alloc ?_ (by first | (simp; done) | (simp; omega)) _ | refine bl_dN ?_ _ | refine Below.drew ?_))⟩
end Go.Proofs.Ytdcceaafiammfaa
