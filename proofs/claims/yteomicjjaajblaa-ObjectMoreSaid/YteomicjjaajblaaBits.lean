import Derived.Test.YteomicjjaajblaaProg
import Derived.Test.YteomicjjaajblaaBit
namespace Go.Proofs.Yteomicjjaajblaa
open Go.RowKit
set_option linter.unusedSimpArgs false
set_option linter.unusedVariables false
theorem lo_range {l : Int} (h1 : 0 ≤ l) (h2 : l ≤ 18446744073709551615) (k : Nat) : 0 ≤ l / 2 ^ k ∧ l / 2 ^ k ≤ 18446744073709551615 := by
  have hp := p2_pos k
  refine ⟨Int.ediv_nonneg h1 (by omega), ?_⟩
  have := Int.ediv_le_self (2 ^ k) h1
  omega
theorem bits_own {w1 : World} {B : Nat} {e : TypeId} {v' : Value} {V b : Int} {k : Nat} (h : Own w1 B e v' (ints (bits V k) ++ [.int .i64 b])) (hb : b = V / 2 ^ k % 2) : Hid (Own w1 B e v' (ints (bits V (k + 1)))) := by
  rw [bits_succ, ← hb, ← ints_append]; exact Lib.hid h
theorem i64u_eq (a : Int) : (IntKind.u64.wrap a) = a % 18446744073709551616 := rfl
set_option maxHeartbeats 4000000 in
set_option maxRecDepth 100000 in
theorem bits_calls (h l : Int) (m : Nat) (w : World) (k : WOk h l) (hm : m ≤ 2) :
    Calls Try.prog 51 #[.agg #[.int .i64 h, .int .u64 l], .int .i64 m] w fun e w' => (∃ v, e = .returned v ∧ Own w' w.heap.size 3 v (ints (bits (wval h l) (128 + m)))) ∧ Below w.heap.size w w' := by
  have KK := Lib.hid k
  have hl1 := k.l1; have hl2 := k.l2
  have RL := Lib.hid (fun j => lo_range hl1 hl2 j)
  clear k hl1 hl2
  go_enter Try.func51, Try.ntmps51
  go_wp2_with fail
  first | with_reducible refine name_wp ?_ | with_reducible refine name_calls ?_
  intro W hWeq
  have g0 : W.heap[w.heap.size]? = some (.cells #[.int .i64 h, .int .u64 l] 40) := by rw [hWeq]; repeat (first | (with_reducible exact blk_newAt _ _ (by simp)) | with_reducible refine blk_drew ?_ | with_reducible refine blk_dN ?_ _ | with_reducible refine blk_old ?_ _)
  have hw : Below w.heap.size w W := by rw [hWeq]; repeat (first | with_reducible exact Below.refl _ _ | with_reducible refine Below.drew ?_ | with_reducible refine bl_dN ?_ _ | with_reducible refine Below.alloc ?_ (by simp <;> omega) _)
  clear hWeq
  have hz : w.heap.size + 1 ≤ W.heap.size := by have := blk_lt g0; omega
  have c0_0 : W.cell? ⟨w.heap.size, 0, none⟩ = some (.int .i64 h) := blk_cell g0 0
  have c0_1 : W.cell? ⟨w.heap.size, 1, none⟩ = some (.int .u64 l) := blk_cell g0 1
  have f0 : ∀ j, W.frozen? ⟨w.heap.size, j, none⟩ = false := blk_free g0
  have hB : Below W.heap.size W W := Below.refl _ _
  have G0 := Lib.hid g0; clear g0
  have F0 := Lib.hid f0; clear f0
  have Hw := Lib.hid hw; clear hw
  go_loopw [5, 6, 7] (fun v lo i wr => ∃ k : Nat, i = .int .i64 k ∧ k ≤ 64 ∧ lo = .int .u64 (l / 2 ^ k) ∧ Hid (Own wr W.heap.size 3 v (ints (bits (wval h l) k))) ∧ Below W.heap.size W wr) (fun _ _ i _ => 64 - (intOf i).toNat)
  case atStart => exact ⟨0, rfl, by omega, by simp, Lib.hid (own_nil _ _ _), hB⟩
  case round =>
    obtain ⟨k, rfl, hk, rfl, hown, hB⟩ := hrel
    by_cases hlt : k < 64
    · obtain ⟨x, hx⟩ : ∃ x, l / 2 ^ k = x := ⟨_, rfl⟩
      have hx1 := RL.out k
      rw [hx] at hx1
      obtain ⟨hx1, hx2⟩ := hx1
      have HX := Lib.hid hx
      rw [hx]; clear hx
      go_wp2_with (at_builtin; refine app_int rfl (.tmp 17) (.tmp 21) rfl W.heap.size _ _ _ _ rfl hown.out _ rfl rfl (by have := hB.size; omega) (by rw [ints_length, bits_length]; omega) ?_; intro v' w1 hown' hB' hk')
      go_roundw
      case rel => exact ⟨k + 1, by go_num, by omega, by rw [div_succ, HX.out], bits_own hown' (by rw [← HX.out, lo_bit KK.out _ hlt]), hB.trans hB'⟩
      case measure => simp [intOf]; omega
    · have hk64 := Lib.hid (show k = 64 by omega)
      replace hown : Hid (Own wr W.heap.size 3 u5 (ints (bits (wval h l) (64 + 0)))) := by rw [hk64.out] at hown; exact hown
      have k0_0 := cb hB c0_0
      have k0_1 := cb hB c0_1
      have kz0 : w.heap.size < _ := lt_of_cell k0_0
      go_upto_region 9 with fail
      rw [i64u_eq]
      go_wp2_with fail
      go_loopw [5, 8, 9] (fun v lo i wr => ∃ k : Nat, i = .int .i64 k ∧ k ≤ 64 ∧ lo = .int .u64 (h % 18446744073709551616 / 2 ^ k) ∧ Hid (Own wr W.heap.size 3 v (ints (bits (wval h l) (64 + k)))) ∧ Below W.heap.size W wr) (fun _ _ i _ => 64 - (intOf i).toNat)
      case atStart => exact ⟨0, rfl, by omega, by simp, hown, hB⟩
      case round =>
        clear hown k0_0 k0_1
        obtain ⟨k, rfl, hk, rfl, hown, hB⟩ := hrel
        by_cases hlt : k < 64
        · obtain ⟨x, hx⟩ : ∃ x, h % 18446744073709551616 / 2 ^ k = x := ⟨_, rfl⟩
          have hx1 := lo_range (l := h % 18446744073709551616) (by omega) (by omega) k
          rw [hx] at hx1
          obtain ⟨hx1, hx2⟩ := hx1
          have HX := Lib.hid hx
          rw [hx]; clear hx
          go_wp2_with (at_builtin; refine app_int rfl (.tmp 32) (.tmp 36) rfl W.heap.size _ _ _ _ rfl hown.out _ rfl rfl (by have := hB.size; omega) (by rw [ints_length, bits_length]; omega) ?_; intro v' w1 hown' hB' hk')
          go_roundw
          case rel => exact ⟨k + 1, by go_num, by omega, by rw [div_succ, HX.out], bits_own (k := 64 + k) hown' (by rw [← HX.out, hi_bit KK.out, hi_bit' _ _ hlt]), hB.trans hB'⟩
          case measure => simp [intOf]; omega
        · have hk64b := Lib.hid (show k = 64 by omega)
          replace hown : Hid (Own wr W.heap.size 3 u5 (ints (bits (wval h l) (128 + 0)))) := by rw [hk64b.out] at hown; exact hown
          go_wp2_with fail
          go_loopw [5, 10] (fun v i wr => ∃ k : Nat, i = .int .i64 k ∧ k ≤ m ∧ Hid (Own wr W.heap.size 3 v (ints (bits (wval h l) (128 + k)))) ∧ Below W.heap.size W wr) (fun _ i _ => m - (intOf i).toNat)
          case atStart => exact ⟨0, rfl, by omega, hown, hB⟩
          case round =>
            clear hown
            obtain ⟨k, rfl, hk, hown, hB⟩ := hrel
            by_cases hlt : k < m
            · obtain ⟨g, cap, rfl, hg, hgs, hcell, hfz⟩ := own_cells hown.out (by rw [ints_length, bits_length]; omega)
              rw [ints_length, bits_length] at hcell ⊢
              have hc127 := hcell 127 (by omega)
              rw [ints_getD (by rw [bits_length]; omega), bits_getD _ _ _ (by omega)] at hc127
              obtain ⟨x, hx⟩ : ∃ x, wval h l / 2 ^ 127 % 2 = x := ⟨_, rfl⟩
              rw [hx] at hc127
              have HX := Lib.hid hx; clear hx
              clear hcell hfz
              go_wp2_with (at_builtin; refine app_int rfl (.tmp 45) (.tmp 49) rfl W.heap.size _ _ _ _ rfl (by have q := hown.out; rw [ints_length, bits_length] at q; exact q) _ rfl rfl (by have := hB.size; omega) (by rw [ints_length, bits_length]; omega) ?_; intro v' w1 hown' hB' hk')
              go_roundw
              case rel => exact ⟨k + 1, by go_num, by omega, bits_own (k := 128 + k) hown' (by rw [← HX.out, show 128 + k = 127 + (k + 1) by omega, top_bit (wIn_val KK.out)]), hB.trans hB'⟩
              case measure => simp [intOf]; omega
            · have hkm := Lib.hid (show k = m by omega)
              rw [hkm.out] at hown
              go_wp2_with fail
              go_ret
              exact ⟨⟨_, rfl, own_mono hown.out (by have := Hw.out.size; omega)⟩, bl_from Hw.out hB⟩
end Go.Proofs.Yteomicjjaajblaa
