import Derived.Test.YteomicjjaajblaaProg
import Derived.Test.YteomicjjaajblaaBits
namespace Go.Proofs.Yteomicjjaajblaa
open Go.RowKit
set_option linter.unusedSimpArgs false
set_option linter.unusedVariables false
theorem carry_bit {a b c : Int} (h : c = 0 ∨ c = 1) : ((a % 2 + b % 2 + c) / 2 = 0 ∨ (a % 2 + b % 2 + c) / 2 = 1) := by omega
set_option maxHeartbeats 4000000 in
set_option maxRecDepth 100000 in
theorem sum_calls (A B c : Int) (n : Nat) (va vb : Value) (w : World) (hn : 0 < n) (hn2 : n ≤ 1000) (hc : c = 0 ∨ c = 1) (ha : Own w 0 3 va (ints (bits A n))) (hb : Own w 0 3 vb (ints (bits B n))) :
    Calls Try.prog 50 #[va, vb, .int .i64 c] w fun e w' => (∃ v, e = .returned v ∧ Own w' w.heap.size 3 v (ints (bits (A + B + c) n))) ∧ Below w.heap.size w w' := by
  obtain ⟨ga, capa, rfl, _, hga, hca, _⟩ := own_cells ha (by rw [ints_length, bits_length]; omega)
  obtain ⟨gb, capb, rfl, _, hgb, hcb, _⟩ := own_cells hb (by rw [ints_length, bits_length]; omega)
  rw [ints_length, bits_length] at hca hcb ⊢
  rw [ints_length, bits_length]
  have HA := Lib.hid (show ∀ j, j < n → w.cell? ⟨ga, j, none⟩ = some (.int .i64 (A / 2 ^ j % 2)) from fun j hj => by rw [hca j hj, ints_getD (by rw [bits_length]; exact hj), bits_getD _ _ _ hj])
  have HB := Lib.hid (show ∀ j, j < n → w.cell? ⟨gb, j, none⟩ = some (.int .i64 (B / 2 ^ j % 2)) from fun j hj => by rw [hcb j hj, ints_getD (by rw [bits_length]; exact hj), bits_getD _ _ _ hj])
  clear hca hcb ha hb
  have HC := Lib.hid hc; clear hc
  have hB := Below.refl w.heap.size w
  go_enter Try.func50, Try.ntmps50
  go_wp2_with fail
  go_loopw [7, 8, 9, 10] (fun v cn i _ wr => ∃ k : Nat, i = .int .i64 k ∧ k ≤ n ∧ (∃ d : Int, cn = .int .i64 d ∧ Hid (d = 0 ∨ d = 1) ∧ Hid ((A + B + c) / 2 ^ k = A / 2 ^ k + B / 2 ^ k + d)) ∧ Hid (Own wr w.heap.size 3 v (ints (bits (A + B + c) k))) ∧ Below w.heap.size w wr) (fun _ _ i _ _ => n - (intOf i).toNat)
  case atStart => exact ⟨0, rfl, by omega, ⟨c, rfl, HC, Lib.hid (by simp)⟩, Lib.hid (own_nil _ _ _), hB⟩
  case round =>
    clear hB
    obtain ⟨k, rfl, hk, ⟨d, rfl, hd, hcar⟩, hown, hB⟩ := hrel
    by_cases hlt : k < n
    · have hBw := Lib.hid hB
      have ca := cb hB (HA.out k hlt)
      have cc := cb hB (HB.out k hlt)
      clear hB
      have hB := Below.refl wr.heap.size wr
      obtain ⟨x, hx⟩ : ∃ x, A / 2 ^ k % 2 = x := ⟨_, rfl⟩
      obtain ⟨y, hy⟩ : ∃ y, B / 2 ^ k % 2 = y := ⟨_, rfl⟩
      have hx01 : 0 ≤ x ∧ x ≤ 1 := by omega
      have hy01 : 0 ≤ y ∧ y ≤ 1 := by omega
      have hd01 : 0 ≤ d ∧ d ≤ 1 := by have := hd.out; omega
      have ST := sum_step A B c k d hcar.out
      rw [hx, hy] at ST
      rw [hx] at ca; rw [hy] at cc
      have HST := Lib.hid ST
      have HD := Lib.hid (show ((x + y + d) / 2 = 0 ∨ (x + y + d) / 2 = 1) by omega)
      clear hx hy ST hd hcar
      obtain ⟨hx0, hx1⟩ := hx01; obtain ⟨hy0, hy1⟩ := hy01; obtain ⟨hd0, hd1⟩ := hd01
      have hkn : (k : Int) < n := by omega
      go_upto_region 6 with fail
      have hB := hB.drew
      refine region_seq (fun w' => Below wr.heap.size wr w') [(0, true), (1, true), (2, true), (3, true), (4, true), (5, true), (6, true), (7, true), (8, true), (9, true), (10, true), (11, true)] (by kernel_rfl) (by kernel_rfl) (fun _ _ _ _ h => h) hB ?_
      try generalize World.drew _ = wS at hB ⊢
      refine seq_take (v := ?_) (a' := ?_) (some 18) rfl rfl (by rfl) ?_ ?_ ?_
      rotate_left; rotate_left
      · intro w' hS; go_simp; with_reducible rfl
      · simp only [Act.put, List.setIfInBounds_toArray, List.set_cons_zero, List.set_cons_succ]; rfl
      refine seq_take (v := ?_) (a' := ?_) (some 19) rfl rfl (by rfl) ?_ ?_ ?_
      rotate_left; rotate_left
      · intro w' hS; go_simp; with_reducible rfl
      · simp only [Act.put, List.setIfInBounds_toArray, List.set_cons_zero, List.set_cons_succ]; rfl
      refine seq_take (v := ?_) (a' := ?_) (some 20) rfl rfl (by rfl) ?_ ?_ ?_
      rotate_left; rotate_left
      · intro w' hS; go_simp; with_reducible rfl
      · simp only [Act.put, List.setIfInBounds_toArray, List.set_cons_zero, List.set_cons_succ]; rfl
      refine seq_take (v := ?_) (a' := ?_) (some 21) rfl rfl (by rfl) ?_ ?_ ?_
      rotate_left; rotate_left
      · intro w' hS; have s0 := cb hS ca; have s1 := cb hS cc; go_simp; with_reducible rfl
      · simp only [Act.put, List.setIfInBounds_toArray, List.set_cons_zero, List.set_cons_succ]; rfl
      refine seq_take (v := ?_) (a' := ?_) (some 22) rfl rfl (by rfl) ?_ ?_ ?_
      rotate_left; rotate_left
      · intro w' hS; go_simp; with_reducible rfl
      · simp only [Act.put, List.setIfInBounds_toArray, List.set_cons_zero, List.set_cons_succ]; rfl
      refine seq_take (v := ?_) (a' := ?_) (some 23) rfl rfl (by rfl) ?_ ?_ ?_
      rotate_left; rotate_left
      · intro w' hS; go_simp; with_reducible rfl
      · simp only [Act.put, List.setIfInBounds_toArray, List.set_cons_zero, List.set_cons_succ]; rfl
      refine seq_take (v := ?_) (a' := ?_) (some 24) rfl rfl (by rfl) ?_ ?_ ?_
      rotate_left; rotate_left
      · intro w' hS; go_simp; with_reducible rfl
      · simp only [Act.put, List.setIfInBounds_toArray, List.set_cons_zero, List.set_cons_succ]; rfl
      refine seq_take (v := ?_) (a' := ?_) (some 25) rfl rfl (by rfl) ?_ ?_ ?_
      rotate_left; rotate_left
      · intro w' hS; have s0 := cb hS ca; have s1 := cb hS cc; go_simp; with_reducible rfl
      · simp only [Act.put, List.setIfInBounds_toArray, List.set_cons_zero, List.set_cons_succ]; rfl
      refine seq_take (v := ?_) (a' := ?_) (some 26) rfl rfl (by rfl) ?_ ?_ ?_
      rotate_left; rotate_left
      · intro w' hS; go_simp; with_reducible rfl
      · simp only [Act.put, List.setIfInBounds_toArray, List.set_cons_zero, List.set_cons_succ]; rfl
      refine seq_take (v := ?_) (a' := ?_) (some 27) rfl rfl (by rfl) ?_ ?_ ?_
      rotate_left; rotate_left
      · intro w' hS; go_simp; with_reducible rfl
      · simp only [Act.put, List.setIfInBounds_toArray, List.set_cons_zero, List.set_cons_succ]; rfl
      refine seq_take (v := ?_) (a' := ?_) (some 28) rfl rfl (by rfl) ?_ ?_ ?_
      rotate_left; rotate_left
      · intro w' hS; go_simp; with_reducible rfl
      · simp only [Act.put, List.setIfInBounds_toArray, List.set_cons_zero, List.set_cons_succ]; rfl
      refine seq_take (v := ?_) (a' := ?_) (some 10) rfl rfl (by rfl) ?_ ?_ ?_
      rotate_left; rotate_left
      · intro w' hS; go_simp; with_reducible rfl
      · simp only [Act.put, List.setIfInBounds_toArray, List.set_cons_zero, List.set_cons_succ]; rfl
      refine seq_done ?_
      go_wp2_with (at_builtin; refine app_int rfl (.tmp 29) (.tmp 32) rfl w.heap.size _ _ _ _ rfl (own_below hown.out hB) _ rfl rfl (by have := hB.size; have := hBw.out.size; omega) (by rw [ints_length, bits_length]; omega) ?_; intro v' w1 hown' hB' hk')
      go_roundw
      case rel => exact ⟨k + 1, by go_num, by omega, ⟨_, rfl, HD, Lib.hid HST.out.2⟩, bits_own hown' HST.out.1, (bl_next hBw.out hB).trans hB'⟩
      case measure => simp [intOf]; omega
    · have hkn := Lib.hid (show k = n by omega)
      rw [hkn.out] at hown
      go_wp2_with fail
      go_ret
      exact ⟨⟨_, rfl, hown.out⟩, hB⟩
end Go.Proofs.Yteomicjjaajblaa
