import Derived.Test.YteomicjjaajblaaPw
import Derived.Test.YteomicjjaajblaaProg
import Derived.Test.YteomicjjaajblaaBnum
import Derived.Test.YteomicjjaajblaaWida
import Derived.Test.YteomicjjaajblaaPlan
namespace Go.Proofs.Yteomicjjaajblaa
open Go.RowKit
set_option linter.unusedSimpArgs false
set_option linter.unusedVariables false
theorem wide_top {V : Int} (h : wIn V = true) : V / 2 ^ 127 = 0 ∨ V / 2 ^ 127 = -1 := by
  rw [show (2 : Int) ^ 127 = 170141183460469231731687303715884105728 from rfl]
  simp only [wIn, Bool.and_eq_true, decide_eq_true_eq] at h; unfold whi at h; omega
theorem sum_top {h l h' l' : Int} (k : WOk h l) (k' : WOk h' l') : (wval h l + wval h' l' + 0) / 2 ^ (130 - 1) = 0 ∨ (wval h l + wval h' l' + 0) / 2 ^ (130 - 1) = -1 := by
  rw [show (2 : Int) ^ (130 - 1) = 680564733841876926926749214863536422912 from rfl]
  obtain ⟨a, b, c, d⟩ := k; obtain ⟨a', b', c', d'⟩ := k'; unfold wval; omega
theorem bits0_calls (h l : Int) (w : World) (k : WOk h l) :
    Calls Try.prog 51 #[.agg #[.int .i64 h, .int .u64 l], .int .i64 0] w fun e w' => (∃ v, e = .returned v ∧ Own w' w.heap.size 3 v (ints (bits (wval h l) 128))) ∧ Below w.heap.size w w' := bits_calls h l 0 w k (by decide)
theorem bits1_calls (h l : Int) (w : World) (k : WOk h l) :
    Calls Try.prog 51 #[.agg #[.int .i64 h, .int .u64 l], .int .i64 1] w fun e w' => (∃ v, e = .returned v ∧ Own w' w.heap.size 3 v (ints (bits (wval h l) 129))) ∧ Below w.heap.size w w' := bits_calls h l 1 w k (by decide)
theorem bits2_calls (h l : Int) (w : World) (k : WOk h l) :
    Calls Try.prog 51 #[.agg #[.int .i64 h, .int .u64 l], .int .i64 2] w fun e w' => (∃ v, e = .returned v ∧ Own w' w.heap.size 3 v (ints (bits (wval h l) 130))) ∧ Below w.heap.size w w' := bits_calls h l 2 w k (by decide)
set_option maxHeartbeats 4000000 in
set_option maxRecDepth 100000 in
theorem radd_calls (h l h' l' : Int) (w : World) (k : WOk h l) (k' : WOk h' l') :
    Calls Try.prog 21 #[.agg #[.int .i64 h, .int .u64 l], .agg #[.int .i64 h', .int .u64 l']] w fun e w' => e = .returned (wideRes (wval h l + wval h' l')) ∧ Below w.heap.size w w' := by
  obtain ⟨x, xl, ok, RR, KX, VX⟩ := wide_parts (wval h l + wval h' l')
  have K := Lib.hid k; have K' := Lib.hid k'; have TT := Lib.hid (sum_top k k'); clear k k'
  rw [RR.out]
  go_enter Try.func21, Try.ntmps21
  go_upto_region 1 with fail
  first | with_reducible refine name_wp ?_ | with_reducible refine name_calls ?_
  intro W hWeq
  have g0 : W.heap[w.heap.size]? = some (.cells #[.int .i64 h, .int .u64 l] 40) := by rw [hWeq]; repeat (first | (with_reducible exact blk_newAt _ _ (by simp)) | with_reducible refine blk_drew ?_ | with_reducible refine blk_dN ?_ _ | with_reducible refine blk_old ?_ _)
  have g1 : W.heap[w.heap.size + 1]? = some (.cells #[.int .i64 h', .int .u64 l'] 40) := by rw [hWeq]; repeat (first | (with_reducible exact blk_newAt _ _ (by simp)) | with_reducible refine blk_drew ?_ | with_reducible refine blk_dN ?_ _ | with_reducible refine blk_old ?_ _)
  have g2 : W.heap[w.heap.size + 2]? = some (.cells #[.int .i64 0, .int .u64 0] 40) := by rw [hWeq]; repeat (first | (with_reducible exact blk_newAt _ _ (by simp)) | with_reducible refine blk_drew ?_ | with_reducible refine blk_dN ?_ _ | with_reducible refine blk_old ?_ _)
  have hw : Below w.heap.size w W := by rw [hWeq]; repeat (first | with_reducible exact Below.refl _ _ | with_reducible refine Below.drew ?_ | with_reducible refine bl_dN ?_ _ | with_reducible refine Below.alloc ?_ (by simp <;> omega) _)
  clear hWeq
  have hz : w.heap.size + 3 ≤ W.heap.size := by have := blk_lt g2; omega
  have c0_0 : W.cell? ⟨w.heap.size, 0, none⟩ = some (.int .i64 h) := blk_cell g0 0
  have c0_1 : W.cell? ⟨w.heap.size, 1, none⟩ = some (.int .u64 l) := blk_cell g0 1
  have f0 : ∀ j, W.frozen? ⟨w.heap.size, j, none⟩ = false := blk_free g0
  have c1_0 : W.cell? ⟨w.heap.size + 1, 0, none⟩ = some (.int .i64 h') := blk_cell g1 0
  have c1_1 : W.cell? ⟨w.heap.size + 1, 1, none⟩ = some (.int .u64 l') := blk_cell g1 1
  have f1 : ∀ j, W.frozen? ⟨w.heap.size + 1, j, none⟩ = false := blk_free g1
  have c2_0 : W.cell? ⟨w.heap.size + 2, 0, none⟩ = some (.int .i64 0) := blk_cell g2 0
  have c2_1 : W.cell? ⟨w.heap.size + 2, 1, none⟩ = some (.int .u64 0) := blk_cell g2 1
  have f2 : ∀ j, W.frozen? ⟨w.heap.size + 2, j, none⟩ = false := blk_free g2
  have hB : Below W.heap.size W W := Below.refl _ _
  have G0 := Lib.hid g0; clear g0
  have F0 := Lib.hid f0; clear f0
  have G1 := Lib.hid g1; clear g1
  have F1 := Lib.hid f1; clear f1
  have G2 := Lib.hid g2; clear g2
  have F2 := Lib.hid f2; clear f2
  have Hw := Lib.hid hw; clear hw
  have hSle : w.heap.size + 2 ≤ W.heap.size := by omega
  have hB := hB.drew
  refine region_seq (fun w' => Below (w.heap.size + 2) W w') [(0, true), (2, true), (1, false), (3, false), (4, false), (5, false), (6, true), (7, true), (8, false), (9, true)] (by kernel_rfl) (by kernel_rfl) (fun _ _ _ _ h => h) (Below.mono (hB) hSle) ?_
  try generalize World.drew _ = wS at hB ⊢
  refine seq_take (v := ?_) (a' := ?_) (some 6) rfl rfl (by rfl) ?_ ?_ ?_
  rotate_left; rotate_left
  · intro w' hS; have s0_0 : w'.cell? ⟨w.heap.size, 0, none⟩ = some (.int .i64 h) := (hS.cell (by simp)).trans c0_0; have s0_1 : w'.cell? ⟨w.heap.size, 1, none⟩ = some (.int .u64 l) := (hS.cell (by simp)).trans c0_1; have s1_0 : w'.cell? ⟨w.heap.size + 1, 0, none⟩ = some (.int .i64 h') := (hS.cell (by simp)).trans c1_0; have s1_1 : w'.cell? ⟨w.heap.size + 1, 1, none⟩ = some (.int .u64 l') := (hS.cell (by simp)).trans c1_1; go_simp; with_reducible rfl
  · simp only [Act.put, List.setIfInBounds_toArray, List.set_cons_zero, List.set_cons_succ]; rfl
  refine seq_take (v := ?_) (a' := ?_) (some 8) rfl rfl (by rfl) ?_ ?_ ?_
  rotate_left; rotate_left
  · intro w' hS; have s0_0 : w'.cell? ⟨w.heap.size, 0, none⟩ = some (.int .i64 h) := (hS.cell (by simp)).trans c0_0; have s0_1 : w'.cell? ⟨w.heap.size, 1, none⟩ = some (.int .u64 l) := (hS.cell (by simp)).trans c0_1; have s1_0 : w'.cell? ⟨w.heap.size + 1, 0, none⟩ = some (.int .i64 h') := (hS.cell (by simp)).trans c1_0; have s1_1 : w'.cell? ⟨w.heap.size + 1, 1, none⟩ = some (.int .u64 l') := (hS.cell (by simp)).trans c1_1; go_simp; with_reducible rfl
  · simp only [Act.put, List.setIfInBounds_toArray, List.set_cons_zero, List.set_cons_succ]; rfl
  refine seq_call (args := ?_) Try.func51 (by kernel_rfl) rfl (some 7) rfl rfl (by rfl) rfl ?_ ?_
  rotate_left
  · simp only [List.map_toArray, List.map_cons, List.map_nil]; go_simp; rfl
  with_reducible refine (bits2_calls h l _ K.out).mono ?_
  rintro e w' ⟨⟨v1, rfl, o1⟩, hb⟩
  refine ⟨_, rfl, (Below.mono (bl_next (by repeat (first | with_reducible exact hB | refine Below.alloc ?_ (by have := hB.size; simp; omega) _ | refine bl_dN ?_ _ | refine Below.drew ?_ | refine Below.setCell ?_ (by have := hB.size; simp; omega) _)) hb) hSle), ?_⟩
  have hB := bl_next (by repeat (first | with_reducible exact hB | refine Below.alloc ?_ (by have := hB.size; simp; omega) _ | refine bl_dN ?_ _ | refine Below.drew ?_ | refine Below.setCell ?_ (by have := hB.size; simp; omega) _)) hb; clear hb
  simp only [Act.put, List.setIfInBounds_toArray, List.set_cons_zero, List.set_cons_succ]
  refine seq_call (args := ?_) Try.func51 (by kernel_rfl) rfl (some 9) rfl rfl (by rfl) rfl ?_ ?_
  rotate_left
  · simp only [List.map_toArray, List.map_cons, List.map_nil]; go_simp; rfl
  with_reducible refine (bits2_calls h' l' _ K'.out).mono ?_
  rintro e w' ⟨⟨v2, rfl, o2⟩, hb⟩
  have o1 := own_below o1 hb
  refine ⟨_, rfl, (Below.mono (bl_next (by repeat (first | with_reducible exact hB | refine Below.alloc ?_ (by have := hB.size; simp; omega) _ | refine bl_dN ?_ _ | refine Below.drew ?_ | refine Below.setCell ?_ (by have := hB.size; simp; omega) _)) hb) hSle), ?_⟩
  have hB := bl_next (by repeat (first | with_reducible exact hB | refine Below.alloc ?_ (by have := hB.size; simp; omega) _ | refine bl_dN ?_ _ | refine Below.drew ?_ | refine Below.setCell ?_ (by have := hB.size; simp; omega) _)) hb; clear hb
  simp only [Act.put, List.setIfInBounds_toArray, List.set_cons_zero, List.set_cons_succ]
  refine seq_call (args := ?_) Try.func50 (by kernel_rfl) rfl (some 10) rfl rfl (by rfl) rfl ?_ ?_
  rotate_left
  · simp only [List.map_toArray, List.map_cons, List.map_nil]; go_simp; rfl
  with_reducible refine (sum_calls (wval h l) (wval h' l') 0 130 v1 v2 _ (by decide) (by decide) (Or.inl rfl) (own_mono o1 (Nat.zero_le _)) (own_mono o2 (Nat.zero_le _))).mono ?_
  rintro e w' ⟨⟨v3, rfl, o3⟩, hb⟩
  refine ⟨_, rfl, (Below.mono (bl_next (by repeat (first | with_reducible exact hB | refine Below.alloc ?_ (by have := hB.size; simp; omega) _ | refine bl_dN ?_ _ | refine Below.drew ?_ | refine Below.setCell ?_ (by have := hB.size; simp; omega) _)) hb) hSle), ?_⟩
  have hB := bl_next (by repeat (first | with_reducible exact hB | refine Below.alloc ?_ (by have := hB.size; simp; omega) _ | refine bl_dN ?_ _ | refine Below.drew ?_ | refine Below.setCell ?_ (by have := hB.size; simp; omega) _)) hb; clear hb
  simp only [Act.put, List.setIfInBounds_toArray, List.set_cons_zero, List.set_cons_succ]
  refine seq_call (args := ?_) Try.func49 (by kernel_rfl) rfl (some 11) rfl rfl (by rfl) rfl ?_ ?_
  rotate_left
  · simp only [List.map_toArray, List.map_cons, List.map_nil]; go_simp; rfl
  with_reducible refine (number_calls _ 130 v3 _ (by decide) (by decide) TT.out (own_mono o3 (Nat.zero_le _))).mono ?_
  rintro e w' ⟨rfl, hb⟩
  rw [Int.add_zero, RR.out]
  refine ⟨_, rfl, (Below.mono (bl_next (by repeat (first | with_reducible exact hB | refine Below.alloc ?_ (by have := hB.size; simp; omega) _ | refine bl_dN ?_ _ | refine Below.drew ?_ | refine Below.setCell ?_ (by have := hB.size; simp; omega) _)) hb) hSle), ?_⟩
  have hB := bl_next (by repeat (first | with_reducible exact hB | refine Below.alloc ?_ (by have := hB.size; simp; omega) _ | refine bl_dN ?_ _ | refine Below.drew ?_ | refine Below.setCell ?_ (by have := hB.size; simp; omega) _)) hb; clear hb
  simp only [Act.put, List.setIfInBounds_toArray, List.set_cons_zero, List.set_cons_succ]
  refine seq_take (v := ?_) (a' := ?_) (some 12) rfl rfl (by rfl) ?_ ?_ ?_
  rotate_left; rotate_left
  · intro w' hS; go_simp; with_reducible rfl
  · simp only [Act.put, List.setIfInBounds_toArray, List.set_cons_zero, List.set_cons_succ]; rfl
  refine seq_take (v := ?_) (a' := ?_) (some 13) rfl rfl (by rfl) ?_ ?_ ?_
  rotate_left; rotate_left
  · intro w' hS; go_simp; with_reducible rfl
  · simp only [Act.put, List.setIfInBounds_toArray, List.set_cons_zero, List.set_cons_succ]; rfl
  refine seq_store none rfl rfl (by rfl) ?_
  apply Exists.intro; apply And.intro
  · have k0_0 := cb hB c0_0; have k0_1 := cb hB c0_1; have k1_0 := cb hB c1_0; have k1_1 := cb hB c1_1; have k2_0 := cb hB c2_0; have k2_1 := cb hB c2_1; have kf0_0 := fb hB (lt_of_cell c0_0) (F0.out 0); have kf0_1 := fb hB (lt_of_cell c0_1) (F0.out 1); have kf1_0 := fb hB (lt_of_cell c1_0) (F1.out 0); have kf1_1 := fb hB (lt_of_cell c1_1) (F1.out 1); have kf2_0 := fb hB (lt_of_cell c2_0) (F2.out 0); have kf2_1 := fb hB (lt_of_cell c2_1) (F2.out 1); go_simp; first | exact ⟨rfl, rfl⟩ | rfl
  apply Exists.intro; apply And.intro
  · simp only [Act.put, List.setIfInBounds_toArray, List.set_cons_zero, List.set_cons_succ]; rfl
  apply And.intro
  · exact (by repeat (first | with_reducible exact Below.mono hB hSle | with_reducible exact hB | with_reducible refine Below.setCell ?_ (by simp) _ | with_reducible refine Below.alloc ?_ (by have := hB.size; simp; omega) _))
  refine seq_take (v := ?_) (a' := ?_) (some 5) rfl rfl (by rfl) ?_ ?_ ?_
  rotate_left; rotate_left
  · intro w' hS; go_simp; with_reducible rfl
  · simp only [Act.put, List.setIfInBounds_toArray, List.set_cons_zero, List.set_cons_succ]; rfl
  refine seq_done ?_
  go_wp2_with fail
  have hw0 := bl_from Hw.out hB
  have k0_0 := cb hB c0_0
  have k0_1 := cb hB c0_1
  have k1_0 := cb hB c1_0
  have k1_1 := cb hB c1_1
  have k2_0 := cb hB c2_0
  have k2_1 := cb hB c2_1
  have kz0 : w.heap.size < _ := lt_of_cell k0_0
  have kz1 : w.heap.size + 1 < _ := lt_of_cell k1_0
  have kz2 : w.heap.size + 2 < _ := lt_of_cell k2_0
  have kf0_0 := fb hB (lt_of_cell c0_0) (F0.out 0)
  have kf0_1 := fb hB (lt_of_cell c0_1) (F0.out 1)
  have kf1_0 := fb hB (lt_of_cell c1_0) (F1.out 0)
  have kf1_1 := fb hB (lt_of_cell c1_1) (F1.out 1)
  have kf2_0 := fb hB (lt_of_cell c2_0) (F2.out 0)
  have kf2_1 := fb hB (lt_of_cell c2_1) (F2.out 1)
  refine bodyPost_ret (v := .tuple #[.agg #[.int .i64 x, .int .u64 xl], .bool ok]) (by simp [results, Try.results21, go_sem, k2_0, k2_1]) rfl ⟨rfl, by (repeat (first | exact Below.refl _ _ | exact hw0 | refine Below.setCell ?_ (by first | (simp; done) | (simp; omega)) _ | refine Below.alloc ?_ (by first | (simp; done) | (simp; omega)) _ | refine bl_dN ?_ _ | refine Below.drew ?_))⟩
end Go.Proofs.Yteomicjjaajblaa
