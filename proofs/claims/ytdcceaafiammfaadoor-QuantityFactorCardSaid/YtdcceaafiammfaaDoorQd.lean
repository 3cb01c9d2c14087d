import Derived.Test.YtdcceaafiammfaaDoorProg
import Derived.Test.YtdcceaafiammfaaDoorQc
import Derived.Lib.AppendIntMem
namespace Go.Proofs.YtdcceaafiammfaaDoor
open Go.RowKit
set_option linter.unusedVariables false
set_option linter.unusedSimpArgs false
theorem i64_id {x : Int} (h1 : -9223372036854775808 ≤ x) (h2 : x ≤ 9223372036854775807) : IntKind.i64.wrap x = x := by rw [IntKind.wrap_i64]; omega
def bestI (n : Int) : Nat → Nat
  | 0 => 0
  | k + 1 => if n % sufF k = 0 then k else bestI n k
theorem bestI_le (n : Int) : ∀ k, k ≤ 9 → bestI n k ≤ 8
  | 0, _ => by simp [bestI]
  | k + 1, h => by
    unfold bestI; split
    · omega
    · exact bestI_le n k (by omega)
theorem sufF_pos (k : Nat) (h : k < 9) : 1 ≤ sufF k ∧ sufF k ≤ 1099511627776 := by
  match k, h with
  | 0, _ | 1, _ | 2, _ | 3, _ | 4, _ | 5, _ | 6, _ | 7, _ | 8, _ => decide
theorem sufT_size (k : Nat) (h : k < 9) : (sufT k).size ≤ 2 := by
  match k, h with
  | 0, _ | 1, _ | 2, _ | 3, _ | 4, _ | 5, _ | 6, _ | 7, _ | 8, _ => decide
def textV (n : Int) : ByteArray := if n < 0 then ⟨#[]⟩ else if n = 0 then ⟨#[48]⟩ else (⟨(Lib.itoa (n / sufF (bestI n 9))).toArray⟩ : ByteArray) ++ sufT (bestI n 9)
theorem fmt_calls (n : Int) (w : World) (q : QV w) (h1 : -9223372036854775808 ≤ n) (h2 : n ≤ 9223372036854775807) : Calls Tryd.prog 18 #[.int .i64 n, .int .i64 10] w fun e w' => e = .returned (.string ⟨(Lib.itoa n).toArray⟩) ∧ Below w.heap.size w w' :=
  (Tryd.strconv_FormatInt_10 n h1 h2 w q.tab).mono fun e w' ⟨he, k, os, hw⟩ => ⟨he, by rw [hw]; exact Lib.below_grow _ _ (Nat.le_refl _) k os⟩
theorem dec_len (k u : Nat) (h : u < 10 ^ (k + 1)) : (Lib.decDigits u).length ≤ k + 1 := by
  induction k generalizing u with
  | zero => have : u < 10 := by simpa using h
            rw [Lib.decDigits]; simp [this]
  | succ k ih =>
    rw [Lib.decDigits]
    split
    · simp
    · rw [Nat.pow_succ] at h
      have := ih (u / 10) (by omega)
      simp; omega
theorem itoa_len (n : Int) (h1 : 0 ≤ n) (h2 : n ≤ 9223372036854775807) : (Lib.itoa n).length ≤ 19 := by
  unfold Lib.itoa
  rw [if_neg (by omega)]
  exact dec_len 18 n.toNat (by omega)
set_option maxHeartbeats 4000000 in
set_option maxRecDepth 100000 in
theorem qtext_calls (n : Int) (w : World) (q : QV w) (h1 : -9223372036854775808 ≤ n) (h2 : n ≤ 9223372036854775807) : Calls Tryd.prog 9 #[.int .i64 n] w fun e w' => e = .returned (.string (textV n)) ∧ Below w.heap.size w w' := by
  have hB := Below.refl w.heap.size w
  by_cases hn : n < 0
  · go_enter Tryd.func9, Tryd.ntmps9
    go_wp2
    go_ret
    exact ⟨ret_str (by rw [textV, if_pos hn]), hB⟩
  by_cases h0 : n = 0
  · subst h0
    go_enter Tryd.func9, Tryd.ntmps9
    go_wp2
    go_ret
    exact ⟨ret_str rfl, hB⟩
  obtain ⟨m, rfl⟩ : ∃ m : Int, n = m := ⟨_, rfl⟩
  have hpos : 0 < n := by omega
  have HT := Lib.hid (show textV n = (⟨(Lib.itoa (n / sufF (bestI n 9))).toArray⟩ : ByteArray) ++ sufT (bestI n 9) by rw [textV, if_neg hn, if_neg h0])
  have C := q.cells
  have c0 : w.cell? ⟨0, 0, none⟩ = some (.string ⟨#[]⟩) := (C 0).trans rfl
  have c1 : w.cell? ⟨0, 1, none⟩ = some (.int .i64 1) := (C 1).trans rfl
  clear C hB h1
  go_enter Tryd.func9, Tryd.ntmps9
  go_upto_region 6 with fail
  first | with_reducible refine name_wp ?_ | with_reducible refine name_calls ?_
  intro W hWeq
  have g0 : W.heap[w.heap.size]? = some (.cells #[.string ⟨#[]⟩, .int .i64 1] 41) := by rw [hWeq]; repeat (first | (with_reducible exact blk_newAt _ _ (by simp)) | with_reducible refine blk_drew ?_ | with_reducible refine blk_dN ?_ _ | with_reducible refine blk_old ?_ _)
  have hw : Below w.heap.size w W := by rw [hWeq]; repeat (first | with_reducible exact Below.refl _ _ | with_reducible refine Below.drew ?_ | with_reducible refine bl_dN ?_ _ | with_reducible refine Below.alloc ?_ (by simp <;> omega) _)
  clear hWeq
  have hz : w.heap.size + 1 ≤ W.heap.size := by have := blk_lt g0; omega
  have c0_0 : W.cell? ⟨w.heap.size, 0, none⟩ = some (.string ⟨#[]⟩) := blk_cell g0 0
  have c0_1 : W.cell? ⟨w.heap.size, 1, none⟩ = some (.int .i64 1) := blk_cell g0 1
  have f0 : ∀ j, W.frozen? ⟨w.heap.size, j, none⟩ = false := blk_free g0
  have hB : Below W.heap.size W W := Below.refl _ _
  have G0 := Lib.hid g0; clear g0
  have F0 := Lib.hid f0; clear f0
  have Hw := Lib.hid hw; clear hw
  have qW := q.below Hw.out
  have HQ0 := Lib.hid q
  clear q c0 c1
  go_upto_region 7 with (refine load_suf rfl _ rfl rfl qW ?_)
  generalize hA : Value.agg sufA = A
  have HA := Lib.hid (suf_index A hA)
  clear hA
  have GB := Lib.hid (show W.heap[w.heap.size]? = some (.cells #[.string (sufT (bestI n 0)), .int .i64 (sufF (bestI n 0))] 41) from G0.out)
  have HBw := Lib.hid (show Below w.heap.size w W from Hw.out)
  have HWz := Lib.hid (show w.heap.size < W.heap.size by omega)
  have HQ := Lib.hid qW
  clear qW c0_0 c0_1 F0 G0 hB Hw hz
  go_loopw [5, 15] (fun _ i wr => ∃ k : Nat, i = .int .i64 k ∧ k ≤ 9 ∧ Hid (wr.heap[w.heap.size]? = some (.cells #[.string (sufT (bestI n k)), .int .i64 (sufF (bestI n k))] 41)) ∧ Below w.heap.size w wr) (fun _ i _ => 9 - (intOf i).toNat)
  case atStart => exact ⟨0, rfl, by omega, GB, HBw.out⟩
  case round =>
    clear GB
    obtain ⟨k, rfl, hk, hbest, hB⟩ := hrel
    by_cases hlt : k < 9
    · have hix := HA.out k hlt
      obtain ⟨T, hT⟩ : ∃ T, sufT k = T := ⟨_, rfl⟩
      obtain ⟨F, hF⟩ : ∃ F, sufF k = F := ⟨_, rfl⟩
      have hFp := sufF_pos k hlt
      rw [hF] at hFp
      rw [hT, hF] at hix
      have HTk := Lib.hid hT; have HFk := Lib.hid hF
      clear hT hF
      have hkn : (k : Int) < 9 := by omega
      have b0 := blk_cell hbest.out 0
      have b1 := blk_cell hbest.out 1
      have bf := blk_free hbest.out
      have bf0 := bf 0; have bf1 := bf 1
      have bz := blk_lt hbest.out
      obtain ⟨hF1, hF2⟩ := hFp
      clear bf
      go_wp2_with fail
      · have hd : (n % F == 0) = true := by assumption
        have GB := Lib.hid (blk_old (heap_setCell_same _ w.heap.size 1 _ _ (.int .i64 F) (heap_setCell_same wr w.heap.size 0 _ _ (.string T) hbest.out)) (.cells #[.string T, .int .i64 F] 41))
        have e : bestI n (k + 1) = k := by rw [bestI, HFk.out, if_pos (by simpa using hd)]
        go_roundw
        case rel => exact ⟨k + 1, by go_num, by omega, by rw [e, HTk.out, HFk.out]; exact GB, ((hB.setCell (by simp) _).setCell (by simp) _).alloc (by have := hB.size; simp; omega) _⟩
        case measure => simp [intOf]; omega
      · have hd : (n % F == 0) = false := by assumption
        have e : bestI n (k + 1) = bestI n k := by rw [bestI, HFk.out, if_neg (by simpa using hd)]
        go_roundw
        case rel => exact ⟨k + 1, by go_num, by omega, by rw [e]; exact Lib.hid (blk_old hbest.out _), hB.alloc (by have := hB.size; omega) _⟩
        case measure => simp [intOf]; omega
    · have hkn := Lib.hid (show k = 9 by omega)
      rw [hkn.out] at hbest
      have hj := bestI_le n 9 (by omega)
      obtain ⟨T, hT⟩ : ∃ T, sufT (bestI n 9) = T := ⟨_, rfl⟩
      obtain ⟨F, hF⟩ : ∃ F, sufF (bestI n 9) = F := ⟨_, rfl⟩
      have hFp := sufF_pos (bestI n 9) (by omega)
      have hTs := sufT_size (bestI n 9) (by omega)
      rw [hF] at hFp hbest HT
      rw [hT] at hTs hbest HT
      clear hT hF hj
      obtain ⟨hF1, hF2⟩ := hFp
      have b0 := blk_cell hbest.out 0
      have b1 := blk_cell hbest.out 1
      have bz := blk_lt hbest.out
      have hd0 : 0 ≤ n / F := Int.ediv_nonneg (by omega) (by omega)
      have hd1 : n / F ≤ n := Int.ediv_le_self _ (by omega)
      obtain ⟨D, hD⟩ : ∃ D : ByteArray, (⟨(Lib.itoa (n / F)).toArray⟩ : ByteArray) = D := ⟨_, rfl⟩
      have hDs : D.size ≤ 19 := by rw [← hD]; exact itoa_len _ hd0 (by omega)
      have HD := Lib.hid hD
      rw [hD] at HT
      have QR := Lib.hid (HQ0.out.below hB)
      have HE1 := Lib.hid (show -9223372036854775808 ≤ n / F by omega); have HE2 := Lib.hid (show n / F ≤ 9223372036854775807 by omega)
      have hF0 : ¬ F = 0 := by omega
      have hS1 : ¬ (9223372036854775807 < D.size + T.size) := by omega
      have hQ1 : IntKind.i64.wrap (n.tdiv F) = n / F := by
        rw [Int.tdiv_eq_ediv_of_nonneg (by omega)]
        exact i64_id (by omega) (by omega)
      clear hD hd0 hd1
      have hBw := Lib.hid hB
      clear hB
      have hB := Below.refl wr.heap.size wr
      go_upto_region 12 with fail
      have hB := hB.drew
      refine region_seq (fun w' => Below wr.heap.size wr w') [(0, true), (1, true), (2, true), (3, true), (5, true), (6, true), (4, false), (7, true), (8, true)] (by kernel_rfl) (by kernel_rfl) (fun _ _ _ _ h => h) hB ?_
      try generalize World.drew _ = wS at hB ⊢
      refine seq_take (v := ?_) (a' := ?_) (some 25) rfl rfl (by rfl) ?_ ?_ ?_
      rotate_left; rotate_left
      · intro w' hS; go_simp; with_reducible rfl
      · simp only [Act.put, List.setIfInBounds_toArray, List.set_cons_zero, List.set_cons_succ]; rfl
      refine seq_take (v := ?_) (a' := ?_) (some 26) rfl rfl (by rfl) ?_ ?_ ?_
      rotate_left; rotate_left
      · intro w' hS; go_simp; with_reducible rfl
      · simp only [Act.put, List.setIfInBounds_toArray, List.set_cons_zero, List.set_cons_succ]; rfl
      refine seq_take (v := ?_) (a' := ?_) (some 27) rfl rfl (by rfl) ?_ ?_ ?_
      rotate_left; rotate_left
      · intro w' hS; have s0 := cb hS b0; have s1 := cb hS b1; go_simp; with_reducible rfl
      · simp only [Act.put, List.setIfInBounds_toArray, List.set_cons_zero, List.set_cons_succ]; rfl
      refine seq_take (v := ?_) (a' := ?_) (some 28) rfl rfl (by rfl) ?_ ?_ ?_
      rotate_left; rotate_left
      · intro w' hS; go_simp; with_reducible rfl
      · simp only [Act.put, List.setIfInBounds_toArray, List.set_cons_zero, List.set_cons_succ]; rfl
      refine seq_take (v := ?_) (a' := ?_) (some 30) rfl rfl (by rfl) ?_ ?_ ?_
      rotate_left; rotate_left
      · intro w' hS; go_simp; with_reducible rfl
      · simp only [Act.put, List.setIfInBounds_toArray, List.set_cons_zero, List.set_cons_succ]; rfl
      refine seq_take (v := ?_) (a' := ?_) (some 31) rfl rfl (by rfl) ?_ ?_ ?_
      rotate_left; rotate_left
      · intro w' hS; have s0 := cb hS b0; have s1 := cb hS b1; go_simp; with_reducible rfl
      · simp only [Act.put, List.setIfInBounds_toArray, List.set_cons_zero, List.set_cons_succ]; rfl
      refine seq_call (args := ?_) Tryd.func18 (by kernel_rfl) rfl (some 29) rfl rfl (by rfl) rfl ?_ ?_
      rotate_left
      · simp only [List.map_toArray, List.map_cons, List.map_nil]; go_simp; rfl
      with_reducible refine (fmt_calls _ _ (QR.out.below hB) HE1.out HE2.out).mono ?_
      rintro e w' ⟨rfl, hb⟩
      rw [HD.out]
      refine ⟨_, rfl, bl_next (by repeat (first | with_reducible exact hB | refine Below.alloc ?_ (by have := hB.size; simp; omega) _ | refine bl_dN ?_ _ | refine Below.drew ?_ | refine Below.setCell ?_ (by have := hB.size; simp; omega) _)) hb, ?_⟩
      have hB := bl_next (by repeat (first | with_reducible exact hB | refine Below.alloc ?_ (by have := hB.size; simp; omega) _ | refine bl_dN ?_ _ | refine Below.drew ?_ | refine Below.setCell ?_ (by have := hB.size; simp; omega) _)) hb; clear hb
      simp only [Act.put, List.setIfInBounds_toArray, List.set_cons_zero, List.set_cons_succ]
      refine seq_take (v := ?_) (a' := ?_) (some 32) rfl rfl (by rfl) ?_ ?_ ?_
      rotate_left; rotate_left
      · intro w' hS; go_simp; with_reducible rfl
      · simp only [Act.put, List.setIfInBounds_toArray, List.set_cons_zero, List.set_cons_succ]; rfl
      refine seq_take (v := ?_) (a' := ?_) (some 2) rfl rfl (by rfl) ?_ ?_ ?_
      rotate_left; rotate_left
      · intro w' hS; go_simp; with_reducible rfl
      · simp only [Act.put, List.setIfInBounds_toArray, List.set_cons_zero, List.set_cons_succ]; rfl
      refine seq_done ?_
      go_wp2_with fail
      go_ret
      exact ⟨ret_str (by rw [HT.out]), bl_from hBw.out hB⟩
end Go.Proofs.YtdcceaafiammfaaDoor
