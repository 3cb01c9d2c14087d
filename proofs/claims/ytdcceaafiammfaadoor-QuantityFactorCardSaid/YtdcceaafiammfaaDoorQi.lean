import Derived.Test.YtdcceaafiammfaaDoorProg
import Derived.Test.YtdcceaafiammfaaDoorQh
namespace Go.Proofs.YtdcceaafiammfaaDoor
open Go.RowKit
set_option linter.unusedVariables false
set_option linter.unusedSimpArgs false
theorem facV_suf (k : Nat) (h : k < 9) : facV (sufT k).toList = sufF k := by
  rw [Lib.toList_data]
  match k, h with
  | 0, _ | 1, _ | 2, _ | 3, _ | 4, _ | 5, _ | 6, _ | 7, _ | 8, _ => rfl
set_option maxHeartbeats 4000000 in
set_option maxRecDepth 100000 in
theorem rtext_calls (n : Int) (w : World) (h1 : -9223372036854775808 ≤ n) (h2 : n ≤ 9223372036854775807) : Calls Tryd.prog 10 #[.int .i64 n] w fun e w' => e = .returned (.string (textV n)) ∧ Below w.heap.size w w' := by
  have hB := Below.refl w.heap.size w
  by_cases hn : n < 0
  · go_enter Tryd.func10, Tryd.ntmps10
    go_wp2
    go_ret
    exact ⟨ret_str (by rw [textV, if_pos hn]), hB⟩
  by_cases h0 : n = 0
  · subst h0
    go_enter Tryd.func10, Tryd.ntmps10
    go_wp2
    go_ret
    exact ⟨ret_str rfl, hB⟩
  have hpos : 0 < n := by omega
  have HT := Lib.hid (show textV n = (⟨(Lib.itoa (n / sufF (bestI n 9))).toArray⟩ : ByteArray) ++ sufT (bestI n 9) by rw [textV, if_neg hn, if_neg h0])
  clear h1 hB
  go_enter Tryd.func10, Tryd.ntmps10
  go_upto_region 6 with fail
  first | with_reducible refine name_wp ?_ | with_reducible refine name_calls ?_
  intro W hWeq
  have g0 : W.heap[w.heap.size]? = some (.cells #[.string ⟨#[84, 105]⟩, .string ⟨#[84]⟩, .string ⟨#[71, 105]⟩, .string ⟨#[71]⟩, .string ⟨#[77, 105]⟩, .string ⟨#[77]⟩, .string ⟨#[75, 105]⟩, .string ⟨#[107]⟩] 9) := by rw [hWeq]; repeat (first | (with_reducible exact blk_newAt _ _ (by simp)) | with_reducible refine blk_drew ?_ | with_reducible refine blk_dN ?_ _ | with_reducible refine blk_old ?_ _)
  have hw : Below w.heap.size w W := by rw [hWeq]; repeat (first | with_reducible exact Below.refl _ _ | with_reducible refine Below.drew ?_ | with_reducible refine bl_dN ?_ _ | with_reducible refine Below.alloc ?_ (by simp <;> omega) _)
  clear hWeq
  have hz : w.heap.size + 1 ≤ W.heap.size := by have := blk_lt g0; omega
  have c0_0 : W.cell? ⟨w.heap.size, 0, none⟩ = some (.string ⟨#[84, 105]⟩) := blk_cell g0 0
  have c0_1 : W.cell? ⟨w.heap.size, 1, none⟩ = some (.string ⟨#[84]⟩) := blk_cell g0 1
  have c0_2 : W.cell? ⟨w.heap.size, 2, none⟩ = some (.string ⟨#[71, 105]⟩) := blk_cell g0 2
  have c0_3 : W.cell? ⟨w.heap.size, 3, none⟩ = some (.string ⟨#[71]⟩) := blk_cell g0 3
  have c0_4 : W.cell? ⟨w.heap.size, 4, none⟩ = some (.string ⟨#[77, 105]⟩) := blk_cell g0 4
  have c0_5 : W.cell? ⟨w.heap.size, 5, none⟩ = some (.string ⟨#[77]⟩) := blk_cell g0 5
  have c0_6 : W.cell? ⟨w.heap.size, 6, none⟩ = some (.string ⟨#[75, 105]⟩) := blk_cell g0 6
  have c0_7 : W.cell? ⟨w.heap.size, 7, none⟩ = some (.string ⟨#[107]⟩) := blk_cell g0 7
  have f0 : ∀ j, W.frozen? ⟨w.heap.size, j, none⟩ = false := blk_free g0
  have hB : Below W.heap.size W W := Below.refl _ _
  have G0 := Lib.hid g0; clear g0
  have F0 := Lib.hid f0; clear f0
  have Hw := Lib.hid hw; clear hw
  have HC := Lib.hid (show ∀ i, i < 8 → W.cell? ⟨w.heap.size, i, none⟩ = some (.string (sufT (8 - i))) from fun i hi => match i, hi with
    | 0, _ => c0_0 | 1, _ => c0_1 | 2, _ => c0_2 | 3, _ => c0_3 | 4, _ => c0_4 | 5, _ => c0_5 | 6, _ => c0_6 | 7, _ => c0_7)
  clear c0_0 c0_1 c0_2 c0_3 c0_4 c0_5 c0_6 c0_7 F0 G0
  go_wp2_with fail
  go_loopw [4] (fun i wr => ∃ k : Nat, i = .int .i64 k ∧ k ≤ 8 ∧ Hid (bestI n 9 = bestI n (9 - k)) ∧ Below W.heap.size W wr) (fun i _ => 8 - (intOf i).toNat)
  case atStart => exact ⟨0, rfl, by omega, Lib.hid rfl, hB⟩
  case round =>
    clear hB
    obtain ⟨k, rfl, hk, hbest, hB⟩ := hrel
    by_cases hlt : k < 8
    · have ca := cb hB (HC.out k hlt)
      have HFS := Lib.hid (facV_suf (8 - k) (by omega))
      have HST := Lib.hid (show bestI n (9 - k) = if n % sufF (8 - k) = 0 then 8 - k else bestI n (8 - k) by rw [show 9 - k = (8 - k) + 1 by omega]; rfl)
      obtain ⟨T, hT⟩ : ∃ T, sufT (8 - k) = T := ⟨_, rfl⟩
      obtain ⟨F, hF⟩ : ∃ F, sufF (8 - k) = F := ⟨_, rfl⟩
      have hFp := sufF_pos (8 - k) (by omega)
      have hTs := sufT_size (8 - k) (by omega)
      rw [hF] at hFp HFS
      rw [hT] at hTs ca HFS
      have HTk := Lib.hid hT; have HFk := Lib.hid hF
      clear hT hF
      obtain ⟨hF1, hF2⟩ := hFp
      have hkn : (k : Int) < 8 := by omega
      have hF0 : ¬ F = 0 := by omega
      have hzB : w.heap.size < wr.heap.size := lt_of_cell ca
      have hmx : max 1 F = F := by omega
      go_upto_region 10 with (go_at_call 12; refine (rfactor_calls _ _).mono ?_; rintro e w' ⟨rfl, hb⟩; rw [HFS.out]; have ca := cb hb ca; have hB := bl_next hB hb; clear hb)
      · have hd0 : 0 ≤ n / F := Int.ediv_nonneg (by omega) (by omega)
        have hd1 : n / F ≤ n := Int.ediv_le_self _ (by omega)
        obtain ⟨D, hD⟩ : ∃ D : ByteArray, (⟨(Lib.itoa (n / F)).toArray⟩ : ByteArray) = D := ⟨_, rfl⟩
        have hDs : D.size ≤ 19 := by rw [← hD]; exact itoa_len _ hd0 (by omega)
        have HD := Lib.hid hD
        have hS1 : ¬ (9223372036854775807 < D.size + T.size) := by omega
        have hQ1 : IntKind.i64.wrap (n.tdiv F) = n / F := by
          rw [Int.tdiv_eq_ediv_of_nonneg (by omega)]
          exact i64_id (by omega) (by omega)
        have HE0 := Lib.hid hd0
        have HE2 := Lib.hid (show n / F ≤ 9223372036854775807 by omega)
        have hd : (n % F == 0) = true := by assumption
        have HTX := Lib.hid (show textV n = D ++ T by
          rw [HT.out, hbest.out, HST.out, HFk.out, if_pos (by simpa using hd), HFk.out, HTk.out, hD])
        clear hD hd0 hd1 hd
        have hBw := Lib.hid hB
        clear hB
        have hB := Below.refl w'.heap.size w'
        obtain ⟨V, rfl⟩ : ∃ V : World, V = w' := ⟨_, rfl⟩
        have hB := hB.drew
        refine region_seq (fun w' => Below V.heap.size V w') [(0, true), (1, true), (2, true), (3, true), (4, true), (9, true), (10, true), (11, true), (12, true), (5, false), (6, true), (7, true), (8, false), (13, true), (14, true)] (by kernel_rfl) (by kernel_rfl) (fun _ _ _ _ h => h) hB ?_
        try generalize World.drew _ = wS at hB ⊢
        refine seq_take (v := ?_) (a' := ?_) (some 25) rfl rfl (by rfl) ?_ ?_ ?_
        rotate_left; rotate_left
        · intro w' hS; go_simp; with_reducible rfl
        · simp only [Act.put, List.setIfInBounds_toArray, List.set_cons_zero, List.set_cons_succ]; rfl
        refine seq_take (v := ?_) (a' := ?_) (some 26) rfl rfl (by rfl) ?_ ?_ ?_
        rotate_left; rotate_left
        · intro w' hS; go_simp; with_reducible rfl
        · simp only [Act.put, List.setIfInBounds_toArray, List.set_cons_zero, List.set_cons_succ]; rfl
        refine seq_take (v := ?_) (a' := ?_) (some 27) rfl rfl (by rfl) ?_ ?_ ?_
        rotate_left; rotate_left
        · intro w' hS; go_simp; with_reducible rfl
        · simp only [Act.put, List.setIfInBounds_toArray, List.set_cons_zero, List.set_cons_succ]; rfl
        refine seq_take (v := ?_) (a' := ?_) (some 28) rfl rfl (by rfl) ?_ ?_ ?_
        rotate_left; rotate_left
        · intro w' hS; go_simp; with_reducible rfl
        · simp only [Act.put, List.setIfInBounds_toArray, List.set_cons_zero, List.set_cons_succ]; rfl
        refine seq_take (v := ?_) (a' := ?_) (some 29) rfl rfl (by rfl) ?_ ?_ ?_
        rotate_left; rotate_left
        · intro w' hS; have s0 := cb hS ca; go_simp; with_reducible rfl
        · simp only [Act.put, List.setIfInBounds_toArray, List.set_cons_zero, List.set_cons_succ]; rfl
        refine seq_take (v := ?_) (a' := ?_) (some 34) rfl rfl (by rfl) ?_ ?_ ?_
        rotate_left; rotate_left
        · intro w' hS; go_simp; with_reducible rfl
        · simp only [Act.put, List.setIfInBounds_toArray, List.set_cons_zero, List.set_cons_succ]; rfl
        refine seq_take (v := ?_) (a' := ?_) (some 35) rfl rfl (by rfl) ?_ ?_ ?_
        rotate_left; rotate_left
        · intro w' hS; go_simp; with_reducible rfl
        · simp only [Act.put, List.setIfInBounds_toArray, List.set_cons_zero, List.set_cons_succ]; rfl
        refine seq_take (v := ?_) (a' := ?_) (some 36) rfl rfl (by rfl) ?_ ?_ ?_
        rotate_left; rotate_left
        · intro w' hS; go_simp; with_reducible rfl
        · simp only [Act.put, List.setIfInBounds_toArray, List.set_cons_zero, List.set_cons_succ]; rfl
        refine seq_take (v := ?_) (a' := ?_) (some 37) rfl rfl (by rfl) ?_ ?_ ?_
        rotate_left; rotate_left
        · intro w' hS; have s0 := cb hS ca; go_simp; with_reducible rfl
        · simp only [Act.put, List.setIfInBounds_toArray, List.set_cons_zero, List.set_cons_succ]; rfl
        refine seq_call (args := ?_) Tryd.func12 (by kernel_rfl) rfl (some 30) rfl rfl (by rfl) rfl ?_ ?_
        rotate_left
        · simp only [List.map_toArray, List.map_cons, List.map_nil]; go_simp; rfl
        with_reducible refine (rfactor_calls _ _).mono ?_
        rintro e w' ⟨rfl, hb⟩
        rw [HFS.out]
        refine ⟨_, rfl, bl_next (by repeat (first | with_reducible exact hB | refine Below.alloc ?_ (by have := hB.size; simp; omega) _ | refine bl_dN ?_ _ | refine Below.drew ?_ | refine Below.setCell ?_ (by have := hB.size; simp; omega) _)) hb, ?_⟩
        have hB := bl_next (by repeat (first | with_reducible exact hB | refine Below.alloc ?_ (by have := hB.size; simp; omega) _ | refine bl_dN ?_ _ | refine Below.drew ?_ | refine Below.setCell ?_ (by have := hB.size; simp; omega) _)) hb; clear hb
        simp only [Act.put, List.setIfInBounds_toArray, List.set_cons_zero, List.set_cons_succ]
        refine seq_take (v := ?_) (a' := ?_) (some 31) rfl rfl (by rfl) ?_ ?_ ?_
        rotate_left; rotate_left
        · intro w' hS; go_simp; with_reducible rfl
        · simp only [Act.put, List.setIfInBounds_toArray, List.set_cons_zero, List.set_cons_succ]; rfl
        refine seq_take (v := ?_) (a' := ?_) (some 32) rfl rfl (by rfl) ?_ ?_ ?_
        rotate_left; rotate_left
        · intro w' hS; go_simp; with_reducible rfl
        · simp only [Act.put, List.setIfInBounds_toArray, List.set_cons_zero, List.set_cons_succ]; rfl
        refine seq_call (args := ?_) Tryd.func14 (by kernel_rfl) rfl (some 33) rfl rfl (by rfl) rfl ?_ ?_
        rotate_left
        · simp only [List.map_toArray, List.map_cons, List.map_nil]; go_simp; rfl
        with_reducible refine (rfigures_calls (n / F) _ HE0.out HE2.out).mono ?_
        rintro e w' ⟨rfl, hb⟩
        rw [HD.out]
        refine ⟨_, rfl, bl_next (by repeat (first | with_reducible exact hB | refine Below.alloc ?_ (by have := hB.size; simp; omega) _ | refine bl_dN ?_ _ | refine Below.drew ?_ | refine Below.setCell ?_ (by have := hB.size; simp; omega) _)) hb, ?_⟩
        have hB := bl_next (by repeat (first | with_reducible exact hB | refine Below.alloc ?_ (by have := hB.size; simp; omega) _ | refine bl_dN ?_ _ | refine Below.drew ?_ | refine Below.setCell ?_ (by have := hB.size; simp; omega) _)) hb; clear hb
        simp only [Act.put, List.setIfInBounds_toArray, List.set_cons_zero, List.set_cons_succ]
        refine seq_take (v := ?_) (a' := ?_) (some 38) rfl rfl (by rfl) ?_ ?_ ?_
        rotate_left; rotate_left
        · intro w' hS; go_simp; with_reducible rfl
        · simp only [Act.put, List.setIfInBounds_toArray, List.set_cons_zero, List.set_cons_succ]; rfl
        refine seq_take (v := ?_) (a' := ?_) (some 2) rfl rfl (by rfl) ?_ ?_ ?_
        rotate_left; rotate_left
        · intro w' hS; go_simp; with_reducible rfl
        · simp only [Act.put, List.setIfInBounds_toArray, List.set_cons_zero, List.set_cons_succ]; rfl
        refine seq_done ?_
        go_wp2_with fail
        go_ret
        exact ⟨ret_str (by rw [HTX.out]), bl_from Hw.out (bl_next hBw.out hB)⟩
      · have hd : (n % F == 0) = false := by assumption
        go_roundw
        case rel => exact ⟨k + 1, by go_num, by omega, Lib.hid (by rw [hbest.out, HST.out, HFk.out, if_neg (by simpa using hd)]; congr 1; omega), hB⟩
        case measure => simp [intOf]; omega
    · have hkn := Lib.hid (show k = 8 by omega)
      go_wp2_with (go_at_call 14; refine (rfigures_calls n _ (by omega) h2).mono ?_; rintro e w' ⟨rfl, hb⟩; have hB := bl_next hB hb; clear hb)
      go_ret
      exact ⟨ret_str (by
        rw [HT.out, hbest.out, hkn.out, show bestI n (9 - 8) = 0 from if_pos (Int.emod_one n)]
        rw [show sufF 0 = 1 from rfl, Int.ediv_one]
        apply ByteArray.ext; simp [sufT, sufL]), bl_from Hw.out hB⟩
end Go.Proofs.YtdcceaafiammfaaDoor
