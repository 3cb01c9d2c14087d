import Derived.Test.YtdcceaafiammfaaDoorProg
import Derived.Test.YtdcceaafiammfaaDoorQm
namespace Go.Proofs.YtdcceaafiammfaaDoor
open Go.RowKit
set_option linter.unusedVariables false
set_option linter.unusedSimpArgs false
def lI (k : Nat) : Nat := if k = 0 then 0 else 2 * k - 1
def thouF (k : Nat) : Int := 1000 ^ k
def kibF (k : Nat) : Int := 1024 ^ k
theorem thou_suc (k : Nat) : 1000 * thouF k = thouF (k + 1) := by unfold thouF; rw [Int.pow_succ]; omega
theorem kib_suc (k : Nat) : 1024 * kibF k = kibF (k + 1) := by unfold kibF; rw [Int.pow_succ]; omega
theorem lI_fac (k : Nat) (h : k < 5) : lI k < 9 ∧ sufF (lI k) = thouF k ∧ 2 * k < 9 ∧ sufF (2 * k) = kibF k ∧ 1 ≤ thouF k ∧ thouF k ≤ 1000000000000 ∧ 1 ≤ kibF k ∧ kibF k ≤ 1099511627776 := by
  match k, h with
  | 0, _ | 1, _ | 2, _ | 3, _ | 4, _ => decide
theorem prod_bound {K F : Int} (h0 : 0 ≤ K) (h1 : K ≤ 1048576) (h2 : 1 ≤ F) (h3 : F ≤ 1099511627776) : 0 ≤ K * F ∧ K * F ≤ 1152921504606846976 := by
  refine ⟨Int.mul_nonneg h0 (by omega), ?_⟩
  have a := Int.mul_le_mul h1 h3 (by omega) (by decide)
  exact a
theorem fig_parse (K : Int) (k : Nat) (hk : k < 9) (h0 : 0 ≤ K) (hm : K * sufF k ≤ 9223372036854775807) : parseV ((⟨(Lib.itoa K).toArray⟩ : ByteArray) ++ sufT k) = .tuple #[.int .i64 (K * sufF k), .int .i64 0] := by
  have e : ((K.toNat : Nat) : Int) = K := by omega
  have hl : ((⟨(Lib.itoa K).toArray⟩ : ByteArray) ++ sufT k).data.toList = Lib.decDigits K.toNat ++ (sufT k).data.toList := by
    rw [Lib.itoa, if_neg (by omega)]; simp
  rw [parse_list, hl, parse_text _ _ hk (by rw [e]; exact hm), e]
set_option maxHeartbeats 4000000 in
set_option maxRecDepth 100000 in
theorem qfactor_law (n : Int) (w : World) (q : QV w) (h1 : 0 ≤ n) (h2 : n ≤ 4294967295) :
    Calls Tryd.prog 5 #[.int .u32 n] w fun e w' => e = .returned (.bool true) ∧ Below w.heap.size w w' := by
  have Q := Lib.hid q
  clear q
  go_enter Tryd.func5, Tryd.ntmps5
  go_upto_region 4 with fail
  first | with_reducible refine name_wp ?_ | with_reducible refine name_calls ?_
  intro W hWeq
  have g0 : W.heap[w.heap.size]? = some (.cells #[.string ⟨#[]⟩, .string ⟨#[107]⟩, .string ⟨#[77]⟩, .string ⟨#[71]⟩, .string ⟨#[84]⟩] 9) := by rw [hWeq]; repeat (first | (with_reducible exact blk_newAt _ _ (by simp)) | with_reducible refine blk_drew ?_ | with_reducible refine blk_dN ?_ _ | with_reducible refine blk_old ?_ _)
  have g1 : W.heap[w.heap.size + 1]? = some (.cells #[.string ⟨#[]⟩, .string ⟨#[75, 105]⟩, .string ⟨#[77, 105]⟩, .string ⟨#[71, 105]⟩, .string ⟨#[84, 105]⟩] 9) := by rw [hWeq]; repeat (first | (with_reducible exact blk_newAt _ _ (by simp)) | with_reducible refine blk_drew ?_ | with_reducible refine blk_dN ?_ _ | with_reducible refine blk_old ?_ _)
  have hw : Below w.heap.size w W := by rw [hWeq]; repeat (first | with_reducible exact Below.refl _ _ | with_reducible refine Below.drew ?_ | with_reducible refine bl_dN ?_ _ | with_reducible refine Below.alloc ?_ (by simp <;> omega) _)
  clear hWeq
  have hz : w.heap.size + 2 ≤ W.heap.size := by have := blk_lt g1; omega
  have c0_0 : W.cell? ⟨w.heap.size, 0, none⟩ = some (.string ⟨#[]⟩) := blk_cell g0 0
  have c0_1 : W.cell? ⟨w.heap.size, 1, none⟩ = some (.string ⟨#[107]⟩) := blk_cell g0 1
  have c0_2 : W.cell? ⟨w.heap.size, 2, none⟩ = some (.string ⟨#[77]⟩) := blk_cell g0 2
  have c0_3 : W.cell? ⟨w.heap.size, 3, none⟩ = some (.string ⟨#[71]⟩) := blk_cell g0 3
  have c0_4 : W.cell? ⟨w.heap.size, 4, none⟩ = some (.string ⟨#[84]⟩) := blk_cell g0 4
  have f0 : ∀ j, W.frozen? ⟨w.heap.size, j, none⟩ = false := blk_free g0
  have c1_0 : W.cell? ⟨w.heap.size + 1, 0, none⟩ = some (.string ⟨#[]⟩) := blk_cell g1 0
  have c1_1 : W.cell? ⟨w.heap.size + 1, 1, none⟩ = some (.string ⟨#[75, 105]⟩) := blk_cell g1 1
  have c1_2 : W.cell? ⟨w.heap.size + 1, 2, none⟩ = some (.string ⟨#[77, 105]⟩) := blk_cell g1 2
  have c1_3 : W.cell? ⟨w.heap.size + 1, 3, none⟩ = some (.string ⟨#[71, 105]⟩) := blk_cell g1 3
  have c1_4 : W.cell? ⟨w.heap.size + 1, 4, none⟩ = some (.string ⟨#[84, 105]⟩) := blk_cell g1 4
  have f1 : ∀ j, W.frozen? ⟨w.heap.size + 1, j, none⟩ = false := blk_free g1
  have hB : Below W.heap.size W W := Below.refl _ _
  have G0 := Lib.hid g0; clear g0
  have F0 := Lib.hid f0; clear f0
  have G1 := Lib.hid g1; clear g1
  have F1 := Lib.hid f1; clear f1
  have Hw := Lib.hid hw; clear hw
  have QW := Lib.hid (Q.out.below Hw.out)
  have HL := Lib.hid (show ∀ i, i < 5 → W.cell? ⟨w.heap.size, i, none⟩ = some (.string (sufT (lI i))) from fun i hi => match i, hi with
    | 0, _ => c0_0 | 1, _ => c0_1 | 2, _ => c0_2 | 3, _ => c0_3 | 4, _ => c0_4)
  have HM := Lib.hid (show ∀ i, i < 5 → W.cell? ⟨w.heap.size + 1, i, none⟩ = some (.string (sufT (2 * i))) from fun i hi => match i, hi with
    | 0, _ => c1_0 | 1, _ => c1_1 | 2, _ => c1_2 | 3, _ => c1_3 | 4, _ => c1_4)
  clear c0_0 c0_1 c0_2 c0_3 c0_4 c1_0 c1_1 c1_2 c1_3 c1_4 F0 G0 F1 G1
  obtain ⟨K, hK⟩ : ∃ K, n % 1048577 = K := ⟨_, rfl⟩
  have hK0 : 0 ≤ K := by omega
  have hK1 : K ≤ 1048576 := by omega
  rw [hK]
  clear hK
  obtain ⟨D, hD⟩ : ∃ D : ByteArray, (⟨(Lib.itoa K).toArray⟩ : ByteArray) = D := ⟨_, rfl⟩
  have hDs : D.size ≤ 19 := by rw [← hD]; exact itoa_len K hK0 (by omega)
  have HD := Lib.hid hD
  have HKb := Lib.hid (show 0 ≤ K ∧ K ≤ 9223372036854775807 by omega)
  clear hD
  go_wp2_with fail
  go_loopw [6, 7, 8, 9, 10, 11, 12] (fun f g i _ _ _ _ wr => ∃ k : Nat, i = .int .i64 k ∧ k ≤ 5 ∧ f = .int .i64 (thouF k) ∧ g = .int .i64 (kibF k) ∧ Below W.heap.size W wr) (fun _ _ i _ _ _ _ _ => 5 - (intOf i).toNat)
  case atStart => exact ⟨0, rfl, by omega, rfl, rfl, hB⟩
  case round =>
    clear hB
    obtain ⟨k, rfl, hk, rfl, rfl, hB⟩ := hrel
    by_cases hlt : k < 5
    · obtain ⟨a1, a2, a3, a4, a5, a6, a7, a8⟩ := lI_fac k hlt
      have ca := cb hB (HL.out k hlt)
      have cc := cb hB (HM.out k hlt)
      have t1 := sufT_size (lI k) a1
      have t2 := sufT_size (2 * k) a3
      have v1 := facV_suf (lI k) a1
      have v2 := facV_suf (2 * k) a3
      have s1 := thou_suc k
      have s2 := kib_suc k
      obtain ⟨b1, b2⟩ := prod_bound hK0 hK1 a5 (by omega)
      obtain ⟨b3, b4⟩ := prod_bound hK0 hK1 a7 a8
      have p1 := fig_parse K (lI k) a1 hK0 (by rw [a2]; omega)
      have p2 := fig_parse K (2 * k) a3 hK0 (by rw [a4]; omega)
      rw [HD.out, a2] at p1; rw [HD.out, a4] at p2
      rw [a2] at v1; rw [a4] at v2
      obtain ⟨T1, hT1⟩ : ∃ T, sufT (lI k) = T := ⟨_, rfl⟩
      obtain ⟨T2, hT2⟩ : ∃ T, sufT (2 * k) = T := ⟨_, rfl⟩
      obtain ⟨F1, hF1⟩ : ∃ F, thouF k = F := ⟨_, rfl⟩
      obtain ⟨F2, hF2⟩ : ∃ F, kibF k = F := ⟨_, rfl⟩
      obtain ⟨P1, hP1⟩ : ∃ P, K * F1 = P := ⟨_, rfl⟩
      obtain ⟨P2, hP2⟩ : ∃ P, K * F2 = P := ⟨_, rfl⟩
      rw [hT1] at ca t1 v1 p1
      rw [hT2] at cc t2 v2 p2
      rw [hF1] at v1 p1 b1 b2 s1 a5 a6 ⊢
      rw [hF2] at v2 p2 b3 b4 s2 a7 a8 ⊢
      rw [hP1] at p1 b1 b2
      rw [hP2] at p2 b3 b4
      have HP1 := Lib.hid p1; have HP2 := Lib.hid p2; have HV1 := Lib.hid v1; have HV2 := Lib.hid v2; have HS1 := Lib.hid s1; have HS2 := Lib.hid s2
      have HZ1 := Lib.hid (show (D ++ T1).size ≤ 1000 by rw [ByteArray.size_append]; omega)
      have HZ2 := Lib.hid (show (D ++ T2).size ≤ 1000 by rw [ByteArray.size_append]; omega)
      have hS1 : ¬ (9223372036854775807 < D.size + T1.size) := by omega
      have hS2 : ¬ (9223372036854775807 < D.size + T2.size) := by omega
      clear p1 p2 v1 v2 s1 s2 a1 a2 a3 a4 hT1 hT2 hF1 hF2
      have hkI : (k : Int) < 5 := by omega
      have QR := Lib.hid (QW.out.below hB)
      have hBw := Lib.hid hB
      clear hB
      have hB := Below.refl wr.heap.size wr
      go_upto_region 9 with fail
      have hB := hB.drew
      refine region_seq (fun w' => Below wr.heap.size wr w') [(0, true), (2, true), (3, true), (4, true), (5, true), (1, false), (6, true), (7, false), (8, true), (9, true), (10, true), (11, true), (12, true)] (by kernel_rfl) (by kernel_rfl) (fun _ _ _ _ h => h) hB ?_
      try generalize World.drew _ = wS at hB ⊢
      refine seq_take (v := ?_) (a' := ?_) (some 23) rfl rfl (by rfl) ?_ ?_ ?_
      rotate_left; rotate_left
      · intro w' hS; go_simp; with_reducible rfl
      · simp only [Act.put, List.setIfInBounds_toArray, List.set_cons_zero, List.set_cons_succ]; rfl
      refine seq_take (v := ?_) (a' := ?_) (some 25) rfl rfl (by rfl) ?_ ?_ ?_
      rotate_left; rotate_left
      · intro w' hS; go_simp; with_reducible rfl
      · simp only [Act.put, List.setIfInBounds_toArray, List.set_cons_zero, List.set_cons_succ]; rfl
      refine seq_take (v := ?_) (a' := ?_) (some 26) rfl rfl (by rfl) ?_ ?_ ?_
      rotate_left; rotate_left
      · intro w' hS; go_simp; with_reducible rfl
      · simp only [Act.put, List.setIfInBounds_toArray, List.set_cons_zero, List.set_cons_succ]; rfl
      refine seq_take (v := ?_) (a' := ?_) (some 27) rfl rfl (by rfl) ?_ ?_ ?_
      rotate_left; rotate_left
      · intro w' hS; go_simp; with_reducible rfl
      · simp only [Act.put, List.setIfInBounds_toArray, List.set_cons_zero, List.set_cons_succ]; rfl
      refine seq_take (v := ?_) (a' := ?_) (some 28) rfl rfl (by rfl) ?_ ?_ ?_
      rotate_left; rotate_left
      · intro w' hS; have s0 := cb hS ca; go_simp; with_reducible rfl
      · simp only [Act.put, List.setIfInBounds_toArray, List.set_cons_zero, List.set_cons_succ]; rfl
      refine seq_call (args := ?_) Tryd.func14 (by kernel_rfl) rfl (some 24) rfl rfl (by rfl) rfl ?_ ?_
      rotate_left
      · simp only [List.map_toArray, List.map_cons, List.map_nil]; go_simp; rfl
      with_reducible refine (rfigures_calls K _ HKb.out.1 HKb.out.2).mono ?_
      rintro e w' ⟨rfl, hb⟩
      rw [HD.out]
      refine ⟨_, rfl, bl_next (by repeat (first | with_reducible exact hB | refine Below.alloc ?_ (by have := hB.size; simp; omega) _ | refine bl_dN ?_ _ | refine Below.drew ?_ | refine Below.setCell ?_ (by have := hB.size; simp; omega) _)) hb, ?_⟩
      have hB := bl_next (by repeat (first | with_reducible exact hB | refine Below.alloc ?_ (by have := hB.size; simp; omega) _ | refine bl_dN ?_ _ | refine Below.drew ?_ | refine Below.setCell ?_ (by have := hB.size; simp; omega) _)) hb; clear hb
      simp only [Act.put, List.setIfInBounds_toArray, List.set_cons_zero, List.set_cons_succ]
      refine seq_take (v := ?_) (a' := ?_) (some 29) rfl rfl (by rfl) ?_ ?_ ?_
      rotate_left; rotate_left
      · intro w' hS; go_simp; with_reducible rfl
      · simp only [Act.put, List.setIfInBounds_toArray, List.set_cons_zero, List.set_cons_succ]; rfl
      refine seq_call (args := ?_) Tryd.func7 (by kernel_rfl) rfl (some 30) rfl rfl (by rfl) rfl ?_ ?_
      rotate_left
      · simp only [List.map_toArray, List.map_cons, List.map_nil]; go_simp; rfl
      with_reducible refine (qparse_calls _ _ (QR.out.below hB) HZ1.out).mono ?_
      rintro e w' ⟨rfl, hb⟩
      rw [HP1.out]
      refine ⟨_, rfl, bl_next (by repeat (first | with_reducible exact hB | refine Below.alloc ?_ (by have := hB.size; simp; omega) _ | refine bl_dN ?_ _ | refine Below.drew ?_ | refine Below.setCell ?_ (by have := hB.size; simp; omega) _)) hb, ?_⟩
      have hB := bl_next (by repeat (first | with_reducible exact hB | refine Below.alloc ?_ (by have := hB.size; simp; omega) _ | refine bl_dN ?_ _ | refine Below.drew ?_ | refine Below.setCell ?_ (by have := hB.size; simp; omega) _)) hb; clear hb
      simp only [Act.put, List.setIfInBounds_toArray, List.set_cons_zero, List.set_cons_succ]
      refine seq_take (v := ?_) (a' := ?_) (some 22) rfl rfl (by rfl) ?_ ?_ ?_
      rotate_left; rotate_left
      · intro w' hS; go_simp; with_reducible rfl
      · simp only [Act.put, List.setIfInBounds_toArray, List.set_cons_zero, List.set_cons_succ]; rfl
      refine seq_take (v := ?_) (a' := ?_) (some 31) rfl rfl (by rfl) ?_ ?_ ?_
      rotate_left; rotate_left
      · intro w' hS; go_simp; with_reducible rfl
      · simp only [Act.put, List.setIfInBounds_toArray, List.set_cons_zero, List.set_cons_succ]; rfl
      refine seq_take (v := ?_) (a' := ?_) (some 32) rfl rfl (by rfl) ?_ ?_ ?_
      rotate_left; rotate_left
      · intro w' hS; go_simp; with_reducible rfl
      · simp only [Act.put, List.setIfInBounds_toArray, List.set_cons_zero, List.set_cons_succ]; rfl
      refine seq_take (v := ?_) (a' := ?_) (some 9) rfl rfl (by rfl) ?_ ?_ ?_
      rotate_left; rotate_left
      · intro w' hS; go_simp; with_reducible rfl
      · simp only [Act.put, List.setIfInBounds_toArray, List.set_cons_zero, List.set_cons_succ]; rfl
      refine seq_take (v := ?_) (a' := ?_) (some 10) rfl rfl (by rfl) ?_ ?_ ?_
      rotate_left; rotate_left
      · intro w' hS; go_simp; with_reducible rfl
      · simp only [Act.put, List.setIfInBounds_toArray, List.set_cons_zero, List.set_cons_succ]; rfl
      refine seq_done ?_
      go_upto_region 10 with fail
      have hB := hB.drew
      refine region_seq (fun w' => Below wr.heap.size wr w') [(0, true), (2, true), (3, true), (4, true), (5, true), (1, false), (6, true), (7, false), (8, true), (9, true), (10, true), (11, true), (12, true)] (by kernel_rfl) (by kernel_rfl) (fun _ _ _ _ h => h) hB ?_
      try generalize World.drew _ = wS at hB ⊢
      refine seq_take (v := ?_) (a' := ?_) (some 34) rfl rfl (by rfl) ?_ ?_ ?_
      rotate_left; rotate_left
      · intro w' hS; go_simp; with_reducible rfl
      · simp only [Act.put, List.setIfInBounds_toArray, List.set_cons_zero, List.set_cons_succ]; rfl
      refine seq_take (v := ?_) (a' := ?_) (some 36) rfl rfl (by rfl) ?_ ?_ ?_
      rotate_left; rotate_left
      · intro w' hS; go_simp; with_reducible rfl
      · simp only [Act.put, List.setIfInBounds_toArray, List.set_cons_zero, List.set_cons_succ]; rfl
      refine seq_take (v := ?_) (a' := ?_) (some 37) rfl rfl (by rfl) ?_ ?_ ?_
      rotate_left; rotate_left
      · intro w' hS; go_simp; with_reducible rfl
      · simp only [Act.put, List.setIfInBounds_toArray, List.set_cons_zero, List.set_cons_succ]; rfl
      refine seq_take (v := ?_) (a' := ?_) (some 38) rfl rfl (by rfl) ?_ ?_ ?_
      rotate_left; rotate_left
      · intro w' hS; go_simp; with_reducible rfl
      · simp only [Act.put, List.setIfInBounds_toArray, List.set_cons_zero, List.set_cons_succ]; rfl
      refine seq_take (v := ?_) (a' := ?_) (some 39) rfl rfl (by rfl) ?_ ?_ ?_
      rotate_left; rotate_left
      · intro w' hS; have s0 := cb hS cc; go_simp; with_reducible rfl
      · simp only [Act.put, List.setIfInBounds_toArray, List.set_cons_zero, List.set_cons_succ]; rfl
      refine seq_call (args := ?_) Tryd.func14 (by kernel_rfl) rfl (some 35) rfl rfl (by rfl) rfl ?_ ?_
      rotate_left
      · simp only [List.map_toArray, List.map_cons, List.map_nil]; go_simp; rfl
      with_reducible refine (rfigures_calls K _ HKb.out.1 HKb.out.2).mono ?_
      rintro e w' ⟨rfl, hb⟩
      rw [HD.out]
      refine ⟨_, rfl, bl_next (by repeat (first | with_reducible exact hB | refine Below.alloc ?_ (by have := hB.size; simp; omega) _ | refine bl_dN ?_ _ | refine Below.drew ?_ | refine Below.setCell ?_ (by have := hB.size; simp; omega) _)) hb, ?_⟩
      have hB := bl_next (by repeat (first | with_reducible exact hB | refine Below.alloc ?_ (by have := hB.size; simp; omega) _ | refine bl_dN ?_ _ | refine Below.drew ?_ | refine Below.setCell ?_ (by have := hB.size; simp; omega) _)) hb; clear hb
      simp only [Act.put, List.setIfInBounds_toArray, List.set_cons_zero, List.set_cons_succ]
      refine seq_take (v := ?_) (a' := ?_) (some 40) rfl rfl (by rfl) ?_ ?_ ?_
      rotate_left; rotate_left
      · intro w' hS; go_simp; with_reducible rfl
      · simp only [Act.put, List.setIfInBounds_toArray, List.set_cons_zero, List.set_cons_succ]; rfl
      refine seq_call (args := ?_) Tryd.func7 (by kernel_rfl) rfl (some 41) rfl rfl (by rfl) rfl ?_ ?_
      rotate_left
      · simp only [List.map_toArray, List.map_cons, List.map_nil]; go_simp; rfl
      with_reducible refine (qparse_calls _ _ (QR.out.below hB) HZ2.out).mono ?_
      rintro e w' ⟨rfl, hb⟩
      rw [HP2.out]
      refine ⟨_, rfl, bl_next (by repeat (first | with_reducible exact hB | refine Below.alloc ?_ (by have := hB.size; simp; omega) _ | refine bl_dN ?_ _ | refine Below.drew ?_ | refine Below.setCell ?_ (by have := hB.size; simp; omega) _)) hb, ?_⟩
      have hB := bl_next (by repeat (first | with_reducible exact hB | refine Below.alloc ?_ (by have := hB.size; simp; omega) _ | refine bl_dN ?_ _ | refine Below.drew ?_ | refine Below.setCell ?_ (by have := hB.size; simp; omega) _)) hb; clear hb
      simp only [Act.put, List.setIfInBounds_toArray, List.set_cons_zero, List.set_cons_succ]
      refine seq_take (v := ?_) (a' := ?_) (some 33) rfl rfl (by rfl) ?_ ?_ ?_
      rotate_left; rotate_left
      · intro w' hS; go_simp; with_reducible rfl
      · simp only [Act.put, List.setIfInBounds_toArray, List.set_cons_zero, List.set_cons_succ]; rfl
      refine seq_take (v := ?_) (a' := ?_) (some 42) rfl rfl (by rfl) ?_ ?_ ?_
      rotate_left; rotate_left
      · intro w' hS; go_simp; with_reducible rfl
      · simp only [Act.put, List.setIfInBounds_toArray, List.set_cons_zero, List.set_cons_succ]; rfl
      refine seq_take (v := ?_) (a' := ?_) (some 43) rfl rfl (by rfl) ?_ ?_ ?_
      rotate_left; rotate_left
      · intro w' hS; go_simp; with_reducible rfl
      · simp only [Act.put, List.setIfInBounds_toArray, List.set_cons_zero, List.set_cons_succ]; rfl
      refine seq_take (v := ?_) (a' := ?_) (some 11) rfl rfl (by rfl) ?_ ?_ ?_
      rotate_left; rotate_left
      · intro w' hS; go_simp; with_reducible rfl
      · simp only [Act.put, List.setIfInBounds_toArray, List.set_cons_zero, List.set_cons_succ]; rfl
      refine seq_take (v := ?_) (a' := ?_) (some 12) rfl rfl (by rfl) ?_ ?_ ?_
      rotate_left; rotate_left
      · intro w' hS; go_simp; with_reducible rfl
      · simp only [Act.put, List.setIfInBounds_toArray, List.set_cons_zero, List.set_cons_succ]; rfl
      refine seq_done ?_
      have ca := cb hB ca
      have cc := cb hB cc
      have hkz : w.heap.size + 1 < wr.heap.size := by have := hBw.out.size; omega
      go_upto_region 11 with fail
      go_cut [70] from 44 to 69 (fun s70 wc => s70 = .bool false ∧ Below wr.heap.size wr wc)
      case first =>
        go_wp2_with (go_at_call 11; refine (qfactor_calls _ _ (QR.out.below hB)).mono ?_; rintro e w' ⟨rfl, hb⟩; (first | rw [HV1.out] | rw [HV2.out]); have ca := cb hb ca; have cc := cb hb cc; have hB := bl_next hB hb; clear hb)
        go_meet
        exact ⟨rfl, hB⟩
      case rest =>
        obtain ⟨rfl, hB⟩ := hcut
        have hK8 : K ≤ 8388607 := by omega
        go_wp2_with fail
        go_roundw
        case rel => exact ⟨k + 1, by go_num, by omega, vint HS1.out, vint HS2.out, bl_next hBw.out hB⟩
        case measure => simp [intOf]; omega
    · have hkn := Lib.hid (show k = 5 by omega)
      go_wp2_with (go_at_call 6; refine (alive3_calls _ (QW.out.below hB)).mono ?_; rintro e w' ⟨rfl, hb⟩; have hB := bl_next hB hb; clear hb)
      go_ret
      exact ⟨rfl, bl_from Hw.out hB⟩
theorem quantityFactorWalk {W : World} (q : QV W) (n : Int) (v : Value) (hn : (kInt .u32).K W anyB n [v]) :
    Calls Tryd.prog 5 #[v] W fun e w' => e = .returned (.bool true) ∧ Below W.heap.size W w' := by
  obtain ⟨hn, wn⟩ := hn
  obtain ⟨rfl⟩ : v = .int .u32 n := by simpa using hn
  have a := wf_u32' wn
  exact qfactor_law n W q a.1 a.2
end Go.Proofs.YtdcceaafiammfaaDoor
