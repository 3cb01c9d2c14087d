import Derived.Test.YtdcceaafiammfaaDoorProg
import Derived.Test.YtdcceaafiammfaaDoorQf
namespace Go.Proofs.YtdcceaafiammfaaDoor
open Go.RowKit
set_option linter.unusedVariables false
set_option linter.unusedSimpArgs false
def preV (s : ByteArray) (k : Nat) : Nat := valA 0 (s.data.toList.take k)
theorem preV_step (s : ByteArray) (k : Nat) (h : k < s.size) : preV s (k + 1) = preV s k * 10 + ((s[k]'h).toNat - 48) := by
  have hl : k < s.data.toList.length := by simpa using h
  unfold preV
  have e : s.data.toList[k] = s[k]'h := by simp; rfl
  rw [List.take_add_one, List.getElem?_eq_getElem hl, valA_app, ← e]
  generalize s.data.toList[k] = c
  generalize valA 0 (List.take k s.data.toList) = a
  rfl
theorem preV_zero (s : ByteArray) : preV s 0 = 0 := by unfold preV; rw [List.take_zero]; rfl
theorem preV_all (s : ByteArray) : valA 0 (s.extract 0 (figN s)).toList = preV s (figN s) := by
  have := figN_le s
  unfold preV
  rw [Lib.toList_data]
  congr 1
  simp [ByteArray.data_extract]
theorem preV_mono (s : ByteArray) (k j : Nat) (h : k ≤ j) : preV s k ≤ preV s j := by
  unfold preV
  rw [show s.data.toList.take j = s.data.toList.take k ++ (s.data.toList.take j).drop k by
    conv => lhs; rw [← List.take_append_drop k (s.data.toList.take j)]
    rw [List.take_take, Nat.min_eq_left h], valA_app]
  exact valA_ge _ _
set_option maxHeartbeats 4000000 in
set_option maxRecDepth 100000 in
theorem rparse_calls (s : ByteArray) (w : World) (hs : s.size ≤ 1000) : Calls Tryd.prog 8 #[.string s] w fun e w' => e = .returned (parseV s) ∧ Below w.heap.size w w' := by
  have hB := Below.refl w.heap.size w
  obtain ⟨n, hn⟩ : ∃ n, figN s = n := ⟨_, rfl⟩
  have hns : n ≤ s.size := by rw [← hn]; exact figN_le s
  obtain ⟨F, hF⟩ : ∃ F, facV (s.extract n s.size).toList = F := ⟨_, rfl⟩
  have hFr : F = 0 ∨ (1 ≤ F ∧ F ≤ 1099511627776) := by rw [← hF]; exact facV_range _
  obtain ⟨bad, hbad⟩ : ∃ bad, bad = (decide (n = 0) || decide (F = 0) || (decide (byteAt s 0 = 48) && decide (1 < n))) := ⟨_, rfl⟩
  have HP := Lib.hid (show parseV s = if bad then .tuple #[.int .i64 0, .int .i64 2] else if 9223372036854775807 < (preV s n : Int) * F then .tuple #[.int .i64 0, .int .i64 3] else .tuple #[.int .i64 ((preV s n : Int) * F), .int .i64 0] by
    rw [hbad]; unfold parseV badV quanV; rw [preV_all, hn, hF])
  have HN := Lib.hid hn; have HF := Lib.hid hF; have HBAD := Lib.hid hbad
  have HD := Lib.hid (show ∀ j, j < n → 48 ≤ byteAt s j ∧ byteAt s j ≤ 57 from fun j hj => figN_all s j (by rw [hn]; exact hj))
  have HE := Lib.hid (show n < s.size → ¬ (48 ≤ byteAt s n ∧ byteAt s n ≤ 57) from fun h => by have := figN_stop s (by rw [hn]; exact h); rw [hn] at this; exact this)
  clear hn hF hbad
  have hnsI : (n : Int) ≤ s.size := by omega
  go_enter Tryd.func8, Tryd.ntmps8
  go_upto_block 0 with fail
  go_cut [4] from 9 to 26 (fun s4 wc => s4 = .int .i64 n ∧ Below w.heap.size w wc)
  case first =>
    go_wp2_with fail
    go_loopw [4] (fun i wr => ∃ k : Nat, i = .int .i64 k ∧ k ≤ n ∧ w = wr) (fun i _ => n - (intOf i).toNat)
    case atStart => exact ⟨0, rfl, by omega, rfl⟩
    case round =>
      obtain ⟨k, rfl, hk, rfl⟩ := hrel
      by_cases hlt : k < n
      · have hks : k < s.size := by omega
        have hkI : (k : Int) < s.size := by omega
        have hd := HD.out k hlt
        rw [byteAt_eq s k hks] at hd
        obtain ⟨hd0, hd1⟩ := hd
        go_wp2_with fail
        go_roundw
        case rel => exact ⟨k + 1, by go_num, by omega, trivial⟩
        case measure => simp [intOf]; omega
      · have hkn := Lib.hid (show k = n by omega)
        by_cases hsz : n < s.size
        · have hks : k < s.size := by omega
          have hkI : (k : Int) < s.size := by omega
          have hd := HE.out hsz
          rw [← hkn.out, byteAt_eq s k hks] at hd
          have HDD := Lib.hid hd
          clear hd
          go_wp2_with fail
          · exfalso; have := HDD.out; omega
          · go_meet
            exact ⟨vint (by rw [hkn.out]), hB⟩
          · go_meet
            exact ⟨vint (by rw [hkn.out]), hB⟩
        · have hkI : ¬ ((k : Int) < s.size) := by omega
          go_wp2_with fail
          go_meet
          exact ⟨vint (by rw [hkn.out]), hB⟩
  case rest =>
    obtain ⟨rfl, hB⟩ := hcut
    go_upto_region 5 with (go_at_call 12; refine (rfactor_calls _ _).mono ?_; rintro e w' ⟨rfl, hb⟩; rw [HF.out]; have hB := bl_next hB hb; clear hb)
    have HDD2 := HD
    clear HD HE
    go_cut [45] from 31 to 44 (fun s45 wc => s45 = .bool bad ∧ Below w.heap.size w wc)
    case first =>
      by_cases hn0 : n = 0
      · have hnb : ((n : Int) == 0) = true := by simp; omega
        have HX := Lib.hid (show bad = true by rw [HBAD.out, hn0]; rfl)
        clear hn0
        go_wp2_with fail
        go_meet
        exact ⟨vbool HX.out.symm, hB⟩
      · have hnI : ¬ ((n : Int) = 0) := by omega
        have h0 : 0 < s.size := by omega
        have hb0 := byteAt_eq s 0 h0
        have HX := Lib.hid (show bad = (decide (F = 0) || (decide (byteAt s 0 = 48) && decide (1 < n))) by rw [HBAD.out]; simp [hn0])
        have e0 := Lib.hid (show ((n : Int) == 0) = false by simpa using hn0)
        have e1 := Lib.hid (show decide (1 < (n : Int)) = decide (1 < n) from decide_eq_decide.2 (by omega))
        have e2 := Lib.hid (show (F == 0) = decide (F = 0) by rw [Bool.eq_iff_iff]; simp)
        go_wp2_with fail
        · have h1 : 1 < (n : Int) := by assumption
          have h2 : ((s[0]'h0).toNat : Int) = 48 := by assumption
          have h3 : 1 < n := by omega
          go_meet
          refine ⟨vbool ?_, hB⟩
          rw [HX.out, hb0]; simp [h2, h3]
        · have h2 : ¬ ((s[0]'h0).toNat : Int) = 48 := by assumption
          go_meet
          refine ⟨vbool ?_, hB⟩
          rw [HX.out, hb0]; (try rw [e0.out]); (try rw [e2.out]); simp [h2]
        · have h1 : (n : Int) ≤ 1 := by assumption
          have h3 : ¬ 1 < n := by omega
          go_meet
          refine ⟨vbool ?_, hB⟩
          rw [HX.out]; (try rw [e0.out]); (try rw [e2.out]); simp [h3]
    case rest =>
      obtain ⟨rfl, hB⟩ := hcut
      cases bad with
      | true =>
        go_wp2_with fail
        go_ret2
        exact ⟨by rw [HP.out]; rfl, hB⟩
      | false =>
        have hn0 : n ≠ 0 := fun e => by have := HBAD.out; rw [e] at this; simp at this
        have hF1 : 1 ≤ F ∧ F ≤ 1099511627776 := by rcases hFr with e | e; have := HBAD.out; rw [e] at this; simp at this; exact e
        have HPV := Lib.hid (show parseV s = if 9223372036854775807 < (preV s n : Int) * F then .tuple #[.int .i64 0, .int .i64 3] else .tuple #[.int .i64 ((preV s n : Int) * F), .int .i64 0] by rw [HP.out, if_neg (by simp)])
        obtain ⟨hF1, hF2⟩ := hF1
        have hF0 : ¬ F = 0 := by omega
        clear HP HN HF hFr
        go_upto_region 8 with fail
        obtain ⟨M, hM⟩ : ∃ M : Int, 9223372036854775807 / F = M := ⟨_, rfl⟩
        have hM0 : 0 ≤ M := by rw [← hM]; exact Int.ediv_nonneg (by decide) (by omega)
        have hM1 : M ≤ 9223372036854775807 := by rw [← hM]; exact Int.ediv_le_self _ (by decide)
        have HIFF := Lib.hid (show ∀ x : Int, x ≤ M ↔ x * F ≤ 9223372036854775807 from fun x => by rw [← hM]; exact Int.le_ediv_iff_mul_le (by omega))
        have HD := Lib.hid (show ∀ j, j < n → 48 ≤ byteAt s j ∧ byteAt s j ≤ 57 from HDD2.out)
        rw [hM]
        clear hM
        go_wp2_with fail
        go_loopw [7, 8] (fun u i wr => ∃ k : Nat, i = .int .i64 k ∧ k ≤ n ∧ u = .int .u64 (preV s k) ∧ (preV s k : Int) ≤ M ∧ Below w.heap.size w wr) (fun _ i _ => n - (intOf i).toNat)
        case atStart => exact ⟨0, rfl, by omega, by rw [preV_zero]; rfl, by rw [preV_zero]; exact hM0, hB⟩
        case round =>
          clear hB
          obtain ⟨k, rfl, hk, rfl, hu, hB⟩ := hrel
          obtain ⟨u, hU⟩ : ∃ u, preV s k = u := ⟨_, rfl⟩
          rw [hU] at hu
          rw [hU]
          have hu0 : (0 : Int) ≤ u := by omega
          by_cases hlt : k < n
          · have hks : k < s.size := by omega
            have hkI : (k : Int) < s.size := by omega
            have hkn : (k : Int) < n := by omega
            have hst := preV_step s k hks
            have hmo := preV_mono s (k + 1) n (by omega)
            have hd := HD.out k hlt
            rw [byteAt_eq s k hks] at hd
            obtain ⟨hd0, hd1⟩ := hd
            rw [hU] at hst
            have HST := Lib.hid hst; have HMO := Lib.hid hmo
            clear hU hst hmo
            by_cases hbig : M / 10 < (u : Int)
            · go_wp2_with fail
              go_ret2
              have h1 := HST.out; have h2 := HMO.out
              exact ⟨by rw [HPV.out, if_pos (by have := mt (HIFF.out (preV s n)).2 (by omega); omega)]; rfl, hB⟩
            · go_wp2_with fail
              · have h1 := HST.out; have h2 := HMO.out
                have h3 : M < 10 * (u : Int) + (((s[k]'hks).toNat : Int) - 48) := by assumption
                go_ret2
                exact ⟨by rw [HPV.out, if_pos (by have := mt (HIFF.out (preV s n)).2 (by omega); omega)]; rfl, hB⟩
              · have h1 := HST.out
                have h3 : 10 * (u : Int) + (((s[k]'hks).toNat : Int) - 48) ≤ M := by assumption
                go_roundw
                case rel => exact ⟨k + 1, by go_num, by omega, vint (by rw [h1]; omega), by rw [h1]; omega, hB⟩
                case measure => simp [intOf]; omega
          · have hkn := Lib.hid (show k = n by omega)
            rw [hkn.out] at hU
            have hle := (HIFF.out u).1 hu
            have hnn : 0 ≤ (u : Int) * F := Int.mul_nonneg hu0 (by omega)
            go_wp2_with fail
            go_ret2
            exact ⟨by rw [HPV.out, hU, if_neg (by omega)]; rfl, hB⟩
end Go.Proofs.YtdcceaafiammfaaDoor
