import Derived.Test.YtdcceaafiammfaaDoorProg
import Derived.Test.YtdcceaafiammfaaDoorQm
namespace Go.Proofs.YtdcceaafiammfaaDoor
open Go.RowKit
set_option linter.unusedVariables false
set_option linter.unusedSimpArgs false
set_option maxHeartbeats 4000000 in
set_option maxRecDepth 100000 in
theorem lfigures_calls (s : ByteArray) (w : World) (hs : s.size ≤ 1000) : Calls Tryd.prog 13 #[.string s] w fun e w' => e = .returned (.int .i64 (figN s)) ∧ Below w.heap.size w w' := by
  have hB := Below.refl w.heap.size w
  obtain ⟨n, hn⟩ : ∃ n, figN s = n := ⟨_, rfl⟩
  have hns : n ≤ s.size := by rw [← hn]; exact figN_le s
  have HD := Lib.hid (show ∀ j, j < n → 48 ≤ byteAt s j ∧ byteAt s j ≤ 57 from fun j hj => figN_all s j (by rw [hn]; exact hj))
  have HE := Lib.hid (show n < s.size → ¬ (48 ≤ byteAt s n ∧ byteAt s n ≤ 57) from fun h => by have := figN_stop s (by rw [hn]; exact h); rw [hn] at this; exact this)
  rw [hn]
  clear hn
  go_enter Tryd.func13, Tryd.ntmps13
  go_wp2_with fail
  go_loopw [3] (fun i wr => ∃ k : Nat, i = .int .i64 k ∧ k ≤ n ∧ w = wr) (fun i _ => n - (intOf i).toNat)
  case atStart => exact ⟨0, rfl, by omega, rfl⟩
  case round =>
    obtain ⟨k, rfl, hk, rfl⟩ := hrel
    by_cases hlt : k < n
    · have hks : k < s.size := by omega
      have hkI : (k : Int) < s.size := by omega
      have hd := HD.out k hlt
      rw [byteAt_eq s k hks] at hd
      obtain ⟨hd0, hd1⟩ := hd
      go_wp2_with fail
      go_roundw
      case rel => exact ⟨k + 1, by go_num, by omega, trivial⟩
      case measure => simp [intOf]; omega
    · have hkn := Lib.hid (show k = n by omega)
      by_cases hsz : n < s.size
      · have hks : k < s.size := by omega
        have hkI : (k : Int) < s.size := by omega
        have hd := HE.out hsz
        rw [← hkn.out, byteAt_eq s k hks] at hd
        have HDD := Lib.hid hd
        clear hd
        go_wp2_with fail
        · exfalso; have := HDD.out; omega
        · go_ret
          exact ⟨ret_int (by rw [hkn.out]), hB⟩
        · go_ret
          exact ⟨ret_int (by rw [hkn.out]), hB⟩
      · have hkI : ¬ ((k : Int) < s.size) := by omega
        go_wp2_with fail
        go_ret
        exact ⟨ret_int (by rw [hkn.out]), hB⟩
set_option maxHeartbeats 4000000 in
set_option maxRecDepth 100000 in
theorem qback_law (s : ByteArray) (n : Int) (w : World) (q : QV w) (h1 : -9223372036854775808 ≤ n) (h2 : n ≤ 9223372036854775807) :
    Calls Tryd.prog 4 #[.string s, .int .i64 n] w fun e w' => e = .returned (.bool true) ∧ Below w.heap.size w w' := by
  have hB := Below.refl w.heap.size w
  have Q := Lib.hid q
  have H1 := Lib.hid h1; have H2 := Lib.hid h2
  clear q h1 h2
  by_cases hs : s.size ≤ 200
  · have hs1 := Lib.hid (show s.size ≤ 1000 by omega)
    obtain ⟨T, hT⟩ : ∃ T, textV n = T := ⟨_, rfl⟩
    have HT := Lib.hid hT
    obtain ⟨a, e, PT⟩ := parse_parts T
    have FT := Lib.hid (show T.toList.isEmpty = decide (n < 0) by rw [← hT]; exact text_empty n)
    have FP := Lib.hid (show 0 ≤ n → a = n ∧ e = 0 from fun h => by have := text_parse n h H2.out; rw [hT, PT.out] at this; exact tuple_inj this)
    have FS := Lib.hid (show T.size ≤ 1000 by rw [← hT]; exact text_size n H2.out)
    obtain ⟨b, f, PS⟩ := parse_parts s
    have FB := Lib.hid (show f = 0 ∨ b = 0 from parse_err PS.out)
    clear hT
    have hsI : (s.size : Int) ≤ 200 := by omega
    go_enter Tryd.func4, Tryd.ntmps4
    go_upto_region 5 with (first | (go_at_call 9; refine (qtext_calls _ _ (Q.out.below hB) H1.out H2.out).mono ?_; rintro e w' ⟨rfl, hb⟩; rw [HT.out]; have hB := bl_next hB hb; clear hb) | (go_at_call 7; refine (qparse_calls _ _ (Q.out.below hB) FS.out).mono ?_; rintro e w' ⟨rfl, hb⟩; rw [PT.out]; have hB := bl_next hB hb; clear hb))
    go_cut [43] from 26 to 42 (fun s43 wc => s43 = .bool false ∧ Below w.heap.size w wc)
    case first =>
      by_cases hn : n < 0
      · have hTe : T.toList.isEmpty = true := by rw [FT.out]; simp [hn]
        go_wp2_with fail
        go_meet
        exact ⟨rfl, hB⟩
      · have hTe : T.toList.isEmpty = false := by rw [FT.out]; simp [hn]
        obtain ⟨rfl, rfl⟩ := FP.out (by omega)
        go_wp2_with fail
        go_meet
        exact ⟨rfl, hB⟩
    case rest =>
      obtain ⟨rfl, hB⟩ := hcut
      go_upto_region 8 with (go_at_call 7; refine (qparse_calls _ _ (Q.out.below hB) hs1.out).mono ?_; rintro e w' ⟨rfl, hb⟩; rw [PS.out]; have hB := bl_next hB hb; clear hb)
      by_cases hf : f = 0
      · subst hf
        have BF := back_facts PS.out
        obtain ⟨hb0, hb1, hfig, c, g, hM, hbig, hsm⟩ := BF
        obtain ⟨O, hO⟩ : ∃ O, textV b = O := ⟨_, rfl⟩
        obtain ⟨k, hk⟩ : ∃ k, figN s = k := ⟨_, rfl⟩
        obtain ⟨x, hx⟩ : ∃ x, figN O = x := ⟨_, rfl⟩
        have hks : k ≤ s.size := by rw [← hk]; exact figN_le s
        rw [hO, hk, hx] at hfig
        rw [hk] at hM
        have HM := Lib.hid hM
        have HO := Lib.hid hO; have HK := Lib.hid hk; have HX := Lib.hid hx
        have HOe := Lib.hid (show O.toList.isEmpty = false by rw [← hO, text_empty]; simp; omega)
        have HOs := Lib.hid (show O.size ≤ 1000 by rw [← hO]; exact text_size b hb1)
        have HB0 := Lib.hid hb0; have HB1 := Lib.hid hb1
        have HBIG := Lib.hid hbig; have HSM := Lib.hid hsm
        clear hM hO hk hx hb1 hbig hsm FT FP FS PT HT FB
        have hOe := HOe.out
        have hxk : (x : Int) ≤ k := by omega
        have hkI : (k : Int) ≤ s.size := by omega
        go_upto_region 14 with (first | (go_at_call 9; refine (qtext_calls _ _ (Q.out.below hB) (by have := HB0.out; omega) HB1.out).mono ?_; rintro e w' ⟨rfl, hb⟩; rw [HO.out]; have hB := bl_next hB hb; clear hb) | (go_at_call 13; refine (lfigures_calls _ _ (by first | exact HOs.out | exact hs1.out)).mono ?_; rintro e w' ⟨rfl, hb⟩; (first | rw [HX.out] | rw [HK.out]); have hB := bl_next hB hb; clear hb))
        have hS1 : ¬ (9223372036854775807 < k + 1) := by omega
        have hS2 : ¬ (9223372036854775807 < k + 1 + (s.size - k)) := by omega
        have hBw := Lib.hid hB
        clear hB
        obtain ⟨V, rfl⟩ : ∃ V : World, V = w' := ⟨_, rfl⟩
        have hB := Below.refl V.heap.size V
        have hB := hB.drew
        refine region_seq (fun w' => Below V.heap.size V w') [(0, true), (1, true), (2, true), (3, true), (4, true), (5, true), (6, true), (7, true), (8, true)] (by kernel_rfl) (by kernel_rfl) (fun _ _ _ _ h => h) hB ?_
        try generalize World.drew _ = wS at hB ⊢
        refine seq_take (v := ?_) (a' := ?_) (some 73) rfl rfl (by rfl) ?_ ?_ ?_
        rotate_left; rotate_left
        · intro w' hS; go_simp; with_reducible rfl
        · simp only [Act.put, List.setIfInBounds_toArray, List.set_cons_zero, List.set_cons_succ]; rfl
        refine seq_take (v := ?_) (a' := ?_) (some 74) rfl rfl (by rfl) ?_ ?_ ?_
        rotate_left; rotate_left
        · intro w' hS; go_simp; with_reducible rfl
        · simp only [Act.put, List.setIfInBounds_toArray, List.set_cons_zero, List.set_cons_succ]; rfl
        refine seq_take (v := ?_) (a' := ?_) (some 75) rfl rfl (by rfl) ?_ ?_ ?_
        rotate_left; rotate_left
        · intro w' hS; go_simp; with_reducible rfl
        · simp only [Act.put, List.setIfInBounds_toArray, List.set_cons_zero, List.set_cons_succ]; rfl
        refine seq_take (v := ?_) (a' := ?_) (some 76) rfl rfl (by rfl) ?_ ?_ ?_
        rotate_left; rotate_left
        · intro w' hS; go_simp; with_reducible rfl
        · simp only [Act.put, List.setIfInBounds_toArray, List.set_cons_zero, List.set_cons_succ]; rfl
        refine seq_take (v := ?_) (a' := ?_) (some 77) rfl rfl (by rfl) ?_ ?_ ?_
        rotate_left; rotate_left
        · intro w' hS; go_simp; with_reducible rfl
        · simp only [Act.put, List.setIfInBounds_toArray, List.set_cons_zero, List.set_cons_succ]; rfl
        refine seq_take (v := ?_) (a' := ?_) (some 78) rfl rfl (by rfl) ?_ ?_ ?_
        rotate_left; rotate_left
        · intro w' hS; go_simp; with_reducible rfl
        · simp only [Act.put, List.setIfInBounds_toArray, List.set_cons_zero, List.set_cons_succ]; rfl
        refine seq_take (v := ?_) (a' := ?_) (some 79) rfl rfl (by rfl) ?_ ?_ ?_
        rotate_left; rotate_left
        · intro w' hS; go_simp; with_reducible rfl
        · simp only [Act.put, List.setIfInBounds_toArray, List.set_cons_zero, List.set_cons_succ]; rfl
        refine seq_take (v := ?_) (a' := ?_) (some 80) rfl rfl (by rfl) ?_ ?_ ?_
        rotate_left; rotate_left
        · intro w' hS; go_simp; with_reducible rfl
        · simp only [Act.put, List.setIfInBounds_toArray, List.set_cons_zero, List.set_cons_succ]; rfl
        refine seq_take (v := ?_) (a' := ?_) (some 12) rfl rfl (by rfl) ?_ ?_ ?_
        rotate_left; rotate_left
        · intro w' hS; go_simp; with_reducible rfl
        · simp only [Act.put, List.setIfInBounds_toArray, List.set_cons_zero, List.set_cons_succ]; rfl
        refine seq_done ?_
        have HMs := Lib.hid (show (s.extract 0 k ++ ⟨#[48]⟩ ++ s.extract k s.size).size ≤ 1000 by
          rw [ByteArray.size_append, ByteArray.size_append, ByteArray.size_extract, ByteArray.size_extract]
          have : (⟨#[48]⟩ : ByteArray).size = 1 := rfl
          omega)
        go_upto_region 16 with (go_at_call 7; refine (qparse_calls _ _ (Q.out.below (bl_from hBw.out hB)) HMs.out).mono ?_; rintro e w' ⟨rfl, hb⟩; rw [HM.out]; have hB := bl_next hB hb; clear hb)
        by_cases hbig : 922337203685477580 < b
        · obtain rfl := HBIG.out hbig
          go_wp2_with (go_at_call 6; refine (alive3_calls _ (Q.out.below (bl_from hBw.out hB))).mono ?_; rintro e w' ⟨rfl, hb⟩; have hB := bl_next hB hb; clear hb)
          go_ret
          exact ⟨rfl, bl_from hBw.out hB⟩
        · by_cases hz : b = 0
          · have hzb : (b == 0) = true := by simp [hz]
            have hle : b ≤ 922337203685477580 := by omega
            clear hz
            go_wp2_with (go_at_call 6; refine (alive3_calls _ (Q.out.below (bl_from hBw.out hB))).mono ?_; rintro e w' ⟨rfl, hb⟩; have hB := bl_next hB hb; clear hb)
            go_ret
            exact ⟨rfl, bl_from hBw.out hB⟩
          · have hle : b ≤ 922337203685477580 := by omega
            obtain ⟨rfl, rfl⟩ := HSM.out hz hle
            go_wp2_with (go_at_call 6; refine (alive3_calls _ (Q.out.below (bl_from hBw.out hB))).mono ?_; rintro e w' ⟨rfl, hb⟩; have hB := bl_next hB hb; clear hb)
            go_ret
            exact ⟨rfl, bl_from hBw.out hB⟩
      · obtain rfl := FB.out.resolve_left hf
        have hfb : (f == 0) = false := by simpa using hf
        go_wp2_with (go_at_call 6; refine (alive3_calls _ (Q.out.below hB)).mono ?_; rintro e w' ⟨rfl, hb⟩; have hB := bl_next hB hb; clear hb)
        go_ret
        exact ⟨rfl, hB⟩
  · have hsI : (200 : Int) < s.size := by omega
    go_enter Tryd.func4, Tryd.ntmps4
    go_wp2_with (go_at_call 6; refine (alive3_calls _ (Q.out.below hB)).mono ?_; rintro e w' ⟨rfl, hb⟩; have hB := bl_next hB hb; clear hb)
    go_ret
    exact ⟨rfl, hB⟩
theorem quantityBackWalk {W : World} (q : QV W) (s : ByteArray) (v : Value) (hs : kStr.K W anyB s [v]) (n : Int) (v' : Value) (hn : (kInt .i64).K W anyB n [v']) :
    Calls Tryd.prog 4 #[v, v'] W fun e w' => e = .returned (.bool true) ∧ Below W.heap.size W w' := by
  have hs : [v] = [.string s] := hs
  obtain ⟨hn, wn⟩ := hn
  obtain ⟨rfl⟩ : v = .string s := by simpa using hs
  obtain ⟨rfl⟩ : v' = .int .i64 n := by simpa using hn
  have a := wf_i64' wn
  exact qback_law s n W q a.1 a.2
end Go.Proofs.YtdcceaafiammfaaDoor
