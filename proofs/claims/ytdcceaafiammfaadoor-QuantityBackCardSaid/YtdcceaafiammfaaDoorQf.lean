import Derived.Test.YtdcceaafiammfaaDoorProg
import Derived.Test.YtdcceaafiammfaaDoorQe
namespace Go.Proofs.YtdcceaafiammfaaDoor
open Go.RowKit
set_option linter.unusedVariables false
set_option linter.unusedSimpArgs false
theorem puint_ok (P : ByteArray) (u : Nat) (w : World) (hs : P.size ≤ 1000) (h : Lib.parseUintB 64 P.data.toList = .ok u) : Calls Tryd.prog 16 #[.string P, .int .i64 10, .int .i64 64] w fun e w' => e = .returned (.tuple #[.int .u64 u, .nilIface]) ∧ Below w.heap.size w w' :=
  (Tryd.strconv_ParseUint_10_at64_ok P (by omega) u h w).mono fun e w' ⟨he, hw⟩ => ⟨he, by rcases hw with rfl | rfl; exact Below.refl _ _; exact Lib.bytesWorld_below _ _ _⟩
theorem puint_over (P : ByteArray) (w : World) (q : QV w) (hs : P.size ≤ 1000) (h : Lib.parseUintB 64 P.data.toList = .range) : Calls Tryd.prog 16 #[.string P, .int .i64 10, .int .i64 64] w fun e w' => (∃ t p, e = .returned (.tuple #[.int .u64 18446744073709551615, .iface t p])) ∧ Below w.heap.size w w' := by
  obtain ⟨tp, p, hv⟩ := q.err
  exact (Tryd.strconv_ParseUint_10_at64_range_var P (by omega) h tp p w hv).mono fun e w' ⟨N, he, _, _, hb⟩ => ⟨⟨_, _, he⟩, hb⟩
theorem mul_calls (x y : Nat) (w : World) (hx : x < 18446744073709551616) (hy : y < 18446744073709551616) : Calls Tryd.prog 17 #[.int .u64 x, .int .u64 y] w fun e w' => e = .returned (.tuple #[.int .u64 ((x * y / 18446744073709551616 : Nat) : Int), .int .u64 ((x * y % 18446744073709551616 : Nat) : Int)]) ∧ Below w.heap.size w w' :=
  (Tryd.bits_Mul64 x y hx hy w).mono fun e w' ⟨he, hw⟩ => ⟨he, by rw [hw]; exact Below.refl _ _⟩
set_option maxHeartbeats 4000000 in
set_option maxRecDepth 100000 in
theorem qparse_calls (s : ByteArray) (w : World) (q : QV w) (hs : s.size ≤ 1000) : Calls Tryd.prog 7 #[.string s] w fun e w' => e = .returned (parseV s) ∧ Below w.heap.size w w' := by
  have hB := Below.refl w.heap.size w
  obtain ⟨n, hn⟩ : ∃ n, figN s = n := ⟨_, rfl⟩
  have hns : n ≤ s.size := by rw [← hn]; exact figN_le s
  obtain ⟨F, hF⟩ : ∃ F, facV (s.extract n s.size).toList = F := ⟨_, rfl⟩
  have hFr : F = 0 ∨ (1 ≤ F ∧ F ≤ 1099511627776) := by rw [← hF]; exact facV_range _
  obtain ⟨U, hU⟩ : ∃ U, valA 0 (s.extract 0 n).toList = U := ⟨_, rfl⟩
  obtain ⟨bad, hbad⟩ : ∃ bad, bad = (decide (n = 0) || decide (F = 0) || (decide (byteAt s 0 = 48) && decide (1 < n))) := ⟨_, rfl⟩
  have HP := Lib.hid (show parseV s = if bad then .tuple #[.int .i64 0, .int .i64 2] else if 9223372036854775807 < (U : Int) * F then .tuple #[.int .i64 0, .int .i64 3] else .tuple #[.int .i64 ((U : Int) * F), .int .i64 0] by
    rw [hbad]; unfold parseV badV quanV; rw [hn, hF, hU])
  have HOK := Lib.hid (show n ≠ 0 → U ≤ 18446744073709551615 → Lib.parseUintB 64 (s.extract 0 n).data.toList = .ok U from fun h0 h => by rw [← hU, ← hn]; exact parse_ok (by rw [hn, hU]; exact h) (by rw [hn]; exact h0))
  have HOV := Lib.hid (show n ≠ 0 → ¬ U ≤ 18446744073709551615 → Lib.parseUintB 64 (s.extract 0 n).data.toList = .range from fun h0 h => by rw [← hn]; exact parse_over (by rw [hn, hU]; exact h) (by rw [hn]; exact h0))
  have HPS := Lib.hid (show (s.extract 0 n).size ≤ 1000 by simp; omega)
  have HN := Lib.hid hn; have HF := Lib.hid hF; have HBAD := Lib.hid hbad
  clear hn hF hU hbad
  have hnsI : (n : Int) ≤ s.size := by omega
  have Q := Lib.hid q
  clear q
  go_enter Tryd.func7, Tryd.ntmps7
  go_upto_region 3 with (first | (go_at_call 15; refine (qfigures_calls s _ hs).mono ?_; rintro e w' ⟨rfl, hb⟩; rw [HN.out]; have hB := bl_next hB hb; clear hb) | (go_at_call 11; refine (qfactor_calls _ _ (Q.out.below hB)).mono ?_; rintro e w' ⟨rfl, hb⟩; rw [HF.out]; have hB := bl_next hB hb; clear hb))
  go_cut [30] from 16 to 29 (fun s30 wc => s30 = .bool bad ∧ Below w.heap.size w wc)
  case first =>
    by_cases hn0 : n = 0
    · have hnb : ((n : Int) == 0) = true := by simp; omega
      have HX := Lib.hid (show bad = true by rw [HBAD.out, hn0]; rfl)
      clear hn0
      go_wp2_with fail
      go_meet
      exact ⟨vbool HX.out.symm, hB⟩
    · have hnI : ¬ ((n : Int) = 0) := by omega
      by_cases hF0 : F = 0
      · have hFb : (F == 0) = true := by simp [hF0]
        have HX := Lib.hid (show bad = true by rw [HBAD.out, hF0]; simp)
        clear hF0 hFr
        go_wp2_with fail
        go_meet
        exact ⟨vbool HX.out.symm, hB⟩
      · have h0 : 0 < s.size := by omega
        have hb0 := byteAt_eq s 0 h0
        have HX := Lib.hid (show bad = (decide (byteAt s 0 = 48) && decide (1 < n)) by rw [HBAD.out]; simp [hn0, hF0])
        go_wp2_with fail
        · have h := ‹((s[0]'h0).toNat : Int) = 48›
          go_meet
          exact ⟨vbool (by rw [HX.out, hb0]; (try rw [show ((n : Int) == 0) = false by simpa using hn0]); (try rw [show (F == 0) = false by simpa using hF0]); (try rw [show decide (1 < (n : Int)) = decide (1 < n) from decide_eq_decide.2 (by omega)]); simp [h]), hB⟩
        · have h := ‹¬ ((s[0]'h0).toNat : Int) = 48›
          go_meet
          exact ⟨vbool (by rw [HX.out, hb0]; (try rw [show ((n : Int) == 0) = false by simpa using hn0]); (try rw [show (F == 0) = false by simpa using hF0]); (try rw [show decide (1 < (n : Int)) = decide (1 < n) from decide_eq_decide.2 (by omega)]); simp [h]), hB⟩
  case rest =>
    obtain ⟨rfl, hB⟩ := hcut
    cases bad with
    | true =>
      go_wp2_with fail
      go_ret2
      exact ⟨by rw [HP.out]; rfl, hB⟩
    | false =>
      have hn0 : n ≠ 0 := fun e => by have := HBAD.out; rw [e] at this; simp at this
      have hF1 : 1 ≤ F := by rcases hFr with e | e; have := HBAD.out; rw [e] at this; simp at this; exact e.1
      obtain ⟨f, rfl⟩ : ∃ f : Nat, F = (f : Int) := ⟨F.toNat, by omega⟩
      have hf2 : f < 18446744073709551616 := by omega
      have hfi : (0 : Int) ≤ f ∧ (f : Int) ≤ 1099511627776 := by omega
      obtain ⟨hfi0, hfi1⟩ := hfi
      have hprod := Int.natCast_mul U f
      clear hFr HF HN
      by_cases hU : U ≤ 18446744073709551615
      · have HO := Lib.hid (HOK.out hn0 hU)
        obtain ⟨V, hV⟩ : ∃ V, U * f = V := ⟨_, rfl⟩
        have HVV := Lib.hid hV
        have HPV := Lib.hid (show parseV s = if 9223372036854775807 < (V : Int) then .tuple #[.int .i64 0, .int .i64 3] else .tuple #[.int .i64 (V : Int), .int .i64 0] by rw [HP.out, if_neg (by simp), ← hprod, hV])
        clear HP hprod hV
        obtain ⟨hi, hhi⟩ : ∃ hi, V / 18446744073709551616 = hi := ⟨_, rfl⟩
        obtain ⟨lo, hlo⟩ : ∃ lo, V % 18446744073709551616 = lo := ⟨_, rfl⟩
        have HHI := Lib.hid hhi; have HLO := Lib.hid hlo
        have HVHL := Lib.hid (show V = hi * 18446744073709551616 + lo ∧ lo < 18446744073709551616 by omega)
        clear hhi hlo
        have hlo0 : (0 : Int) ≤ lo ∧ (lo : Int) ≤ 18446744073709551615 := by have := HVHL.out; omega
        obtain ⟨hlo0, hlo1⟩ := hlo0
        go_wp2_with (first | (go_at_call 16; refine (puint_ok _ U _ HPS.out HO.out).mono ?_; rintro e w' ⟨rfl, hb⟩; have hB := bl_next hB hb; clear hb) | (go_at_call 17; refine (mul_calls U f _ (by omega) hf2).mono ?_; rintro e w' ⟨rfl, hb⟩; rw [HVV.out, HHI.out, HLO.out]; have hB := bl_next hB hb; clear hb))
        · have h1 : 9223372036854775807 < (lo : Int) := by assumption
          go_ret2
          exact ⟨by rw [HPV.out, if_pos (by have := HVHL.out; omega)]; rfl, hB⟩
        · have h1 : hi = 0 := by assumption
          have h2 : (lo : Int) ≤ 9223372036854775807 := by assumption
          go_ret2
          exact ⟨by rw [HPV.out, if_neg (by have := HVHL.out; omega), show V = lo by have := HVHL.out; omega]; rfl, hB⟩
        · have h1 : ¬ hi = 0 := by assumption
          go_ret2
          exact ⟨by rw [HPV.out, if_pos (by have := HVHL.out; omega)]; rfl, hB⟩
      · have HO := Lib.hid (HOV.out hn0 hU)
        have HPV := Lib.hid (show parseV s = .tuple #[.int .i64 0, .int .i64 3] by
          rw [HP.out, if_neg (by simp), if_pos (by rw [← hprod]; have := Nat.mul_le_mul (show 18446744073709551616 ≤ U by omega) (show 1 ≤ f by omega); omega)])
        clear HP hprod
        obtain ⟨hi, hhi⟩ : ∃ hi, 18446744073709551615 * f / 18446744073709551616 = hi := ⟨_, rfl⟩
        obtain ⟨lo, hlo⟩ : ∃ lo, 18446744073709551615 * f % 18446744073709551616 = lo := ⟨_, rfl⟩
        have HHI := Lib.hid hhi; have HLO := Lib.hid hlo
        clear hhi hlo
        go_wp2_with (first | (go_at_call 16; refine (puint_over _ _ (Q.out.below hB) HPS.out HO.out).mono ?_; rintro e w' ⟨⟨te, pe, rfl⟩, hb⟩; have hB := bl_next hB hb; clear hb) | (go_at_call 17; refine (mul_calls 18446744073709551615 f _ (by omega) hf2).mono ?_; rintro e w' ⟨rfl, hb⟩; rw [HHI.out, HLO.out]; have hB := bl_next hB hb; clear hb))
        go_ret2
        exact ⟨by rw [HPV.out]; rfl, hB⟩
end Go.Proofs.YtdcceaafiammfaaDoor
