import Derived.Test.YthaipgbjnigkhaaMkh
namespace Go.Proofs.Ythaipgbjnigkhaa
open Go.RowKit Go.Shelf Go.Maps
set_option linter.unusedVariables false
set_option linter.unusedSimpArgs false
set_option linter.unusedSectionVars false
set_option maxRecDepth 100000 in
set_option maxHeartbeats 4000000 in
theorem rclear_calls (w : World) (N : Nodes) {v : Value} (hv : StrS w v (allN N)) (hl : N.length ≤ 100000) (s : ByteArray) :
    Calls Try.prog 54 #[v, .string s] w fun e w' => ∃ u, e = .returned (.tuple #[u, .int .i64 (clearN N s).1]) ∧ StrS w' u (allN (clearN N s).2) ∧ Below w.heap.size w w' := by
  obtain ⟨av, cv, rfl⟩ := hv.form
  have hB := Below.refl w.heap.size w
  have HV := Lib.hid hv
  clear hv
  cases hh : hasN N s with
  | false =>
    have HH := Lib.hid ((inL_all N s).trans hh)
    have HC := Lib.hid (show clearN N s = (4, N) by unfold clearN; rw [hh]; rfl)
    clear hh
    go_enter Try.func54, Try.ntmps54
    go_wp2_with fail
    refine (in_calls _ HV.out s (by rw [allN_length]; omega)).mono ?_
    rintro e w1 ⟨rfl, hb⟩
    rw [HH.out]
    go_wp2_with fail
    refine bodyPost_ret (v := .tuple #[.slice av (allN N).length cv, .int .i64 4]) (by simp [results, Try.results54, go_sem]) rfl ⟨_, by rw [HC.out], by rw [HC.out]; exact HV.out.below hb, hb⟩
  | true =>
    have HH := Lib.hid ((inL_all N s).trans hh)
    have HC := Lib.hid (show clearN N s = (0, delN N s) by unfold clearN; rw [hh]; rfl)
    clear hh
    rw [allN_length] at HV ⊢
    go_enter Try.func54, Try.ntmps54
    go_wp2_with fail
    refine (in_calls (l := allN N) _ HV.out s (by rw [allN_length]; omega)).mono ?_
    rintro e w1 ⟨rfl, hb⟩
    rw [HH.out]
    have hB := bl_next hB hb
    clear hb
    go_wp2_with fail
    go_loopw [7, 8] (fun s7 i wr => ∃ (k : Nat) (u : Value), (i = .int .i64 k ∧ s7 = u) ∧ k ≤ N.length ∧ Hid (wr.ownsRow w.heap.size 9 1 u (allN (delTo N s k)).length (strC (allN (delTo N s k)))) ∧ Below w.heap.size w wr) (fun _ i _ => N.length - (intOf i).toNat)
    case atStart => exact ⟨0, _, ⟨rfl, rfl⟩, Nat.zero_le _, Lib.hid (World.ownsRow_nil _ _ _ _), hB⟩
    case round =>
      clear hB
      obtain ⟨k, u, ⟨rfl, rfl⟩, hk, HROW, hB⟩ := hrel
      by_cases hkl : k < N.length
      · have hkI : (k : Int) < N.length := by omega
        have hka : k < (allN N).length := by rw [allN_length]; exact hkl
        obtain ⟨b1, o1, d1, he, q⟩ := HV.out.at' hka
        rw [allN_length] at he
        cases he
        rw [allN_at hkl] at q
        have q := cb hB q
        have HN := Lib.hid (delTo_succ N s k hkl)
        obtain ⟨x, hx⟩ : ∃ x, N[k]'hkl = x := ⟨_, rfl⟩
        rw [hx] at q HN
        have hlen := delTo_len N s k
        obtain ⟨fn, hfn⟩ : ∃ fl, delTo N s k = fl := ⟨_, rfl⟩
        rw [hfn] at HN HROW hlen
        obtain ⟨fl, hfl⟩ : ∃ fl, allN fn = fl := ⟨_, rfl⟩
        have hlen : fl.length ≤ k := by rw [← hfl, allN_length]; exact hlen
        rw [hfl] at HROW
        have HFL := Lib.hid hfl
        have hbz := hB.size
        clear hx hfn hfl
        by_cases h2 : x.1 = s
        · have hbf : (x.1.toList == s.toList) = true := by rw [beq_str]; simpa using h2
          have hbn : x.1.toList = s.toList := by rw [h2]
          have HN2 := Lib.hid (show delTo N s (k + 1) = fn by rw [HN.out, if_pos h2])
          clear h2 HN
          go_wp2_with fail
          go_roundw
          case rel => exact ⟨k + 1, _, ⟨by simp, rfl⟩, by omega, Lib.hid (by rw [HN2.out, HFL.out]; exact HROW.out), hB⟩
          case measure => simp [intOf]; omega
        · have hbf := beqF h2
          have hbn := neF h2
          have HN2 := Lib.hid (show delTo N s (k + 1) = fn ++ [x] by rw [HN.out, if_neg h2])
          clear h2 HN
          go_wp2_with (at_builtin; refine app_str rfl (.tmp 27) (.tmp 32) rfl w.heap.size 9 _ fl x.1 rfl HROW.out 1 rfl hbz (by omega) ?_; intro g2 cap2 w5 hown hk4 hat; have HR3 := Lib.hid hown; have hB3 : Below w.heap.size w w5 := hB.trans (hk4.below hB.size (fun q hq => (rw_type HROW.out hq).1)); clear hown hk4 hat)
          go_roundw
          case rel => exact ⟨k + 1, _, ⟨by simp, rfl⟩, by omega, Lib.hid (by rw [HN2.out, allN_app, HFL.out]; exact HR3.out), hB3⟩
          case measure => simp [intOf]; omega
      · obtain rfl : k = N.length := by omega
        have hrow := HROW.out
        rw [delTo_all] at hrow
        have HX := Lib.hid hrow
        clear hrow HROW
        go_wp2_with fail
        refine bodyPost_ret (v := .tuple #[u7, .int .i64 0]) (by simp [results, Try.results54, go_sem]) rfl ⟨_, by rw [HC.out], by rw [HC.out]; exact strS_of HX.out, hB⟩
end Go.Proofs.Ythaipgbjnigkhaa
