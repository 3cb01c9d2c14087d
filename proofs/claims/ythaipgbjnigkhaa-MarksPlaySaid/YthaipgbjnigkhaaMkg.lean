import Derived.Test.YthaipgbjnigkhaaMkf
import Derived.Test.YthaipgbjnigkhaaTtd
namespace Go.Proofs.Ythaipgbjnigkhaa
open Go.RowKit Go.Shelf Go.Maps
set_option linter.unusedVariables false
set_option linter.unusedSimpArgs false
set_option linter.unusedSectionVars false
theorem inL_all (N : Nodes) (s : ByteArray) : inL (allN N) s = hasN N s := by
  rw [Bool.eq_iff_iff, inL_iff, mem_all]
theorem allN_app (A B : Nodes) : allN (A ++ B) = allN A ++ allN B := by simp [allN]
set_option maxRecDepth 100000 in
set_option maxHeartbeats 8000000 in
theorem rmark_calls (w : World) (N : Nodes) {v : Value} (hv : StrS w v (allN N)) (hl : N.length ≤ 100000) (s : ByteArray) (hs : s.size ≤ 1000) (hsz : ∀ x ∈ allN N, x.size ≤ 1000) :
    Calls Try.prog 86 #[v, .string s] w fun e w' => ∃ u, e = .returned u ∧ StrS w' u (allN (markN N s)) ∧ Below w.heap.size w w' := by
  obtain ⟨av, cv, rfl⟩ := hv.form
  have hB := Below.refl w.heap.size w
  have HV := Lib.hid hv
  have HSZ := Lib.hid hsz
  clear hv hsz
  cases hh : hasN N s with
  | true =>
    have HH := Lib.hid ((inL_all N s).trans hh)
    have HM := Lib.hid (show markN N s = N by unfold markN; rw [hh]; rfl)
    clear hh
    go_enter Try.func86, Try.ntmps86
    go_wp2_with fail
    refine (in_calls _ HV.out s (by rw [allN_length]; omega)).mono ?_
    rintro e w1 ⟨rfl, hb⟩
    rw [HH.out]
    go_wp2_with fail
    go_ret
    exact ⟨_, rfl, by rw [HM.out]; exact HV.out.below hb, hb⟩
  | false =>
    have HH := Lib.hid ((inL_all N s).trans hh)
    have HM := Lib.hid (show markN N s = insN N s ⟨#[]⟩ by unfold markN; rw [hh]; rfl)
    clear hh
    rw [allN_length] at HV ⊢
    go_enter Try.func86, Try.ntmps86
    go_wp2_with fail
    refine (in_calls (l := allN N) _ HV.out s (by rw [allN_length]; omega)).mono ?_
    rintro e w1 ⟨rfl, hb⟩
    rw [HH.out]
    have hB := bl_next hB hb
    clear hb
    go_wp2_with fail
    go_loopw [6, 7, 8] (fun s8 s9 i wr => ∃ (k : Nat) (u : Value) (d : Bool), (i = .int .i64 k ∧ s8 = u ∧ s9 = .bool d) ∧ k ≤ N.length ∧ Hid (doneTo N s k = d) ∧ Hid (wr.ownsRow w.heap.size 9 1 u (allN (outTo N s ⟨#[]⟩ k)).length (strC (allN (outTo N s ⟨#[]⟩ k)))) ∧ Below w.heap.size w wr) (fun _ _ i _ => N.length - (intOf i).toNat)
    case atStart => exact ⟨0, _, false, ⟨rfl, rfl, rfl⟩, Nat.zero_le _, Lib.hid (outTo_zero N s ⟨#[]⟩).2, Lib.hid (by rw [(outTo_zero N s ⟨#[]⟩).1]; exact World.ownsRow_nil _ _ _ _), hB⟩
    case round =>
      clear hB
      obtain ⟨k, u, d, ⟨rfl, rfl, rfl⟩, hk, HDN, HROW, hB⟩ := hrel
      by_cases hkl : k < N.length
      · have hkI : (k : Int) < N.length := by omega
        have hka : k < (allN N).length := by rw [allN_length]; exact hkl
        obtain ⟨b1, o1, d1, he, q1⟩ := HV.out.at' hka
        rw [allN_length] at he
        cases he
        have hxs := HSZ.out _ (List.getElem_mem hka)
        rw [allN_at hkl] at q1 hxs
        have HN1 := Lib.hid (outTo_done (p := ⟨#[]⟩) hkl (s := s))
        have HN2 := Lib.hid (outTo_here (p := ⟨#[]⟩) hkl (s := s))
        have HN3 := Lib.hid (outTo_not (p := ⟨#[]⟩) hkl (s := s))
        obtain ⟨x, hx⟩ : ∃ x, N[k]'hkl = x := ⟨_, rfl⟩
        rw [hx] at q1 hxs HN1 HN2 HN3
        have hlen := outTo_len N s ⟨#[]⟩ k
        obtain ⟨fn, hfn⟩ : ∃ fl, outTo N s ⟨#[]⟩ k = fl := ⟨_, rfl⟩
        rw [hfn] at HN1 HN2 HN3 HROW hlen
        obtain ⟨fl, hfl⟩ : ∃ fl, allN fn = fl := ⟨_, rfl⟩
        have hlen : fl.length ≤ k + 1 := by rw [← hfl, allN_length]; exact hlen
        rw [hfl] at HROW
        have HFL := Lib.hid hfl
        clear hx hfn hfl
        obtain ⟨lt, hlt⟩ : ∃ b, ltB s x.1 = b := ⟨_, rfl⟩
        have HLT := Lib.hid hlt
        have Q1 := Lib.hid q1
        clear hlt
        have q := cb hB q1
        clear q1
        go_wp2_with fail
        refine (before_calls s x.1 _ (by omega) (by omega)).mono ?_
        rintro e w' ⟨rfl, nn, rfl⟩
        rw [show Op.bytesLess s.toList x.1.toList = lt from HLT.out]
        have hB := bl_dN hB nn
        have q := cb hB Q1.out
        have HROW2 := Lib.hid (rw_below HROW.out (bl_dN (Below.refl _ _) nn))
        clear HROW
        have hbz := hB.size
        cases d with
        | true =>
          obtain ⟨e1, e2⟩ := HN1.out HDN.out
          have E1 := Lib.hid e1; have E2 := Lib.hid e2
          clear e1 e2 HN1 HN2 HN3 HDN
          go_wp2_with (at_builtin; refine app_str rfl (.tmp 36) (.tmp 41) rfl w.heap.size 9 _ fl x.1 rfl HROW2.out 1 rfl hbz (by first | omega | (simp only [List.length_append, List.length_singleton]; omega)) ?_; intro g2 cap2 w5 hown hk4 hat; have HR3 := Lib.hid hown; have hB3 : Below w.heap.size w w5 := Below.trans hB (hk4.below (Below.size hB) (fun q hq => (rw_type HROW2.out hq).1)); have hz3 := Below.size hB3; clear hown hk4 hat)
          go_roundw
          case rel => exact ⟨k + 1, _, true, ⟨by simp, rfl, rfl⟩, by omega, E1, Lib.hid (by rw [E2.out, allN_app, HFL.out]; exact HR3.out), hB3⟩
          case measure => simp [intOf]; omega
        | false =>
          cases lt with
          | false =>
            obtain ⟨e1, e2⟩ := HN3.out HDN.out HLT.out
            have E1 := Lib.hid e1; have E2 := Lib.hid e2
            clear e1 e2 HN1 HN2 HN3 HDN
            go_wp2_with (at_builtin; refine app_str rfl (.tmp 36) (.tmp 41) rfl w.heap.size 9 _ fl x.1 rfl HROW2.out 1 rfl hbz (by first | omega | (simp only [List.length_append, List.length_singleton]; omega)) ?_; intro g2 cap2 w5 hown hk4 hat; have HR3 := Lib.hid hown; have hB3 : Below w.heap.size w w5 := Below.trans hB (hk4.below (Below.size hB) (fun q hq => (rw_type HROW2.out hq).1)); have hz3 := Below.size hB3; clear hown hk4 hat)
            go_roundw
            case rel => exact ⟨k + 1, _, false, ⟨by simp, rfl, rfl⟩, by omega, E1, Lib.hid (by rw [E2.out, allN_app, HFL.out]; exact HR3.out), hB3⟩
            case measure => simp [intOf]; omega
          | true =>
            obtain ⟨e1, e2⟩ := HN2.out HDN.out HLT.out
            have E1 := Lib.hid e1; have E2 := Lib.hid e2
            clear e1 e2 HN1 HN2 HN3 HDN
            go_wp2_with (first | (at_builtin; refine app_str rfl (.tmp 32) (.tmp 34) rfl w.heap.size 9 _ fl s rfl HROW2.out 1 rfl hbz (by first | omega | (simp only [List.length_append, List.length_singleton]; omega)) ?_; intro g2 cap2 w5 hown hk4 hat; have HR3 := Lib.hid hown; have hB3 : Below w.heap.size w w5 := Below.trans hB (hk4.below (Below.size hB) (fun q hq => (rw_type HROW2.out hq).1)); have hz3 := Below.size hB3; clear hown hk4 hat q; have q := cb hB3 Q1.out) | (at_builtin; refine app_str rfl (.tmp 36) (.tmp 41) rfl w.heap.size 9 _ (fl ++ [s]) x.1 rfl HR3.out 1 rfl hz3 (by first | omega | (simp only [List.length_append, List.length_singleton]; omega)) ?_; intro g2 cap2 w5 hown hk4 hat; have HR4 := Lib.hid hown; have hB4 : Below w.heap.size w w5 := Below.trans hB3 (hk4.below (Below.size hB3) (fun q hq => (rw_type HR3.out hq).1)); have hz4 := Below.size hB4; clear hown hk4 hat))
            go_roundw
            case rel => exact ⟨k + 1, _, true, ⟨by simp, rfl, rfl⟩, by omega, E1, Lib.hid (by rw [E2.out, allN_app, allN_app, HFL.out]; have q := HR4.out; rw [show (fl ++ [s]).length = fl.length + 1 by simp] at q; exact q), hB4⟩
            case measure => simp [intOf]; omega
      · obtain rfl : k = N.length := by omega
        have hbz := hB.size
        have hlen := outTo_len N s ⟨#[]⟩ N.length
        cases d with
        | true =>
          have hrow := HROW.out
          rw [outTo_all_done HDN.out] at hrow
          have HX := Lib.hid hrow
          clear hrow HROW
          go_wp2_with fail
          go_ret
          exact ⟨_, rfl, by rw [HM.out]; exact strS_of HX.out, hB⟩
        | false =>
          have HE := Lib.hid (outTo_all_not (p := ⟨#[]⟩) HDN.out)
          obtain ⟨fn, hfn⟩ : ∃ fl, outTo N s ⟨#[]⟩ N.length = fl := ⟨_, rfl⟩
          rw [hfn] at HROW HE hlen
          obtain ⟨fl, hfl⟩ : ∃ fl, allN fn = fl := ⟨_, rfl⟩
          have hlen : fl.length ≤ N.length + 1 := by rw [← hfl, allN_length]; exact hlen
          rw [hfl] at HROW
          have HFL := Lib.hid hfl
          clear hfn hfl
          go_wp2_with (at_builtin; refine app_str rfl (.tmp 45) (.tmp 47) rfl w.heap.size 9 _ fl s rfl HROW.out 1 rfl hbz (by first | omega | (simp only [List.length_append, List.length_singleton]; omega)) ?_; intro g2 cap2 w5 hown hk4 hat; have HR3 := Lib.hid hown; have hB3 : Below w.heap.size w w5 := Below.trans hB (hk4.below (Below.size hB) (fun q hq => (rw_type HROW.out hq).1)); have hz3 := Below.size hB3; clear hown hk4 hat)
          go_ret
          exact ⟨_, rfl, by rw [HM.out, ← HE.out, allN_app, HFL.out]; exact strS_of HR3.out, hB3⟩
end Go.Proofs.Ythaipgbjnigkhaa
