import Derived.Test.YthaipgbjnigkhaaMk1
import Derived.Test.YthaipgbjnigkhaaTt1
namespace Go.Proofs.Ythaipgbjnigkhaa
open Go.RowKit Go.Shelf Go.Maps
set_option linter.unusedVariables false
set_option linter.unusedSimpArgs false
set_option linter.unusedSectionVars false
theorem inL_all (N : Nodes) (s : ByteArray) : inL (allN N) s = hasN N s := by
  rw [Bool.eq_iff_iff, inL_iff, mem_all]
theorem allN_app (A B : Nodes) : allN (A ++ B) = allN A ++ allN B := by simp [allN]
set_option maxRecDepth 100000 in
set_option maxHeartbeats 8000000 in
theorem rmark_calls (w : World) (N : Nodes) {v : Value} (hv : StrS w v (allN N)) (hl : N.length ≤ 100000) (s : ByteArray) (hs : s.size ≤ 1000) (hsz : ∀ x ∈ allN N, x.size ≤ 1000) :
    Calls Try.prog 86 #[v, .string s] w fun e w' => ∃ u, e = .returned u ∧ StrS w' u (allN (markN N s)) ∧ Below w.heap.size w w' := by
  obtain ⟨av, cv, rfl⟩ := hv.form
  have hB := Below.refl w.heap.size w
  have HV := Lib.hid hv
  have HSZ := Lib.hid hsz
  clear hv hsz
  cases hh : hasN N s with
  | true =>
    have HH := Lib.hid ((inL_all N s).trans hh)
    have HM := Lib.hid (show markN N s = N by unfold markN; rw [hh]; rfl)
    clear hh
    go_enter Try.func86, Try.ntmps86
    go_wp2_with fail
    refine (in_calls _ HV.out s (by rw [allN_length]; omega)).mono ?_
    rintro e w1 ⟨rfl, hb⟩
    rw [HH.out]
    go_wp2_with fail
    go_ret
    exact ⟨_, rfl, by rw [HM.out]; exact HV.out.below hb, hb⟩
  | false =>
    have HH := Lib.hid ((inL_all N s).trans hh)
    have HM := Lib.hid (show markN N s = insN N s ⟨#[]⟩ by unfold markN; rw [hh]; rfl)
    clear hh
    rw [allN_length] at HV ⊢
    go_enter Try.func86, Try.ntmps86
    go_wp2_with fail
    refine (in_calls (l := allN N) _ HV.out s (by rw [allN_length]; omega)).mono ?_
    rintro e w1 ⟨rfl, hb⟩
    rw [HH.out]
    have hB := bl_next hB hb
    clear hb
    go_wp2_with fail
    go_loopw [6, 7, 8] (fun s8 s9 i wr => ∃ (k : Nat) (u : Value) (d : Bool), (i = .int .i64 k ∧ s8 = u ∧ s9 = .bool d) ∧ k ≤ N.length ∧ Hid (doneTo N s k = d) ∧ Hid (wr.ownsRow w.heap.size 9 1 u (allN (outTo N s ⟨#[]⟩ k)).length (strC (allN (outTo N s ⟨#[]⟩ k)))) ∧ Below w.heap.size w wr) (fun _ _ i _ => N.length - (intOf i).toNat)
    case atStart => exact ⟨0, _, false, ⟨rfl, rfl, rfl⟩, Nat.zero_le _, Lib.hid (outTo_zero N s ⟨#[]⟩).2, Lib.hid (by rw [(outTo_zero N s ⟨#[]⟩).1]; exact World.ownsRow_nil _ _ _ _), hB⟩
    case round =>
      clear hB
      obtain ⟨k, u, d, ⟨rfl, rfl, rfl⟩, hk, HDN, HROW, hB⟩ := hrel
      by_cases hkl : k < N.length
      · have hkI : (k : Int) < N.length := by omega
        have hka : k < (allN N).length := by rw [allN_length]; exact hkl
        obtain ⟨b1, o1, d1, he, q1⟩ := HV.out.at' hka
        rw [allN_length] at he
        cases he
        have hxs := HSZ.out _ (List.getElem_mem hka)
        rw [allN_at hkl] at q1 hxs
        have HN1 := Lib.hid (outTo_done (p := ⟨#[]⟩) hkl (s := s))
        have HN2 := Lib.hid (outTo_here (p := ⟨#[]⟩) hkl (s := s))
        have HN3 := Lib.hid (outTo_not (p := ⟨#[]⟩) hkl (s := s))
        obtain ⟨x, hx⟩ : ∃ x, N[k]'hkl = x := ⟨_, rfl⟩
        rw [hx] at q1 hxs HN1 HN2 HN3
        have hlen := outTo_len N s ⟨#[]⟩ k
        obtain ⟨fn, hfn⟩ : ∃ fl, outTo N s ⟨#[]⟩ k = fl := ⟨_, rfl⟩
        rw [hfn] at HN1 HN2 HN3 HROW hlen
        obtain ⟨fl, hfl⟩ : ∃ fl, allN fn = fl := ⟨_, rfl⟩
        have hlen : fl.length ≤ k + 1 := by rw [← hfl, allN_length]; exact hlen
        rw [hfl] at HROW
        have HFL := Lib.hid hfl
        clear hx hfn hfl
        obtain ⟨lt, hlt⟩ : ∃ b, ltB s x.1 = b := ⟨_, rfl⟩
        have HLT := Lib.hid hlt
        have Q1 := Lib.hid q1
        clear hlt
        have q := cb hB q1
        clear q1
        go_wp2_with fail
        refine (before_calls s x.1 _ (by omega) (by omega)).mono ?_
        rintro e w' ⟨rfl, nn, rfl⟩
        rw [show Op.bytesLess s.toList x.1.toList = lt from HLT.out]
        have hB := bl_dN hB nn
        have q := cb hB Q1.out
        have HROW2 := Lib.hid (rw_below HROW.out (bl_dN (Below.refl _ _) nn))
        clear HROW
        have hbz := hB.size
        cases d with
        | true =>
          obtain ⟨e1, e2⟩ := HN1.out HDN.out
          have E1 := Lib.hid e1; have E2 := Lib.hid e2
          clear e1 e2 HN1 HN2 HN3 HDN
          go_wp2_with (at_builtin; refine app_str rfl (.tmp 36) (.tmp 41) rfl w.heap.size 9 _ fl x.1 rfl HROW2.out 1 rfl hbz (by first | omega | (simp only [List.length_append, List.length_singleton]; omega)) ?_; intro g2 cap2 w5 hown hk4 hat; have HR3 := Lib.hid hown; have hB3 : Below w.heap.size w w5 := Below.trans hB (hk4.below (Below.size hB) (fun q hq => (rw_type HROW2.out hq).1)); have hz3 := Below.size hB3; clear hown hk4 hat)
          go_roundw
          case rel => exact ⟨k + 1, _, true, ⟨by simp, rfl, rfl⟩, by omega, E1, Lib.hid (by rw [E2.out, allN_app, HFL.out]; exact HR3.out), hB3⟩
          case measure => simp [intOf]; omega
        | false =>
          cases lt with
          | false =>
            obtain ⟨e1, e2⟩ := HN3.out HDN.out HLT.out
            have E1 := Lib.hid e1; have E2 := Lib.hid e2
            clear e1 e2 HN1 HN2 HN3 HDN
            go_wp2_with (at_builtin; refine app_str rfl (.tmp 36) (.tmp 41) rfl w.heap.size 9 _ fl x.1 rfl HROW2.out 1 rfl hbz (by first | omega | (simp only [List.length_append, List.length_singleton]; omega)) ?_; intro g2 cap2 w5 hown hk4 hat; have HR3 := Lib.hid hown; have hB3 : Below w.heap.size w w5 := Below.trans hB (hk4.below (Below.size hB) (fun q hq => (rw_type HROW2.out hq).1)); have hz3 := Below.size hB3; clear hown hk4 hat)
            go_roundw
            case rel => exact ⟨k + 1, _, false, ⟨by simp, rfl, rfl⟩, by omega, E1, Lib.hid (by rw [E2.out, allN_app, HFL.out]; exact HR3.out), hB3⟩
            case measure => simp [intOf]; omega
          | true =>
            obtain ⟨e1, e2⟩ := HN2.out HDN.out HLT.out
            have E1 := Lib.hid e1; have E2 := Lib.hid e2
            clear e1 e2 HN1 HN2 HN3 HDN
            go_wp2_with (first | (at_builtin; refine app_str rfl (.tmp 32) (.tmp 34) rfl w.heap.size 9 _ fl s rfl HROW2.out 1 rfl hbz (by first | omega | (simp only [List.length_append, List.length_singleton]; omega)) ?_; intro g2 cap2 w5 hown hk4 hat; have HR3 := Lib.hid hown; have hB3 : Below w.heap.size w w5 := Below.trans hB (hk4.below (Below.size hB) (fun q hq => (rw_type HROW2.out hq).1)); have hz3 := Below.size hB3; clear hown hk4 hat q; have q := cb hB3 Q1.out) | (at_builtin; refine app_str rfl (.tmp 36) (.tmp 41) rfl w.heap.size 9 _ (fl ++ [s]) x.1 rfl HR3.out 1 rfl hz3 (by first | omega | (simp only [List.length_append, List.length_singleton]; omega)) ?_; intro g2 cap2 w5 hown hk4 hat; have HR4 := Lib.hid hown; have hB4 : Below w.heap.size w w5 := Below.trans hB3 (hk4.below (Below.size hB3) (fun q hq => (rw_type HR3.out hq).1)); have hz4 := Below.size hB4; clear hown hk4 hat))
            go_roundw
            case rel => exact ⟨k + 1, _, true, ⟨by simp, rfl, rfl⟩, by omega, E1, Lib.hid (by rw [E2.out, allN_app, allN_app, HFL.out]; have q := HR4.out; rw [show (fl ++ [s]).length = fl.length + 1 by simp] at q; exact q), hB4⟩
            case measure => simp [intOf]; omega
      · obtain rfl : k = N.length := by omega
        have hbz := hB.size
        have hlen := outTo_len N s ⟨#[]⟩ N.length
        cases d with
        | true =>
          have hrow := HROW.out
          rw [outTo_all_done HDN.out] at hrow
          have HX := Lib.hid hrow
          clear hrow HROW
          go_wp2_with fail
          go_ret
          exact ⟨_, rfl, by rw [HM.out]; exact strS_of HX.out, hB⟩
        | false =>
          have HE := Lib.hid (outTo_all_not (p := ⟨#[]⟩) HDN.out)
          obtain ⟨fn, hfn⟩ : ∃ fl, outTo N s ⟨#[]⟩ N.length = fl := ⟨_, rfl⟩
          rw [hfn] at HROW HE hlen
          obtain ⟨fl, hfl⟩ : ∃ fl, allN fn = fl := ⟨_, rfl⟩
          have hlen : fl.length ≤ N.length + 1 := by rw [← hfl, allN_length]; exact hlen
          rw [hfl] at HROW
          have HFL := Lib.hid hfl
          clear hfn hfl
          go_wp2_with (at_builtin; refine app_str rfl (.tmp 45) (.tmp 47) rfl w.heap.size 9 _ fl s rfl HROW.out 1 rfl hbz (by first | omega | (simp only [List.length_append, List.length_singleton]; omega)) ?_; intro g2 cap2 w5 hown hk4 hat; have HR3 := Lib.hid hown; have hB3 : Below w.heap.size w w5 := Below.trans hB (hk4.below (Below.size hB) (fun q hq => (rw_type HROW.out hq).1)); have hz3 := Below.size hB3; clear hown hk4 hat)
          go_ret
          exact ⟨_, rfl, by rw [HM.out, ← HE.out, allN_app, HFL.out]; exact strS_of HR3.out, hB3⟩
end Go.Proofs.Ythaipgbjnigkhaa
namespace Go.Proofs.Ythaipgbjnigkhaa
open Go.RowKit Go.Shelf Go.Maps
set_option linter.unusedVariables false
set_option linter.unusedSimpArgs false
set_option linter.unusedSectionVars false
set_option maxRecDepth 100000 in
set_option maxHeartbeats 4000000 in
theorem rmarks_calls (w : World) (N : Nodes) (l : List ByteArray) {v v2 : Value} (hv : StrS w v (allN N)) (hv2 : StrS w v2 l) (hl : N.length + l.length ≤ 100000) (hsz : ∀ x ∈ allN N, x.size ≤ 1000) (hs : ∀ x ∈ l, x.size ≤ 1000) :
    Calls Try.prog 53 #[v, v2] w fun e w' => ∃ u, e = .returned u ∧ StrS w' u (allN (markAll N l)) ∧ Below w.heap.size w w' := by
  obtain ⟨a1, c1, rfl⟩ := hv.form
  obtain ⟨a2, c2, rfl⟩ := hv2.form
  have hB := Below.refl w.heap.size w
  have HV := Lib.hid hv
  have HV2 := Lib.hid hv2
  have HSZ := Lib.hid hsz
  have HS := Lib.hid hs
  clear hv hv2 hsz hs
  go_enter Try.func53, Try.ntmps53
  go_wp2_with fail
  go_loopw [5, 6] (fun s5 i wr => ∃ (k : Nat) (u : Value), (i = .int .i64 k ∧ s5 = u) ∧ k ≤ l.length ∧ Hid (StrS wr u (allN (markAll N (l.take k)))) ∧ Hid (∀ x ∈ allN (markAll N (l.take k)), x.size ≤ 1000) ∧ Below w.heap.size w wr) (fun _ i _ => l.length - (intOf i).toNat)
  case atStart => exact ⟨0, _, ⟨rfl, rfl⟩, Nat.zero_le _, HV, HSZ, hB⟩
  case round =>
    clear hB
    obtain ⟨k, u, ⟨rfl, rfl⟩, hk, HU, HZ, hB⟩ := hrel
    by_cases hkl : k < l.length
    · have hkI : (k : Int) < l.length := by omega
      obtain ⟨b, o, c', he, q⟩ := HV2.out.at' hkl
      cases he
      have q := cb hB q
      have HN := Lib.hid (markAll_succ (N := N) hkl)
      have hxs := HS.out _ (List.getElem_mem hkl)
      have hlen := markAll_len N (l.take k)
      rw [List.length_take, Nat.min_eq_left hk] at hlen
      obtain ⟨x, hx⟩ : ∃ x, l[k]'hkl = x := ⟨_, rfl⟩
      rw [hx] at q hxs HN
      obtain ⟨M, hM⟩ : ∃ M, markAll N (l.take k) = M := ⟨_, rfl⟩
      rw [hM] at HU HN hlen HZ
      clear hx hM
      go_wp2_with fail
      refine (rmark_calls _ M HU.out (by omega) x hxs HZ.out).mono ?_
      rintro e w2 ⟨u2, rfl, hu2, hb⟩
      have HU2 := Lib.hid hu2
      have hB := bl_next hB hb
      have HZ2 := Lib.hid (show ∀ y ∈ allN (markN M x), y.size ≤ 1000 from fun y hy => by
        have hy2 := mem_all.1 hy
        unfold markN at hy2
        cases hq : hasN M x with
        | true => rw [hq] at hy2; exact HZ.out y (mem_all.2 hy2)
        | false =>
          rw [hq] at hy2
          simp only [Bool.false_eq_true, if_false] at hy2
          rw [hasN_ins, Bool.or_eq_true, decide_eq_true_eq] at hy2
          rcases hy2 with rfl | hy2
          · exact hxs
          · exact HZ.out y (mem_all.2 hy2))
      clear hu2 hb q
      go_wp2_with fail
      go_roundw
      case rel => exact ⟨k + 1, _, ⟨by simp, rfl⟩, by omega, Lib.hid (by rw [HN.out]; exact HU2.out), Lib.hid (by rw [HN.out]; exact HZ2.out), hB⟩
      case measure => simp [intOf]; omega
    · obtain rfl : k = l.length := by omega
      go_wp2_with fail
      go_ret
      exact ⟨_, rfl, by have := HU.out; rw [List.take_length] at this; exact this, hB⟩
end Go.Proofs.Ythaipgbjnigkhaa
namespace Go.Proofs.Ythaipgbjnigkhaa
open Go.RowKit Go.Shelf Go.Maps
set_option linter.unusedVariables false
set_option linter.unusedSimpArgs false
set_option linter.unusedSectionVars false
set_option maxRecDepth 100000 in
set_option maxHeartbeats 4000000 in
theorem rclear_calls (w : World) (N : Nodes) {v : Value} (hv : StrS w v (allN N)) (hl : N.length ≤ 100000) (s : ByteArray) :
    Calls Try.prog 54 #[v, .string s] w fun e w' => ∃ u, e = .returned (.tuple #[u, .int .i64 (clearN N s).1]) ∧ StrS w' u (allN (clearN N s).2) ∧ Below w.heap.size w w' := by
  obtain ⟨av, cv, rfl⟩ := hv.form
  have hB := Below.refl w.heap.size w
  have HV := Lib.hid hv
  clear hv
  cases hh : hasN N s with
  | false =>
    have HH := Lib.hid ((inL_all N s).trans hh)
    have HC := Lib.hid (show clearN N s = (4, N) by unfold clearN; rw [hh]; rfl)
    clear hh
    go_enter Try.func54, Try.ntmps54
    go_wp2_with fail
    refine (in_calls _ HV.out s (by rw [allN_length]; omega)).mono ?_
    rintro e w1 ⟨rfl, hb⟩
    rw [HH.out]
    go_wp2_with fail
    refine bodyPost_ret (v := .tuple #[.slice av (allN N).length cv, .int .i64 4]) (by simp [results, Try.results54, go_sem]) rfl ⟨_, by rw [HC.out], by rw [HC.out]; exact HV.out.below hb, hb⟩
  | true =>
    have HH := Lib.hid ((inL_all N s).trans hh)
    have HC := Lib.hid (show clearN N s = (0, delN N s) by unfold clearN; rw [hh]; rfl)
    clear hh
    rw [allN_length] at HV ⊢
    go_enter Try.func54, Try.ntmps54
    go_wp2_with fail
    refine (in_calls (l := allN N) _ HV.out s (by rw [allN_length]; omega)).mono ?_
    rintro e w1 ⟨rfl, hb⟩
    rw [HH.out]
    have hB := bl_next hB hb
    clear hb
    go_wp2_with fail
    go_loopw [7, 8] (fun s7 i wr => ∃ (k : Nat) (u : Value), (i = .int .i64 k ∧ s7 = u) ∧ k ≤ N.length ∧ Hid (wr.ownsRow w.heap.size 9 1 u (allN (delTo N s k)).length (strC (allN (delTo N s k)))) ∧ Below w.heap.size w wr) (fun _ i _ => N.length - (intOf i).toNat)
    case atStart => exact ⟨0, _, ⟨rfl, rfl⟩, Nat.zero_le _, Lib.hid (World.ownsRow_nil _ _ _ _), hB⟩
    case round =>
      clear hB
      obtain ⟨k, u, ⟨rfl, rfl⟩, hk, HROW, hB⟩ := hrel
      by_cases hkl : k < N.length
      · have hkI : (k : Int) < N.length := by omega
        have hka : k < (allN N).length := by rw [allN_length]; exact hkl
        obtain ⟨b1, o1, d1, he, q⟩ := HV.out.at' hka
        rw [allN_length] at he
        cases he
        rw [allN_at hkl] at q
        have q := cb hB q
        have HN := Lib.hid (delTo_succ N s k hkl)
        obtain ⟨x, hx⟩ : ∃ x, N[k]'hkl = x := ⟨_, rfl⟩
        rw [hx] at q HN
        have hlen := delTo_len N s k
        obtain ⟨fn, hfn⟩ : ∃ fl, delTo N s k = fl := ⟨_, rfl⟩
        rw [hfn] at HN HROW hlen
        obtain ⟨fl, hfl⟩ : ∃ fl, allN fn = fl := ⟨_, rfl⟩
        have hlen : fl.length ≤ k := by rw [← hfl, allN_length]; exact hlen
        rw [hfl] at HROW
        have HFL := Lib.hid hfl
        have hbz := hB.size
        clear hx hfn hfl
        by_cases h2 : x.1 = s
        · have hbf : (x.1.toList == s.toList) = true := by rw [beq_str]; simpa using h2
          have hbn : x.1.toList = s.toList := by rw [h2]
          have HN2 := Lib.hid (show delTo N s (k + 1) = fn by rw [HN.out, if_pos h2])
          clear h2 HN
          go_wp2_with fail
          go_roundw
          case rel => exact ⟨k + 1, _, ⟨by simp, rfl⟩, by omega, Lib.hid (by rw [HN2.out, HFL.out]; exact HROW.out), hB⟩
          case measure => simp [intOf]; omega
        · have hbf := beqF h2
          have hbn := neF h2
          have HN2 := Lib.hid (show delTo N s (k + 1) = fn ++ [x] by rw [HN.out, if_neg h2])
          clear h2 HN
          go_wp2_with (at_builtin; refine app_str rfl (.tmp 27) (.tmp 32) rfl w.heap.size 9 _ fl x.1 rfl HROW.out 1 rfl hbz (by omega) ?_; intro g2 cap2 w5 hown hk4 hat; have HR3 := Lib.hid hown; have hB3 : Below w.heap.size w w5 := hB.trans (hk4.below hB.size (fun q hq => (rw_type HROW.out hq).1)); clear hown hk4 hat)
          go_roundw
          case rel => exact ⟨k + 1, _, ⟨by simp, rfl⟩, by omega, Lib.hid (by rw [HN2.out, allN_app, HFL.out]; exact HR3.out), hB3⟩
          case measure => simp [intOf]; omega
      · obtain rfl : k = N.length := by omega
        have hrow := HROW.out
        rw [delTo_all] at hrow
        have HX := Lib.hid hrow
        clear hrow HROW
        go_wp2_with fail
        refine bodyPost_ret (v := .tuple #[u7, .int .i64 0]) (by simp [results, Try.results54, go_sem]) rfl ⟨_, by rw [HC.out], by rw [HC.out]; exact strS_of HX.out, hB⟩
end Go.Proofs.Ythaipgbjnigkhaa
namespace Go.Proofs.Ythaipgbjnigkhaa
open Go.RowKit Go.Shelf Go.Maps
set_option linter.unusedVariables false
set_option linter.unusedSimpArgs false
set_option linter.unusedSectionVars false
/-! ### The deepest one, by definition -/
theorem nextD_zero {T : Nodes} : ∀ (l : List ByteArray), (∀ x ∈ l, (pathT T x).length = 0) → nextD T l = (⟨#[]⟩, 0) := by
  intro l h
  unfold nextD
  induction l with
  | nil => rfl
  | cons a r ih =>
    rw [List.foldl_cons, show stepD T (⟨#[]⟩, 0) a = (⟨#[]⟩, 0) by unfold stepD; rw [h a (List.mem_cons_self ..)]; rfl]
    exact ih (fun x hx => h x (List.mem_cons_of_mem _ hx))
theorem fold_stay {T : Nodes} {bd : ByteArray × Nat} : ∀ (l : List ByteArray), (∀ x ∈ l, (pathT T x).length ≤ bd.2) → l.foldl (stepD T) bd = bd := by
  intro l h
  induction l with
  | nil => rfl
  | cons a r ih =>
    rw [List.foldl_cons, show stepD T bd a = bd by unfold stepD; rw [if_neg (by have := h a (List.mem_cons_self ..); omega)]]
    exact ih (fun x hx => h x (List.mem_cons_of_mem _ hx))
theorem fold_lt {T : Nodes} {D : Nat} : ∀ (l : List ByteArray) (bd : ByteArray × Nat), bd.2 < D → (∀ x ∈ l, (pathT T x).length < D) → (l.foldl (stepD T) bd).2 < D := by
  intro l
  induction l with
  | nil => exact fun bd h _ => h
  | cons a r ih =>
    intro bd h hl
    refine ih _ ?_ (fun x hx => hl x (List.mem_cons_of_mem _ hx))
    unfold stepD
    split
    · exact hl a (List.mem_cons_self ..)
    · exact h
theorem nextD_is {T : Nodes} {l : List ByteArray} {D i : Nat} (hD : 0 < D) (hi : i < l.length) (hl : ∀ x ∈ l, (pathT T x).length ≤ D) (he : (pathT T (l[i]'hi)).length = D) (hn : ∀ j (hj : j < l.length), j < i → (pathT T (l[j]'hj)).length ≠ D) : nextD T l = (l[i]'hi, D) := by
  have h1 : l = l.take i ++ (l[i]'hi :: l.drop (i + 1)) := by
    rw [List.getElem_cons_drop, List.take_append_drop]
  have hp : ∀ x ∈ l.take i, (pathT T x).length < D := by
    intro x hx
    obtain ⟨j, hj, rfl⟩ := List.getElem_of_mem hx
    rw [List.length_take] at hj
    rw [List.getElem_take]
    have h2 := hn j (by omega) (by omega)
    have h3 := hl _ (List.getElem_mem (by omega : j < l.length))
    omega
  have hq : ∀ x ∈ l.drop (i + 1), (pathT T x).length ≤ D := fun x hx => hl x (List.mem_of_mem_drop hx)
  have h4 := fold_lt (T := T) (D := D) (l.take i) (⟨#[]⟩, 0) hD hp
  have h5 : stepD T ((l.take i).foldl (stepD T) (⟨#[]⟩, 0)) (l[i]'hi) = (l[i]'hi, D) := by
    generalize (l.take i).foldl (stepD T) (⟨#[]⟩, 0) = bd at h4
    unfold stepD; rw [he, if_pos h4]
  have h6 := fold_stay (T := T) (bd := (l[i]'hi, D)) (l.drop (i + 1)) hq
  have h7 : nextD T (l.take i ++ (l[i]'hi :: l.drop (i + 1))) = (l[i]'hi, D) := by
    unfold nextD
    rw [List.foldl_append, List.foldl_cons, h5, h6]
  exact (congrArg (nextD T) h1).trans h7
end Go.Proofs.Ythaipgbjnigkhaa
namespace Go.Proofs.Ythaipgbjnigkhaa
open Go.RowKit Go.Shelf Go.Maps
set_option linter.unusedVariables false
set_option linter.unusedSimpArgs false
set_option linter.unusedSectionVars false
set_option maxRecDepth 100000 in
set_option maxHeartbeats 4000000 in
theorem rnext_calls {base rp : Nat} {u : Value} {T : Nodes} (w : World) (R : RefT w base rp u T) (G : Good11 T) (L : List ByteArray) {v : Value} (hv : StrS w v L) (hl : L.length ≤ 1000000) :
    Calls Try.prog 57 #[v, .pointer (some ⟨rp, 0, none⟩)] w fun e w' => e = .returned (.tuple #[.string (nextD T L).1, .bool (decide (0 < (nextD T L).2))]) ∧ Below w.heap.size w w' := by
  obtain ⟨av, cv, rfl⟩ := hv.form
  have hB := Below.refl w.heap.size w
  have H := Lib.hid R
  have HV := Lib.hid hv
  have hTl : T.length ≤ 1000000 := by have := G.few; omega
  have HD := Lib.hid (show ∀ x, (pathT T x).length < 19 from fun x => Nat.lt_of_le_of_lt (G.deep x) (by decide))
  clear R hv
  go_enter Try.func57, Try.ntmps57
  go_wp2_with fail
  go_loopw [6] (fun i wr => ∃ D : Nat, i = .int .i64 D ∧ D ≤ 8 ∧ Hid (∀ x ∈ L, (pathT T x).length ≤ D) ∧ Below w.heap.size w wr) (fun i _ => (intOf i).toNat)
  case atStart => exact ⟨8, rfl, Nat.le_refl _, Lib.hid (fun x _ => G.deep x), hB⟩
  case round =>
    clear hB
    obtain ⟨D, rfl, hD, HA, hB⟩ := hrel
    by_cases hD0 : D = 0
    · subst hD0
      have HE := Lib.hid (nextD_zero (T := T) L (fun x hx => Nat.le_zero.1 (HA.out x hx)))
      go_wp2_with fail
      refine bodyPost_ret (v := .tuple #[.string ⟨#[]⟩, .bool false]) (by simp [results, Try.results57, go_sem]) rfl ⟨by rw [HE.out]; rfl, hB⟩
    · obtain ⟨E, rfl⟩ : ∃ E, D = E + 1 := ⟨D - 1, by omega⟩
      have hEI : (1 : Int) ≤ (E : Int) + 1 := by omega
      have hE8 : (E : Int) ≤ 7 := by omega
      clear hD0
      rw [show (((E + 1 : Nat) : Int)) = (E : Int) + 1 by omega]
      go_wp2_with fail
      go_loopw [7] (fun i wr => ∃ j : Nat, i = .int .i64 j ∧ j ≤ L.length ∧ Hid (∀ q (hq : q < L.length), q < j → (pathT T (L[q]'hq)).length ≠ E + 1) ∧ Below w.heap.size w wr) (fun i _ => L.length - (intOf i).toNat)
      case atStart => exact ⟨0, rfl, Nat.zero_le _, Lib.hid (fun q hq h => absurd h (Nat.not_lt_zero _)), hB⟩
      case round =>
        clear hB
        obtain ⟨j, rfl, hj, HN, hB⟩ := hrel
        by_cases hjl : j < L.length
        · have hjI : (j : Int) < L.length := by omega
          obtain ⟨b1, o1, c1, he, q⟩ := HV.out.at' hjl
          cases he
          have Q := Lib.hid q
          have q := cb hB q
          obtain ⟨pl, hpl⟩ : ∃ l, pathT T (L[j]'hjl) = l := ⟨_, rfl⟩
          have HPL := Lib.hid hpl
          have hp8 : pl.length ≤ 8 := by rw [← hpl]; exact G.deep _
          clear hpl
          go_wp2_with fail
          refine (rpathT_calls _ (H.out.below hB) G.rise HD.out _ hTl).mono ?_
          rintro e w2 ⟨v2, rfl, hrow, hb⟩
          rw [HPL.out] at hrow
          obtain ⟨a2, c2, rfl⟩ := rw_form hrow
          have hB := bl_next hB hb
          clear hrow hb q
          have q := cb hB Q.out
          by_cases hlt : pl.length = E + 1
          · have hltI : ((pl.length : Int) == (E : Int) + 1) = true := by simp; omega
            have hltP : (pl.length : Int) = (E : Int) + 1 := by omega
            have HE := Lib.hid (nextD_is (T := T) (D := E + 1) (by omega) hjl HA.out (by rw [HPL.out]; exact hlt) HN.out)
            clear hlt
            go_wp2_with fail
            refine bodyPost_ret (v := .tuple #[.string (L[j]'hjl), .bool true]) (by simp [results, Try.results57, go_sem]) rfl ⟨by rw [HE.out]; simp, hB⟩
          · have hltI : ((pl.length : Int) == (E : Int) + 1) = false := by simp; omega
            have hltP : ¬ (pl.length : Int) = (E : Int) + 1 := by omega
            have HNE := Lib.hid hlt
            clear hlt
            go_wp2_with fail
            go_roundw
            case rel =>
              refine ⟨j + 1, by simp, by omega, Lib.hid (fun q hq h => ?_), hB⟩
              rcases Nat.lt_or_ge q j with k9 | k9
              · exact HN.out q hq k9
              · obtain rfl : q = j := by omega
                rw [HPL.out]; exact HNE.out
            case measure => simp [intOf]; omega
        · obtain rfl : j = L.length := by omega
          go_wp2_with fail
          go_roundw
          case rel =>
            refine ⟨E, by simp, by omega, Lib.hid (fun x hx => ?_), hB⟩
            obtain ⟨q, hq, rfl⟩ := List.getElem_of_mem hx
            have h1 := HA.out _ hx
            have h2 := HN.out q hq hq
            omega
          case measure => simp [intOf]
end Go.Proofs.Ythaipgbjnigkhaa
