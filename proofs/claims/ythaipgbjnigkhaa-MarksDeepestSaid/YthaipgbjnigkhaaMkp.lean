import Derived.Test.YthaipgbjnigkhaaMko
namespace Go.Proofs.Ythaipgbjnigkhaa
open Go.RowKit Go.Shelf Go.Maps
set_option linter.unusedVariables false
set_option linter.unusedSimpArgs false
set_option linter.unusedSectionVars false
theorem has_markN (N : Nodes) (s x : ByteArray) : hasN (markN N s) x = (hasN N x || decide (s = x)) := by
  unfold markN
  split
  · rename_i h
    by_cases e : s = x
    · subst e; simp [h]
    · simp [e]
  · rw [hasN_ins, Bool.or_comm]
theorem has_markAll (l : List ByteArray) : ∀ (N : Nodes) (x : ByteArray), hasN (markAll N l) x = (hasN N x || inL l x) := by
  induction l with
  | nil => intro N x; simp [markAll, inL]
  | cons a r ih =>
    intro N x
    have := ih (markN N a) x
    unfold markAll at this ⊢
    rw [List.foldl_cons, this, has_markN]
    unfold inL
    rw [List.any_cons, Bool.or_assoc]
theorem mark_mem {N : Nodes} {l : List ByteArray} {x : ByteArray} (h : x ∈ allN (markAll N l)) : x ∈ allN N ∨ x ∈ l := by
  have h := mem_all.1 h
  rw [has_markAll, Bool.or_eq_true] at h
  rcases h with h | h
  · exact .inl (mem_all.2 h)
  · exact .inr (inL_iff.1 h)
theorem clear_rise {N : Nodes} (h : Rising N) (s : ByteArray) : Rising (clearN N s).2 := by
  unfold clearN; split
  · exact rising_delN h
  · exact h
theorem clear_mem (N : Nodes) (s x : ByteArray) (h : x ∈ allN (clearN N s).2) : x ∈ allN N := by
  unfold clearN at h
  split at h
  · have h := mem_all.1 h
    rw [hasN_del, Bool.and_eq_true] at h
    exact mem_all.2 h.2
  · exact h
theorem clear_len (N : Nodes) (s : ByteArray) : (clearN N s).2.length ≤ N.length := by
  unfold clearN; split
  · exact List.length_filter_le _ _
  · exact Nat.le_refl _
theorem nextD_in {T : Nodes} : ∀ (l : List ByteArray) (bd : ByteArray × Nat), l.foldl (stepD T) bd = bd ∨ ((l.foldl (stepD T) bd).1 ∈ l ∧ (pathT T (l.foldl (stepD T) bd).1).length = (l.foldl (stepD T) bd).2)
  | [], bd => .inl rfl
  | a :: r, bd => by
    have ih := nextD_in (T := T) r (stepD T bd a)
    rw [List.foldl_cons]
    rcases ih with h | ⟨h1, h2⟩
    · rw [h]
      unfold stepD
      split
      · exact .inr ⟨by simp, rfl⟩
      · exact .inl rfl
    · exact .inr ⟨List.mem_cons_of_mem _ h1, h2⟩
theorem nextD_size {T : Nodes} {l : List ByteArray} (h : ∀ x ∈ l, x.size ≤ 100) : (nextD T l).1.size ≤ 100 := by
  rcases nextD_in (T := T) l (⟨#[]⟩, 0) with e | ⟨e, _⟩
  · unfold nextD; rw [e]; exact Nat.zero_le _
  · exact h _ e
set_option maxRecDepth 100000 in
set_option maxHeartbeats 16000000 in
theorem marksPlay_law (w : World) (A B : Option Addr) (cap capB : Nat) (xs : List ActM) (ts : List ActT) (h : ActsM w A xs) (ht : ActsT w B ts) :
    Calls Try.prog 8 #[.slice A xs.length cap, .slice B ts.length capB] w fun e w' => e = .returned (.bool true) ∧ Below w.heap.size w w' := by
  have hB := Below.refl w.heap.size w
  have H := Lib.hid h
  have HT := Lib.hid ht
  clear h ht
  cases hf : fitsM xs && fitsT ts with
  | false =>
    have HF : Hid ((!fitsM xs || !fitsT ts) = true) := Lib.hid (by revert hf; cases fitsM xs <;> cases fitsT ts <;> simp)
    clear hf
    obtain ⟨f1, hf1⟩ : ∃ f, fitsM xs = f := ⟨_, rfl⟩
    obtain ⟨f2, hf2⟩ : ∃ f, fitsT ts = f := ⟨_, rfl⟩
    have HF1 := Lib.hid hf1; have HF2 := Lib.hid hf2
    have hff : (!f1 || !f2) = true := by rw [← hf1, ← hf2]; exact HF.out
    clear hf1 hf2 HF
    cases f1 with
    | false =>
      clear hff
      go_enter Try.func8, Try.ntmps8
      go_wp2_with (first | (go_at_call 48; refine (fits12_calls _ _ _ _ H.out).mono ?_; rintro e w' ⟨rfl, hb⟩; rw [HF1.out]; have hB := bl_next hB hb; have HT := Lib.hid (HT.out.below hb); clear hb) | (go_at_call 10; refine (fits11_calls _ _ _ _ HT.out).mono ?_; rintro e w' ⟨rfl, hb⟩; rw [HF2.out]; have hB := bl_next hB hb; clear hb) | (go_at_call 49; refine (alive12_calls _).mono ?_; rintro e w' ⟨rfl, hb⟩; have hB := bl_next hB hb; clear hb))
      go_ret
      exact ⟨rfl, hB⟩
    | true =>
      obtain rfl : f2 = false := by simpa using hff
      clear hff
      go_enter Try.func8, Try.ntmps8
      go_wp2_with (first | (go_at_call 48; refine (fits12_calls _ _ _ _ H.out).mono ?_; rintro e w' ⟨rfl, hb⟩; rw [HF1.out]; have hB := bl_next hB hb; have HT := Lib.hid (HT.out.below hb); clear hb) | (go_at_call 10; refine (fits11_calls _ _ _ _ HT.out).mono ?_; rintro e w' ⟨rfl, hb⟩; rw [HF2.out]; have hB := bl_next hB hb; clear hb) | (go_at_call 49; refine (alive12_calls _).mono ?_; rintro e w' ⟨rfl, hb⟩; have hB := bl_next hB hb; clear hb))
      go_ret
      exact ⟨rfl, hB⟩
  | true =>
    rw [Bool.and_eq_true] at hf
    obtain ⟨hl, hfit⟩ := fitsM_spec hf.1
    obtain ⟨hlT, hfitT⟩ := fitsT_spec hf.2
    have HF1 := Lib.hid hf.1; have HF2 := Lib.hid hf.2
    have HFIT := Lib.hid hfit; have HFITT := Lib.hid hfitT
    clear hf hfit hfitT
    go_enter Try.func8, Try.ntmps8
    go_wp2_with (first | (go_at_call 48; refine (fits12_calls _ _ _ _ H.out).mono ?_; rintro e w' ⟨rfl, hb⟩; rw [HF1.out]; have hB := bl_next hB hb; clear hb) | (go_at_call 10; refine (fits11_calls _ _ _ _ (HT.out.below hB)).mono ?_; rintro e w' ⟨rfl, hb⟩; rw [HF2.out]; have hB := bl_next hB hb; clear hb) | (go_at_call 12; refine (new_ts w _ hB).mono ?_; rintro e w1 ⟨tp, mb, rfl, S, hb, -⟩; have S0 := Lib.hid S; clear S hb hB) | (go_at_call 13; refine (rbegin_calls _).mono ?_; rintro e w2 ⟨rp, u, rfl, R, hb⟩; have S1 := Lib.hid (S0.out.read hb); have R1 := Lib.hid (refT_mono R S0.out.below.size); clear R hb S0))
    go_loopw [9] (fun i wr => ∃ (k : Nat) (N : Nodes) (u : Value), i = .int .i64 k ∧ k ≤ ts.length ∧ Hid (Good11 N) ∧ Hid (TS w wr tp mb N) ∧ Hid (RefT wr w.heap.size rp u N)) (fun i _ => ts.length - (intOf i).toNat)
    case atStart => exact ⟨0, _, _, rfl, Nat.zero_le _, Lib.hid good_begin, S1, R1⟩
    case round =>
      clear S1 R1
      obtain ⟨k, T, ur, rfl, hk, G, S, R⟩ := hrel
      by_cases hkl : k < ts.length
      · have hkI : (k : Int) < ts.length := by omega
        obtain ⟨r, hr⟩ : ∃ r, doT T (ts[k]'hkl) = r := ⟨_, rfl⟩
        obtain ⟨r, M⟩ := r
        have G2 := good_doT G.out (ts[k]'hkl)
        rw [hr] at G2
        have G3 := Lib.hid G2
        obtain ⟨b, off, rfl, hbA, c0, c1, c2, q0, q1⟩ := HT.out.at' k hkl
        obtain ⟨hs1, hs2⟩ := HFITT.out k hkl
        have HR := Lib.hid hr
        clear G2 hr
        generalize ts[k]'hkl = a at *
        have C0 := Lib.hid c0; have C1 := Lib.hid c1; have C2 := Lib.hid c2
        clear c0 c1 c2
        have hsz1 : a.n.size ≤ 1000 := by omega
        have hsz2 : a.o.size ≤ 1000 := by omega
        have c0 := cb S.out.below C0.out; have c1 := cb S.out.below C1.out; have c2 := cb S.out.below C2.out
        go_wp2_with fail
        refine (doT_tk S.out G.out a q0 q1 hsz1 hsz2 r M HR.out).mono ?_
        rintro e w4 ⟨rfl, S', hkk⟩
        have R4 := Lib.hid (refT_wrote R.out S.out.at' hkk); have S4 := Lib.hid S'
        clear S S' hkk c0 c1 c2 R
        have c0 := cb S4.out.below C0.out; have c1 := cb S4.out.below C1.out; have c2 := cb S4.out.below C2.out
        go_wp2_with fail
        refine (wantT_calls R4.out G.out a q0 q1 hsz1 hsz2 r M HR.out).mono ?_
        rintro e w5 ⟨rfl, u5, R', hkk⟩
        have S5 := Lib.hid (ts_ref S4.out R4.out hkk); have R5 := Lib.hid R'
        clear S4 R4 R' hkk c0 c1 c2
        go_wp2_with fail
        go_roundw
        case rel => exact ⟨k + 1, M, u5, by simp, by omega, G3, S5, R5⟩
        case measure => simp [intOf]; omega
      · obtain rfl : k = ts.length := by omega
        have SB := Lib.hid (st_both S.out R.out)
        clear S R hk hkl
        go_wp2_with fail
        refine (mnew_st SB.out).mono ?_
        rintro e w3 ⟨mp, kb, rfl, S', hb⟩
        have S0 : Hid (St w w3 [thT tp mb T, thR w.heap.size rp ur T, thM mp kb []]) := Lib.hid S'
        have U0 := Lib.hid (strS_nil w3)
        clear SB S' hb
        go_wp2_with fail
        go_loopw [11, 12] (fun u i wr => ∃ (k : Nat) (N : Nodes), i = .int .i64 k ∧ k ≤ xs.length ∧ Hid (Rising N) ∧ Hid (∀ x ∈ allN N, x.size ≤ 100) ∧ N.length ≤ 60 * k ∧ Hid (StrS wr u (allN N)) ∧ Hid (St w wr [thT tp mb T, thR w.heap.size rp ur T, thM mp kb N])) (fun _ i _ => xs.length - (intOf i).toNat)
        case atStart => exact ⟨0, [], rfl, Nat.zero_le _, Lib.hid List.Pairwise.nil, Lib.hid (by rintro x ⟨⟩), Nat.zero_le _, U0, S0⟩
        case round =>
          clear U0 S0
          obtain ⟨k, N, rfl, hk, RN, ZN, hNl, U, S⟩ := hrel
          by_cases hkl : k < xs.length
          · have hkI : (k : Int) < xs.length := by omega
            obtain ⟨b, off, v1, rfl, hbA, c0, c1, c2, hv1, q0, q1⟩ := H.out.at' k hkl
            obtain ⟨hs1, hs2, hs3⟩ := HFIT.out k hkl
            generalize xs[k]'hkl = a at c0 c1 c2 hv1 q0 q1 hs1 hs2 hs3
            have C0 := Lib.hid c0; have C1 := Lib.hid c1; have C2 := Lib.hid c2; have HV1 := Lib.hid hv1; have HS3 := Lib.hid hs3
            obtain ⟨a1, d1, rfl⟩ := hv1.form
            clear c0 c1 c2 hv1 hs3
            have c0 := cb S.out.below C0.out; have c1 := cb S.out.below C1.out; have c2 := cb S.out.below C2.out
            obtain ⟨m, hm⟩ : ∃ m, a.kind % 4 = m := ⟨_, rfl⟩
            have hm0 : 0 ≤ m ∧ m < 4 := by omega
            by_cases q3 : m = 3
            · subst q3
              have f3 : (a.kind % 4 == 3) = true := by rw [hm]; rfl
              have f2 : decide (a.kind % 4 < 2) = false := by rw [hm]; rfl
              have f2n : ¬ (a.kind % 4 < 2) := by omega
              clear hm
              go_wp2_with fail
              refine (mnext_calls _ (S.out.marks 2 rfl) RN.out (by omega) (S.out.tree 0 rfl) G.out (fun x hx => Nat.le_trans (ZN.out x hx) (by decide))).mono ?_
              have hsv := nextD_size (T := T) ZN.out
              obtain ⟨⟨sv, dv⟩, hsd⟩ : ∃ p, nextD T (allN N) = p := ⟨_, rfl⟩
              rw [hsd] at hsv ⊢
              rintro e w2 ⟨rfl, hb⟩
              have UB := Lib.hid (U.out.below hb); have SB := Lib.hid (S.out.read hb)
              clear U S hb hsd c0 c1 c2
              have U := UB; have S := SB
              clear UB SB
              have c0 := cb S.out.below C0.out; have c1 := cb S.out.below C1.out; have c2 := cb S.out.below C2.out
              have hNb : N.length ≤ 100000 := by omega
              obtain ⟨r, hr⟩ : ∃ r, clearN N sv = r := ⟨_, rfl⟩
              obtain ⟨r, M⟩ := r
              have HC := Lib.hid hr
              have RM := Lib.hid (show Rising M by have := clear_rise RN.out sv; rw [hr] at this; exact this)
              have ZM := Lib.hid (show ∀ x ∈ allN M, x.size ≤ 100 from fun x hx => ZN.out x (by have := clear_mem N sv x; rw [hr] at this; exact this hx))
              have hML : M.length ≤ N.length := by have := clear_len N sv; rw [hr] at this; exact this
              clear hr
              obtain ⟨ao, co, rfl⟩ := U.out.form
              go_wp2_with fail
              refine (rclear_calls _ N U.out hNb sv).mono ?_
              rw [HC.out]
              rintro e w3 ⟨u2, rfl, hu, hb⟩
              have UA := Lib.hid hu; have SA := Lib.hid (S.out.read hb)
              clear U S hu hb
              go_wp2_with fail
              refine (clear_st SA.out 2 rfl RN.out sv (by omega) r M HC.out).mono ?_
              rintro e w4 ⟨rfl, S', hk⟩
              have U2 := Lib.hid (UA.out.marked SA.out 2 rfl hk)
              have S2 : Hid (St w w4 [thT tp mb T, thR w.heap.size rp ur T, thM mp kb M]) := Lib.hid S'
              clear UA SA S' hk
              have hMb : M.length ≤ 1000000 := by omega
              have hAb : (allN M).length ≤ 1000000 := by rw [allN_length]; exact hMb
              obtain ⟨au, cu, rfl⟩ := U2.out.form
              go_wp2_with fail
              refine (mall_calls _ (S2.out.marks 2 rfl) RM.out hMb).mono ?_
              rintro e w5 ⟨v, rfl, hrow, hb⟩
              obtain ⟨av, cv, rfl⟩ := rw_form hrow
              have V3 := Lib.hid (strS_of hrow); have U3 := Lib.hid (U2.out.below hb); have S3 := Lib.hid (S2.out.read hb)
              clear U2 S2 hrow hb
              go_wp2_with fail
              refine (texts_calls _ V3.out U3.out hAb hAb).mono ?_
              rintro e w6 ⟨rfl, hb⟩
              rw [show decide (allN M = allN M) = true from decide_eq_true rfl]
              have U2 := Lib.hid (U3.out.below hb); have S2 := Lib.hid (S3.out.read hb)
              clear U3 S3 V3 hb
              go_wp2_with fail
              refine (mnext_calls _ (S2.out.marks 2 rfl) RM.out hMb (S2.out.tree 0 rfl) G.out (fun x hx => Nat.le_trans (ZM.out x hx) (by decide))).mono ?_
              rintro e w7 ⟨rfl, hb⟩
              have U3 := Lib.hid (U2.out.below hb); have S3 := Lib.hid (S2.out.read hb)
              clear U2 S2 hb
              go_wp2_with fail
              refine (rnext_calls _ (S3.out.ref 1 rfl) G.out (allN M) U3.out hAb).mono ?_
              rintro e w8 ⟨rfl, hb⟩
              have U2 := Lib.hid (U3.out.below hb); have S2 := Lib.hid (S3.out.read hb)
              clear U3 S3 hb
              go_wp2_with fail
              refine (mhas_calls _ (S2.out.marks 2 rfl) sv (by omega)).mono ?_
              rintro e w9 ⟨rfl, hb⟩
              have U3 := Lib.hid (U2.out.below hb); have S3 := Lib.hid (S2.out.read hb)
              clear U2 S2 hb
              go_wp2_with fail
              refine (in_calls _ U3.out sv hAb).mono ?_
              rw [inL_all]
              rintro e w10 ⟨rfl, hb⟩
              have U2 := Lib.hid (U3.out.below hb); have S2 := Lib.hid (S3.out.read hb)
              clear U3 S3 hb
              go_wp2_with fail
              go_roundw
              case rel => exact ⟨k + 1, M, by simp, by omega, RM, ZM, by omega, U2, S2⟩
              case measure => simp [intOf]; omega
            · by_cases q2 : m = 2
              · subst q2
                have f3 : (a.kind % 4 == 3) = false := by rw [hm]; rfl
                have f2 : decide (a.kind % 4 < 2) = false := by rw [hm]; rfl
                have f2n : ¬ (a.kind % 4 < 2) := by omega
                clear hm
                obtain ⟨sv, hsv⟩ : ∃ s, s = a.s := ⟨_, rfl⟩
                rw [← hsv] at c2 hs2 C2
                clear hsv
                have hNb : N.length ≤ 100000 := by omega
                obtain ⟨r, hr⟩ : ∃ r, clearN N sv = r := ⟨_, rfl⟩
                obtain ⟨r, M⟩ := r
                have HC := Lib.hid hr
                have RM := Lib.hid (show Rising M by have := clear_rise RN.out sv; rw [hr] at this; exact this)
                have ZM := Lib.hid (show ∀ x ∈ allN M, x.size ≤ 100 from fun x hx => ZN.out x (by have := clear_mem N sv x; rw [hr] at this; exact this hx))
                have hML : M.length ≤ N.length := by have := clear_len N sv; rw [hr] at this; exact this
                clear hr
                obtain ⟨ao, co, rfl⟩ := U.out.form
                go_wp2_with fail
                refine (rclear_calls _ N U.out hNb sv).mono ?_
                rw [HC.out]
                rintro e w3 ⟨u2, rfl, hu, hb⟩
                have UA := Lib.hid hu; have SA := Lib.hid (S.out.read hb)
                clear U S hu hb
                go_wp2_with fail
                refine (clear_st SA.out 2 rfl RN.out sv (by omega) r M HC.out).mono ?_
                rintro e w4 ⟨rfl, S', hk⟩
                have U2 := Lib.hid (UA.out.marked SA.out 2 rfl hk)
                have S2 : Hid (St w w4 [thT tp mb T, thR w.heap.size rp ur T, thM mp kb M]) := Lib.hid S'
                clear UA SA S' hk
                have hMb : M.length ≤ 1000000 := by omega
                have hAb : (allN M).length ≤ 1000000 := by rw [allN_length]; exact hMb
                obtain ⟨au, cu, rfl⟩ := U2.out.form
                go_wp2_with fail
                refine (mall_calls _ (S2.out.marks 2 rfl) RM.out hMb).mono ?_
                rintro e w5 ⟨v, rfl, hrow, hb⟩
                obtain ⟨av, cv, rfl⟩ := rw_form hrow
                have V3 := Lib.hid (strS_of hrow); have U3 := Lib.hid (U2.out.below hb); have S3 := Lib.hid (S2.out.read hb)
                clear U2 S2 hrow hb
                go_wp2_with fail
                refine (texts_calls _ V3.out U3.out hAb hAb).mono ?_
                rintro e w6 ⟨rfl, hb⟩
                rw [show decide (allN M = allN M) = true from decide_eq_true rfl]
                have U2 := Lib.hid (U3.out.below hb); have S2 := Lib.hid (S3.out.read hb)
                clear U3 S3 V3 hb
                go_wp2_with fail
                refine (mnext_calls _ (S2.out.marks 2 rfl) RM.out hMb (S2.out.tree 0 rfl) G.out (fun x hx => Nat.le_trans (ZM.out x hx) (by decide))).mono ?_
                rintro e w7 ⟨rfl, hb⟩
                have U3 := Lib.hid (U2.out.below hb); have S3 := Lib.hid (S2.out.read hb)
                clear U2 S2 hb
                go_wp2_with fail
                refine (rnext_calls _ (S3.out.ref 1 rfl) G.out (allN M) U3.out hAb).mono ?_
                rintro e w8 ⟨rfl, hb⟩
                have U2 := Lib.hid (U3.out.below hb); have S2 := Lib.hid (S3.out.read hb)
                clear U3 S3 hb
                go_wp2_with fail
                refine (mhas_calls _ (S2.out.marks 2 rfl) sv (by omega)).mono ?_
                rintro e w9 ⟨rfl, hb⟩
                have U3 := Lib.hid (U2.out.below hb); have S3 := Lib.hid (S2.out.read hb)
                clear U2 S2 hb
                go_wp2_with fail
                refine (in_calls _ U3.out sv hAb).mono ?_
                rw [inL_all]
                rintro e w10 ⟨rfl, hb⟩
                have U2 := Lib.hid (U3.out.below hb); have S2 := Lib.hid (S3.out.read hb)
                clear U3 S3 hb
                go_wp2_with fail
                go_roundw
                case rel => exact ⟨k + 1, M, by simp, by omega, RM, ZM, by omega, U2, S2⟩
                case measure => simp [intOf]; omega
              · have f3 : (a.kind % 4 == 3) = false := by rw [hm]; simpa using q3
                have f2 : decide (a.kind % 4 < 2) = true := by rw [hm]; simp; omega
                have f2n : a.kind % 4 < 2 := by omega
                clear hm q2 q3 hm0
                obtain ⟨sv, hsv⟩ : ∃ s, s = a.s := ⟨_, rfl⟩
                rw [← hsv] at c2 hs2 C2
                clear hsv
                obtain ⟨M, hM⟩ : ∃ M, markAll N a.l = M := ⟨_, rfl⟩
                have HM := Lib.hid hM
                have RM := Lib.hid (show Rising M by rw [← hM]; exact markAll_rise RN.out _)
                have ZM := Lib.hid (show ∀ x ∈ allN M, x.size ≤ 100 from fun x hx => by
                  rw [← hM] at hx
                  exact (mark_mem hx).elim (ZN.out x) (HS3.out x))
                have hML : M.length ≤ N.length + a.l.length := by rw [← hM]; exact markAll_len N a.l
                clear hM
                obtain ⟨ao, co, rfl⟩ := U.out.form
                go_wp2_with fail
                refine (mark_st S.out 2 rfl RN.out (HV1.out.below S.out.below) (by omega) (fun x hx => Nat.le_trans (HS3.out x hx) (by decide)) M HM.out).mono ?_
                rintro e w3 ⟨rfl, S', hkk⟩
                have UA := Lib.hid (U.out.marked S.out 2 rfl hkk)
                have SA : Hid (St w w3 [thT tp mb T, thR w.heap.size rp ur T, thM mp kb M]) := Lib.hid S'
                clear U S S' hkk c0 c1 c2
                have c0 := cb SA.out.below C0.out; have c1 := cb SA.out.below C1.out; have c2 := cb SA.out.below C2.out
                go_wp2_with fail
                refine (rmarks_calls _ N a.l UA.out (HV1.out.below SA.out.below) (by omega) (fun x hx => Nat.le_trans (ZN.out x hx) (by decide)) (fun x hx => Nat.le_trans (HS3.out x hx) (by decide))).mono ?_
                rw [HM.out]
                rintro e w4 ⟨u2, rfl, hu, hb⟩
                have U2 := Lib.hid hu; have S2 := Lib.hid (SA.out.read hb)
                clear UA SA hu hb c0 c1 c2
                have hMb : M.length ≤ 1000000 := by omega
                have hAb : (allN M).length ≤ 1000000 := by rw [allN_length]; exact hMb
                obtain ⟨au, cu, rfl⟩ := U2.out.form
                go_wp2_with fail
                refine (mall_calls _ (S2.out.marks 2 rfl) RM.out hMb).mono ?_
                rintro e w5 ⟨v, rfl, hrow, hb⟩
                obtain ⟨av, cv, rfl⟩ := rw_form hrow
                have V3 := Lib.hid (strS_of hrow); have U3 := Lib.hid (U2.out.below hb); have S3 := Lib.hid (S2.out.read hb)
                clear U2 S2 hrow hb
                go_wp2_with fail
                refine (texts_calls _ V3.out U3.out hAb hAb).mono ?_
                rintro e w6 ⟨rfl, hb⟩
                rw [show decide (allN M = allN M) = true from decide_eq_true rfl]
                have U2 := Lib.hid (U3.out.below hb); have S2 := Lib.hid (S3.out.read hb)
                clear U3 S3 V3 hb
                go_wp2_with fail
                refine (mnext_calls _ (S2.out.marks 2 rfl) RM.out hMb (S2.out.tree 0 rfl) G.out (fun x hx => Nat.le_trans (ZM.out x hx) (by decide))).mono ?_
                rintro e w7 ⟨rfl, hb⟩
                have U3 := Lib.hid (U2.out.below hb); have S3 := Lib.hid (S2.out.read hb)
                clear U2 S2 hb
                go_wp2_with fail
                refine (rnext_calls _ (S3.out.ref 1 rfl) G.out (allN M) U3.out hAb).mono ?_
                rintro e w8 ⟨rfl, hb⟩
                have U2 := Lib.hid (U3.out.below hb); have S2 := Lib.hid (S3.out.read hb)
                clear U3 S3 hb
                go_wp2_with fail
                refine (mhas_calls _ (S2.out.marks 2 rfl) sv (by omega)).mono ?_
                rintro e w9 ⟨rfl, hb⟩
                have U3 := Lib.hid (U2.out.below hb); have S3 := Lib.hid (S2.out.read hb)
                clear U2 S2 hb
                go_wp2_with fail
                refine (in_calls _ U3.out sv hAb).mono ?_
                rw [inL_all]
                rintro e w10 ⟨rfl, hb⟩
                have U2 := Lib.hid (U3.out.below hb); have S2 := Lib.hid (S3.out.read hb)
                clear U3 S3 hb
                go_wp2_with fail
                go_roundw
                case rel => exact ⟨k + 1, M, by simp, by omega, RM, ZM, by omega, U2, S2⟩
                case measure => simp [intOf]; omega
          · obtain rfl : k = xs.length := by omega
            have hB := S.out.below
            clear hk hkl S U
            go_wp2_with fail
            refine (mnext_nil _ _).mono ?_; rintro e w4 ⟨rfl, hb⟩; have hB := bl_next hB hb; clear hb
            go_wp2_with fail
            refine (alive12_calls _).mono ?_; rintro e w5 ⟨rfl, hb⟩; have hB := bl_next hB hb; clear hb
            go_wp2_with fail
            refine (mmark_nil _ _).mono ?_; rintro e w6 ⟨rfl, hb⟩; have hB := bl_next hB hb; clear hb
            go_wp2_with fail
            refine (mclear_nil _ _).mono ?_; rintro e w7 ⟨rfl, hb⟩; have hB := bl_next hB hb; clear hb
            go_wp2_with fail
            refine (mhas_nil _ _).mono ?_; rintro e w8 ⟨rfl, hb⟩; have hB := bl_next hB hb; clear hb
            go_wp2_with fail
            refine (mall_nil _).mono ?_; rintro e w9 ⟨rfl, hb⟩; have hB := bl_next hB hb; clear hb
            go_wp2_with fail
            go_ret
            exact ⟨rfl, hB⟩
theorem marksPlayWalk {W : World} (y : List ActM) (v : Value) (h : (kSlice kActM).K W anyB y [v]) (z : List ActT) (u : Value) (h2 : (kSlice kActT).K W anyB z [u]) : Calls Try.prog 8 #[v, u] W fun e W' => e = .returned (.bool true) ∧ Below W.heap.size W W' := by
  obtain ⟨A, c, hv, -, hr⟩ := h
  obtain rfl : v = .slice A y.length c := by simpa using hv
  obtain ⟨B, d, hu, -, hr2⟩ := h2
  obtain rfl : u = .slice B z.length d := by simpa using hu
  exact marksPlay_law W A B c d y z (actsM_of hr) (actsT_of hr2)
end Go.Proofs.Ythaipgbjnigkhaa
