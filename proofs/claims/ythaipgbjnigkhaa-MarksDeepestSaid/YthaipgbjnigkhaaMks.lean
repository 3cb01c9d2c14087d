import Derived.Test.YthaipgbjnigkhaaMkr
namespace Go.Proofs.Ythaipgbjnigkhaa
open Go.RowKit Go.Shelf Go.Maps
set_option linter.unusedVariables false
set_option linter.unusedSimpArgs false
set_option linter.unusedSectionVars false
theorem path_sizes {T : Nodes} (G : Good11 T) (s : ByteArray) : ∀ x ∈ pathT T s, x.size ≤ 1000000 := fun x hx => by have := good_size G (pathT_has hx); omega
theorem cl_sizes {T N : Nodes} (G : Good11 T) (C : Cl T N) : ∀ x ∈ allN N, x.size ≤ 1000 := fun x hx => by have := good_size G (C.node x (mem_all.1 hx)); omega
set_option maxRecDepth 100000 in
set_option maxHeartbeats 16000000 in
theorem marksDeepest_law (w : World) (A B : Option Addr) (cap capB : Nat) (ts : List ActT) (l : List ByteArray) (h : ActsT w A ts) (hL : StrS w (.slice B l.length capB) l) (hsz : ∀ x ∈ l, x.size ≤ maxLen) :
    Calls Try.prog 9 #[.slice A ts.length cap, .slice B l.length capB] w fun e w' => e = .returned (.bool true) ∧ Below w.heap.size w w' := by
  have hB := Below.refl w.heap.size w
  have HT := Lib.hid h
  have HL := Lib.hid hL; have HSZ := Lib.hid hsz
  clear h hL hsz
  cases hf : fitsT ts with
  | false =>
    have HF2 := Lib.hid hf
    clear hf
    go_enter Try.func9, Try.ntmps9
    go_wp2_with (first | (go_at_call 10; refine (fits11_calls _ _ _ _ HT.out).mono ?_; rintro e w' ⟨rfl, hb⟩; rw [HF2.out]; have hB := bl_next hB hb; clear hb) | (go_at_call 49; refine (alive12_calls _).mono ?_; rintro e w' ⟨rfl, hb⟩; have hB := bl_next hB hb; clear hb))
    go_ret
    exact ⟨rfl, hB⟩
  | true =>
    obtain ⟨hlT, hfitT⟩ := fitsT_spec hf
    have HF2 := Lib.hid hf
    have HFITT := Lib.hid hfitT
    clear hf hfitT
    by_cases h60 : 60 < l.length
    · have h60I : (60 : Int) < l.length := by omega
      go_enter Try.func9, Try.ntmps9
      go_wp2_with (first | (go_at_call 10; refine (fits11_calls _ _ _ _ HT.out).mono ?_; rintro e w' ⟨rfl, hb⟩; rw [HF2.out]; have hB := bl_next hB hb; clear hb) | (go_at_call 49; refine (alive12_calls _).mono ?_; rintro e w' ⟨rfl, hb⟩; have hB := bl_next hB hb; clear hb))
      go_ret
      exact ⟨rfl, hB⟩
    have h60I : (l.length : Int) ≤ 60 := by omega
    go_enter Try.func9, Try.ntmps9
    go_wp2_with (first | (go_at_call 10; refine (fits11_calls _ _ _ _ HT.out).mono ?_; rintro e w' ⟨rfl, hb⟩; rw [HF2.out]; have hB := bl_next hB hb; clear hb) | (go_at_call 12; refine (tnew_st (St.start hB)).mono ?_; rintro e w1 ⟨tp, mb, rfl, S, hb⟩; have S0 : Hid (St w w1 [thT tp mb [(rootB, ⟨#[]⟩)]]) := Lib.hid S; clear S hb hB))
    go_loopw [7] (fun i wr => ∃ (k : Nat) (N : Nodes), i = .int .i64 k ∧ k ≤ ts.length ∧ Hid (Good11 N) ∧ Hid (St w wr [thT tp mb N])) (fun i _ => ts.length - (intOf i).toNat)
    case atStart => exact ⟨0, _, rfl, Nat.zero_le _, Lib.hid good_begin, S0⟩
    case round =>
      clear S0
      obtain ⟨k, T, rfl, hk, G, S⟩ := hrel
      by_cases hkl : k < ts.length
      · have hkI : (k : Int) < ts.length := by omega
        obtain ⟨r, hr⟩ : ∃ r, doT T (ts[k]'hkl) = r := ⟨_, rfl⟩
        obtain ⟨r, M⟩ := r
        have G2 := good_doT G.out (ts[k]'hkl)
        rw [hr] at G2
        have G3 := Lib.hid G2
        obtain ⟨b, off, rfl, hbA, c0, c1, c2, q0, q1⟩ := HT.out.at' k hkl
        obtain ⟨hs1, hs2⟩ := HFITT.out k hkl
        have HR := Lib.hid hr
        clear G2 hr
        generalize ts[k]'hkl = a at *
        have hsz1 : a.n.size ≤ 1000 := by omega
        have hsz2 : a.o.size ≤ 1000 := by omega
        have c0 := cb S.out.below c0; have c1 := cb S.out.below c1; have c2 := cb S.out.below c2
        go_wp2_with fail
        refine (doT_st S.out 0 rfl G.out a q0 q1 hsz1 hsz2 r M HR.out).mono ?_
        rintro e w4 ⟨rfl, S', hkk⟩
        have S4 : Hid (St w w4 [thT tp mb M]) := Lib.hid S'
        clear S S' hkk c0 c1 c2
        go_wp2_with fail
        go_roundw
        case rel => exact ⟨k + 1, M, by simp, by omega, G3, S4⟩
        case measure => simp [intOf]; omega
      · obtain rfl : k = ts.length := by omega
        clear hk hkl
        go_wp2_with fail
        refine (mnew_st S.out).mono ?_
        rintro e w3 ⟨mp, kb, rfl, S', hb⟩
        have S0 : Hid (St w w3 [thT tp mb T, thM mp kb []]) := Lib.hid S'
        clear S S' hb
        go_wp2_with fail
        go_loopw [9] (fun i wr => ∃ (k : Nat) (N : Nodes), i = .int .i64 k ∧ k ≤ l.length ∧ Hid (Cl T N) ∧ Hid (St w wr [thT tp mb T, thM mp kb N])) (fun i _ => l.length - (intOf i).toNat)
        case atStart => exact ⟨0, [], rfl, Nat.zero_le _, Lib.hid (cl_nil T), S0⟩
        case round =>
          clear S0
          obtain ⟨k, N, rfl, hk, C, S⟩ := hrel
          have hN := cl_len G.out C.out
          by_cases hkl : k < l.length
          · have hkI : (k : Int) < l.length := by omega
            obtain ⟨b1, o1, d1, he, q⟩ := HL.out.at' hkl
            cases he
            have hx := HSZ.out _ (List.getElem_mem hkl)
            generalize l[k]'hkl = x at q hx
            have HX := Lib.hid hx
            have q := cb S.out.below q
            obtain ⟨p, hp⟩ : ∃ p, pathT T x = p := ⟨_, rfl⟩
            have hp8 : p.length ≤ 8 := by rw [← hp]; exact G.out.deep x
            have HPS := Lib.hid (show ∀ y ∈ p, y.size ≤ 1000000 by rw [← hp]; exact path_sizes G.out x)
            have C2 := Lib.hid (show Cl T (markAll N p) by rw [← hp]; exact cl_mark G.out C.out x)
            have HP := Lib.hid hp
            clear hp hx
            go_wp2_with fail
            refine (path_any _ (S.out.tree 0 rfl) G.out x HX.out p HP.out).mono ?_
            rintro e w4 ⟨A1, k1, rfl, hv, hb⟩
            have V1 := Lib.hid hv; have S1 := Lib.hid (S.out.read hb)
            clear S hv hb q
            go_wp2_with fail
            refine (mark_st S1.out 1 rfl C.out.rise V1.out (by omega) HPS.out _ rfl).mono ?_
            rintro e w5 ⟨rfl, S', hkk⟩
            have S2 : Hid (St w w5 [thT tp mb T, thM mp kb (markAll N p)]) := Lib.hid S'
            clear S1 S' hkk
            go_wp2_with fail
            go_roundw
            case rel => exact ⟨k + 1, _, by simp, by omega, C2, S2⟩
            case measure => simp [intOf]; omega
          · obtain rfl : k = l.length := by omega
            clear hk hkl
            go_wp2_with fail
            refine (mall_calls _ (S.out.marks 1 rfl) C.out.rise (by omega)).mono ?_
            rintro e w4 ⟨v, rfl, hrow, hb⟩
            obtain ⟨av, cv, rfl⟩ := rw_form hrow
            have S0 := Lib.hid (S.out.read hb)
            clear S hrow hb
            obtain ⟨n, hn⟩ : ∃ n, N.length = n := ⟨_, rfl⟩
            rw [allN_length, hn]
            rw [hn] at hN
            have HN := Lib.hid hn
            clear hn
            go_wp2_with fail
            go_loopw [11] (fun i wr => ∃ (k : Nat) (N : Nodes), i = .int .i64 k ∧ N.length + k ≤ n ∧ n ≤ N.length + k ∧ Hid (Cl T N) ∧ Hid (St w wr [thT tp mb T, thM mp kb N])) (fun i _ => n - (intOf i).toNat)
            case atStart => exact ⟨0, N, rfl, by rw [HN.out]; omega, by rw [HN.out]; omega, C, S0⟩
            case round =>
              clear S0 C HN
              obtain ⟨k, N, rfl, hk1, hk2, C, S⟩ := hrel
              by_cases hkl : k < n
              · have hkI : (k : Int) < n := by omega
                have hk3 : (k : Int) < 300 := by omega
                obtain ⟨s, d, hsd, hsN, hsT, hmax⟩ := cl_next G.out C.out (by rintro rfl; simp at hk1 hk2; omega)
                have HSD := Lib.hid hsd; have HSN := Lib.hid hsN; have HST := Lib.hid hsT; have HMAX := Lib.hid hmax
                have hss := good_size G.out hsT
                clear hsd hsN hsT hmax
                go_wp2_with fail
                refine (mnext_calls _ (S.out.marks 1 rfl) C.out.rise (by omega) (S.out.tree 0 rfl) G.out (cl_sizes G.out C.out)).mono ?_
                rw [HSD.out]
                rintro e w5 ⟨rfl, hb⟩
                rw [show decide (0 < (s, d + 1).2) = true from decide_eq_true (Nat.succ_pos d)]
                have S1 := Lib.hid (S.out.read hb)
                clear S hb
                go_wp2_with fail
                refine (below_calls _ (S1.out.tree 0 rfl) G.out s).mono ?_
                rintro e w6 ⟨v, rfl, hrow, hb⟩
                have hLb := below_size G.out s
                have HLB := Lib.hid (show ∀ y ∈ belowN T s, y ≠ s → hasN N y = false from fun y hy hne => cl_below G.out HMAX.out HST.out hy hne)
                have HBS := Lib.hid (show ∀ y ∈ belowN T s, y.size ≤ 1000 from fun y hy => by
                  unfold belowN at hy
                  have := good_size G.out (mem_all.1 (List.mem_filter.1 hy).1); omega)
                obtain ⟨L, hL⟩ : ∃ L, belowN T s = L := ⟨_, rfl⟩
                rw [hL] at hrow hLb HLB HBS
                obtain ⟨a2, c2, rfl⟩ := rw_form hrow
                have V2 := Lib.hid (strS_of hrow); have S2 := Lib.hid (S1.out.read hb)
                clear S1 hrow hb hL
                obtain ⟨V, rfl⟩ : ∃ V : World, V = w6 := ⟨_, rfl⟩
                have hB := Below.refl V.heap.size V
                go_wp2_with fail
                go_loopw [15] (fun i wr => ∃ (j : Nat), i = .int .i64 j ∧ j ≤ L.length ∧ Below V.heap.size V wr) (fun i _ => L.length - (intOf i).toNat)
                case atStart => exact ⟨0, rfl, Nat.zero_le _, hB⟩
                case round =>
                  clear hB
                  obtain ⟨j, rfl, hj, hB⟩ := hrel
                  by_cases hjl : j < L.length
                  · have hjI : (j : Int) < L.length := by omega
                    obtain ⟨b3, o3, d3, he, q⟩ := V2.out.at' hjl
                    cases he
                    have hy := HLB.out _ (List.getElem_mem hjl)
                    have hys := HBS.out _ (List.getElem_mem hjl)
                    generalize L[j]'hjl = y at q hy hys
                    have HY := Lib.hid hy
                    clear hy
                    obtain ⟨V3, rfl⟩ : ∃ V3 : World, V3 = wr := ⟨_, rfl⟩
                    have q := cb hB q
                    have HB3 := Lib.hid hB
                    clear hB
                    by_cases hye : y = s
                    · subst hye
                      have hB := Below.refl V3.heap.size V3
                      go_wp2_with fail
                      go_roundw
                      case rel => exact ⟨j + 1, by simp, by omega, bl_next HB3.out hB⟩
                      case measure => simp [intOf]; omega
                    · have hbf := beqF hye
                      have hbn := neF hye
                      have HF := Lib.hid (HY.out hye)
                      clear hye
                      go_wp2_with fail
                      refine (mhas_calls _ ((S2.out.read HB3.out).marks 1 rfl) y (by omega)).mono ?_
                      rw [HF.out]
                      rintro e w7 ⟨rfl, hb⟩
                      go_wp2_with fail
                      go_roundw
                      case rel => exact ⟨j + 1, by simp, by omega, bl_next HB3.out hb⟩
                      case measure => simp [intOf]; omega
                  · obtain rfl : j = L.length := by omega
                    have S3 := Lib.hid (S2.out.read hB)
                    clear S2 hB V2 hj hjl
                    have HC := Lib.hid (show clearN N s = (0, delN N s) by unfold clearN; rw [HSN.out]; rfl)
                    have CD := Lib.hid (cl_clear G.out C.out HMAX.out)
                    have hdl := del_length C.out.rise HSN.out
                    obtain ⟨M, hM⟩ : ∃ M, delN N s = M := ⟨_, rfl⟩
                    rw [hM] at HC CD hdl
                    clear hM
                    go_wp2_with fail
                    refine (mhas_calls _ (S3.out.marks 1 rfl) s (by omega)).mono ?_
                    rw [HSN.out]
                    rintro e w7 ⟨rfl, hb⟩
                    have S4 := Lib.hid (S3.out.read hb)
                    clear S3 hb
                    go_wp2_with fail
                    refine (has_calls _ (S4.out.tree 0 rfl) s (by omega)).mono ?_
                    rw [HST.out]
                    rintro e w8 ⟨rfl, hb⟩
                    have S3 := Lib.hid (S4.out.read hb)
                    clear S4 hb
                    go_wp2_with fail
                    refine (clear_st S3.out 1 rfl C.out.rise s (by omega) 0 M HC.out).mono ?_
                    rintro e w9 ⟨rfl, S', hkk⟩
                    have S4 : Hid (St w w9 [thT tp mb T, thM mp kb M]) := Lib.hid S'
                    clear S3 S' hkk
                    go_wp2_with fail
                    refine (mall_calls _ (S4.out.marks 1 rfl) CD.out.rise (by omega)).mono ?_
                    rintro e w10 ⟨v, rfl, hrow, hb⟩
                    rw [allN_length] at hrow
                    obtain ⟨a3, c3, rfl⟩ := rw_form hrow
                    have V3 := Lib.hid (show StrS w10 (.slice a3 M.length c3) (allN M) from strS_of (by rw [allN_length]; exact hrow)); have S3 := Lib.hid (S4.out.read hb)
                    clear S4 hrow hb
                    have hE : ((M.length : Int) == (n : Int) - 1 - k) = true := by simp; omega
                    have hE2 : (M.length : Int) = (n : Int) - 1 - k := by omega
                    have HE2 := Lib.hid hE2
                    clear hE2
                    obtain ⟨V, rfl⟩ : ∃ V : World, V = w10 := ⟨_, rfl⟩
                    have hB := Below.refl V.heap.size V
                    have hMl : M.length ≤ 200 := by omega
                    go_wp2_with fail
                    clear hE
                    rename_i hq
                    clear hq
                    go_loopw [17] (fun i wr => ∃ (j : Nat), i = .int .i64 j ∧ j ≤ M.length ∧ Below V.heap.size V wr) (fun i _ => M.length - (intOf i).toNat)
                    case atStart => exact ⟨0, rfl, Nat.zero_le _, hB⟩
                    case round =>
                      clear hB
                      obtain ⟨j, rfl, hj, hB⟩ := hrel
                      by_cases hjl : j < M.length
                      · have hjI : (j : Int) < M.length := by omega
                        have hja : j < (allN M).length := by rw [allN_length]; exact hjl
                        obtain ⟨b3, o3, d3, he, q⟩ := V3.out.at' hja
                        rw [allN_length] at he
                        cases he
                        have hyM := mem_all.1 (List.getElem_mem hja)
                        have hyT := CD.out.node _ hyM
                        have hys := good_size G.out hyT
                        have hup := CD.out.up _ hyM
                        generalize (allN M)[j]'hja = y at q hyM hyT hys hup
                        have HUP := Lib.hid hup
                        clear hyM hyT hup hja
                        obtain ⟨V3, rfl⟩ : ∃ V3 : World, V3 = wr := ⟨_, rfl⟩
                        have q := cb hB q
                        have HB3 := Lib.hid hB
                        clear hB
                        have hB := Below.refl V3.heap.size V3
                        by_cases hye : y = rootB
                        · have hrl : y.toList = [114, 111, 111, 116] := by rw [hye]; exact root_list
                          clear hye
                          go_wp2_with fail
                          go_roundw
                          case rel => exact ⟨j + 1, by simp, by omega, bl_next HB3.out hB⟩
                          case measure => simp [intOf]; omega
                        · have HU := Lib.hid (HUP.out hye)
                          obtain ⟨hr1, hr2⟩ := rootF hye
                          clear hye hB
                          have S4 := Lib.hid (S3.out.read HB3.out)
                          go_wp2_with fail
                          refine (parent_calls _ (S4.out.tree 0 rfl) y (by omega)).mono ?_
                          rintro e w11 ⟨rfl, hb⟩
                          have S5 := Lib.hid (S4.out.read hb)
                          have hps := par_size G.out y
                          obtain ⟨p, hp⟩ : ∃ p, parN T y = p := ⟨_, rfl⟩
                          rw [hp] at HU hps ⊢
                          clear S4 hp
                          have HB4 := Lib.hid (bl_next HB3.out hb)
                          clear hb
                          go_wp2_with fail
                          refine (mhas_calls _ (S5.out.marks 1 rfl) p (by omega)).mono ?_
                          rw [HU.out]
                          rintro e w12 ⟨rfl, hb⟩
                          go_wp2_with fail
                          go_roundw
                          case rel => exact ⟨j + 1, by simp, by omega, bl_next HB4.out hb⟩
                          case measure => simp [intOf]; omega
                      · obtain rfl : j = M.length := by omega
                        have S4 := Lib.hid (S3.out.read hB)
                        clear S3 hB V3
                        go_wp2_with fail
                        go_roundw
                        case rel => exact ⟨k + 1, M, by simp, by omega, by omega, CD, S4⟩
                        case measure => simp [intOf]; omega
              · obtain rfl : k = n := by omega
                obtain rfl : N = [] := List.eq_nil_of_length_eq_zero (by omega)
                clear hk1 hk2 hkl
                go_wp2_with fail
                refine (mnext_calls _ (S.out.marks 1 rfl) List.Pairwise.nil (by decide) (S.out.tree 0 rfl) G.out (by rintro x ⟨⟩)).mono ?_
                rw [show nextD T (allN []) = (⟨#[]⟩, 0) from rfl]
                rintro e w5 ⟨rfl, hb⟩
                have S1 := Lib.hid (S.out.read hb)
                clear S hb
                go_wp2_with fail
                refine (alive12_calls _).mono ?_
                rintro e w6 ⟨rfl, hb⟩
                have S := Lib.hid (S1.out.read hb)
                clear S1 hb
                go_wp2_with fail
                refine (mall_calls _ (S.out.marks 1 rfl) List.Pairwise.nil (by decide)).mono ?_
                rintro e w7 ⟨v, rfl, hrow, hb⟩
                obtain ⟨a3, c3, rfl⟩ := rw_form hrow
                have S1 := Lib.hid (S.out.read hb)
                clear S hb hrow
                rw [show (allN []).length = 0 from rfl]
                go_wp2_with fail
                go_ret
                exact ⟨rfl, S1.out.below⟩
theorem marksDeepestWalk {W : World} (y : List ActT) (v : Value) (h : (kSlice kActT).K W anyB y [v]) (z : List ByteArray) (u : Value) (h2 : (kSlice kStrM).K W anyB z [u]) : Calls Try.prog 9 #[v, u] W fun e W' => e = .returned (.bool true) ∧ Below W.heap.size W W' := by
  obtain ⟨A, c, hv, -, hr⟩ := h
  obtain rfl : v = .slice A y.length c := by simpa using hv
  obtain ⟨B, d, hu, hd, hr2⟩ := h2
  obtain rfl : u = .slice B z.length d := by simpa using hu
  obtain ⟨k1, k2⟩ := strS_rowM hd hr2
  exact marksDeepest_law W A B c d y z (actsT_of hr) k1 k2
end Go.Proofs.Ythaipgbjnigkhaa
