import Derived.Test.YthaipgbjnigkhaaTtg
namespace Go.Proofs.Ythaipgbjnigkhaa
open Go.RowKit Go.Shelf Go.Maps
set_option linter.unusedVariables false
set_option linter.unusedSimpArgs false
set_option linter.unusedSectionVars false
theorem refT_mono {cur : World} {base base' rp : Nat} {v : Value} {N : Nodes} (R : RefT cur base rp v N) (h : base' ≤ base) : RefT cur base' rp v N := ⟨R.box, rw_mono R.row h, Nat.le_trans h R.bas⟩
theorem below_size {M : Nodes} (G : Good11 M) (s : ByteArray) : (belowN M s).length ≤ 1000000 := by
  have h1 := List.length_filter_le (fun z => inL (pathT M z) s) (allN M)
  rw [allN_length] at h1
  have := G.few
  unfold belowN; omega
theorem below_to {w cur : World} {tp mb : Nat} {N : Nodes} (h : TS w cur tp mb N) (G : Good11 N) (s : ByteArray) (l : List ByteArray) (hl : belowN N s = l) :
    Calls Try.prog 23 #[.pointer (some ⟨tp, 0, none⟩), .string s] cur fun e w' => ∃ A c, e = .returned (.slice A l.length c) ∧ StrT w' (.slice A l.length c) l ∧ TS w w' tp mb N ∧ Below cur.heap.size cur w' := by
  refine (below_calls cur h.at' G s).mono ?_
  rw [hl]
  rintro e w' ⟨v, rfl, hrow, hb⟩
  obtain ⟨A, c, rfl⟩ := rw_form hrow
  exact ⟨A, c, rfl, ⟨_, hrow⟩, h.read hb, hb⟩
set_option maxRecDepth 100000 in
set_option maxHeartbeats 8000000 in
theorem treePlays_law (w : World) (A : Option Addr) (cap : Nat) (xs : List ActT) (h : ActsT w A xs) :
    Calls Try.prog 3 #[.slice A xs.length cap] w fun e w' => e = .returned (.bool true) ∧ Below w.heap.size w w' := by
  have hB := Below.refl w.heap.size w
  have H := Lib.hid h
  clear h
  cases hf : fitsT xs with
  | false =>
    have HF := Lib.hid hf
    clear hf
    go_enter Try.func3, Try.ntmps3
    go_wp2_with (first | (go_at_call 10; refine (fits11_calls _ _ _ _ H.out).mono ?_; rintro e w' ⟨rfl, hb⟩; rw [HF.out]; have hB := bl_next hB hb; clear hb) | (go_at_call 11; refine (alive11_calls _).mono ?_; rintro e w' ⟨rfl, hb⟩; have hB := bl_next hB hb; clear hb))
    go_ret
    exact ⟨rfl, hB⟩
  | true =>
    obtain ⟨hl, hfit⟩ := fitsT_spec hf
    have HF := Lib.hid hf
    have HFIT := Lib.hid hfit
    clear hf hfit
    go_enter Try.func3, Try.ntmps3
    go_wp2_with (first | (go_at_call 10; refine (fits11_calls _ _ _ _ H.out).mono ?_; rintro e w' ⟨rfl, hb⟩; rw [HF.out]; have hB := bl_next hB hb; clear hb) | (go_at_call 12; refine (new_ts w _ hB).mono ?_; rintro e w1 ⟨tp, mb, rfl, S, hb, -⟩; have S0 := Lib.hid S; clear S hb hB) | (go_at_call 13; refine (rbegin_calls _).mono ?_; rintro e w2 ⟨rp, u, rfl, R, hb⟩; have S1 := Lib.hid (S0.out.read hb); have R1 := Lib.hid (refT_mono R S0.out.below.size); clear R hb S0))
    go_loopw [6] (fun i wr => ∃ (k : Nat) (N : Nodes) (u : Value), i = .int .i64 k ∧ k ≤ xs.length ∧ Hid (Good11 N) ∧ Hid (TS w wr tp mb N) ∧ Hid (RefT wr w.heap.size rp u N)) (fun i _ => xs.length - (intOf i).toNat)
    case atStart => exact ⟨0, _, _, rfl, Nat.zero_le _, Lib.hid good_begin, S1, R1⟩
    case round =>
      clear S1 R1
      obtain ⟨k, N, u, rfl, hk, G, S, R⟩ := hrel
      by_cases hkl : k < xs.length
      · have hkI : (k : Int) < xs.length := by omega
        obtain ⟨r, hr⟩ : ∃ r, doT N (xs[k]'hkl) = r := ⟨_, rfl⟩
        obtain ⟨r, M⟩ := r
        have G2 := good_doT G.out (xs[k]'hkl)
        rw [hr] at G2
        have hM := G2.few
        have hMl : M.length ≤ 1000000 := Nat.le_trans hM (by decide)
        have HD := Lib.hid (show ∀ x, (pathT M x).length < 19 from fun x => Nat.lt_of_le_of_lt (G2.deep x) (by decide))
        have G3 := Lib.hid G2
        obtain ⟨b, off, rfl, hbA, c0, c1, c2, q0, q1⟩ := H.out.at' k hkl
        obtain ⟨hs1, hs2⟩ := HFIT.out k hkl
        have HR := Lib.hid hr
        clear G2 hr
        generalize xs[k]'hkl = a at *
        have C0 := Lib.hid c0; have C1 := Lib.hid c1; have C2 := Lib.hid c2
        clear c0 c1 c2
        have hsz1 : a.n.size ≤ 1000 := by omega
        have hsz2 : a.o.size ≤ 1000 := by omega
        have c0 := cb S.out.below C0.out; have c1 := cb S.out.below C1.out; have c2 := cb S.out.below C2.out
        go_wp2_with fail
        refine (doT_tk S.out G.out a q0 q1 hsz1 hsz2 r M HR.out).mono ?_
        rintro e w4 ⟨rfl, S', hkk⟩
        have R4 := Lib.hid (refT_wrote R.out S.out.at' hkk); have S4 := Lib.hid S'
        clear S S' hkk c0 c1 c2 R
        have c0 := cb S4.out.below C0.out; have c1 := cb S4.out.below C1.out; have c2 := cb S4.out.below C2.out
        go_wp2_with fail
        refine (wantT_calls R4.out G.out a q0 q1 hsz1 hsz2 r M HR.out).mono ?_
        rintro e w5 ⟨rfl, u5, R', hkk⟩
        have S5 := Lib.hid (ts_ref S4.out R4.out hkk); have R5 := Lib.hid R'
        clear S4 R4 R' hkk c0 c1 c2
        go_wp2_with fail
        refine (all_to S5.out G3.out _ rfl).mono ?_
        rintro e w6 ⟨A1, k1, rfl, T, S', hb⟩
        have T6 := Lib.hid T; have S6 := Lib.hid S'; have R6 := Lib.hid (R5.out.below hb)
        clear S5 R5 T S' hb
        go_wp2_with fail
        refine (rallT_calls _ R6.out hMl).mono ?_
        rintro e w7 ⟨v7, rfl, hrow, hb⟩
        obtain ⟨A2, k2, rfl⟩ := rw_form hrow
        have T7 := Lib.hid (T6.out.below hb); have U7 := Lib.hid (strS_of hrow); have S7 := Lib.hid (S6.out.read hb); have R7 := Lib.hid (R6.out.below hb)
        clear S6 R6 T6 hrow hb
        go_wp2_with fail
        refine (texts_calls _ T7.out.strS U7.out (by rw [allN_length]; omega) (by rw [allN_length]; omega)).mono ?_
        rintro e w8 ⟨rfl, hb⟩
        rw [show decide (allN M = allN M) = true from decide_eq_true rfl]
        have S8 := Lib.hid (S7.out.read hb); have R8 := Lib.hid (R7.out.below hb)
        clear S7 R7 T7 U7 hb
        have c1 := cb S8.out.below C1.out; have c2 := cb S8.out.below C2.out
        go_upto_region 14 with fail
        go_region
        have hb : Below w8.heap.size w8 (w8.alloc (.cells #[.string a.n, .string a.o] 9)).drew := ((Below.refl w8.heap.size w8).alloc (Nat.le_refl _) _).drew
        have hbk := blk_drew (blk_new w8 (.cells #[.string a.n, .string a.o] 9))
        obtain ⟨nb, hnb⟩ : ∃ nb, nb = w8.heap.size := ⟨_, rfl⟩
        obtain ⟨V, hV⟩ : ∃ V, V = (w8.alloc (.cells #[.string a.n, .string a.o] 9)).drew := ⟨_, rfl⟩
        rw [← hV] at hb hbk ⊢
        rw [← hnb] at hbk ⊢
        have N9 := Lib.hid (show StrS V (.slice (some ⟨nb, 0, none⟩) 2 2) [a.n, a.o] from strS_lit (l := [a.n, a.o]) hbk)
        have S9 := Lib.hid (S8.out.read hb); have R9 := Lib.hid (R8.out.below hb)
        clear S8 R8 hb hbk hV hnb c1 c2
        go_wp2_with fail
        go_loopw [11] (fun i wr => ∃ j : Nat, i = .int .i64 j ∧ j ≤ 2 ∧ Hid (StrS wr (.slice (some ⟨nb, 0, none⟩) 2 2) [a.n, a.o]) ∧ Hid (TS w wr tp mb M) ∧ Hid (RefT wr w.heap.size rp u5 M)) (fun i _ => 2 - (intOf i).toNat)
        case atStart => exact ⟨0, rfl, Nat.zero_le _, N9, S9, R9⟩
        case round =>
          clear N9 S9 R9
          obtain ⟨j, rfl, hj, N5, S5, R5⟩ := hrel
          by_cases hj2 : j < 2
          · have hjI : (j : Int) < 2 := by omega
            obtain ⟨b9, o9, c9, he, q⟩ := N5.out.at' (j := j) hj2
            cases he
            obtain ⟨s, hs, hss⟩ : ∃ s, [a.n, a.o][j]'hj2 = s ∧ s.size ≤ 1000 := by
              have : j = 0 ∨ j = 1 := by omega
              rcases this with rfl | rfl
              · exact ⟨_, rfl, hsz1⟩
              · exact ⟨_, rfl, hsz2⟩
            rw [hs, Nat.zero_add] at q
            clear hs
            go_wp2_with fail
            refine (path_to S5.out G3.out s hss _ rfl).mono ?_
            clear q
            rintro e w2 ⟨A1, k1, rfl, T, S', hb⟩
            have T6 := Lib.hid T; have S6 := Lib.hid S'; have R6 := Lib.hid (R5.out.below hb); have N6 := Lib.hid (N5.out.below hb)
            clear S5 R5 N5 T S' hb
            go_wp2_with fail
            refine (rpathT_calls _ R6.out G3.out.rise HD.out s hMl).mono ?_
            rintro e w3 ⟨v7, rfl, hrow, hb⟩
            obtain ⟨A2, k2, rfl⟩ := rw_form hrow
            have T7 := Lib.hid (T6.out.below hb); have U7 := Lib.hid (strS_of hrow); have S7 := Lib.hid (S6.out.read hb); have R7 := Lib.hid (R6.out.below hb); have N7 := Lib.hid (N6.out.below hb)
            clear S6 R6 N6 T6 hrow hb
            go_wp2_with fail
            refine (texts_calls _ T7.out.strS U7.out (path_size M s G3.out) (path_size M s G3.out)).mono ?_
            rintro e w4 ⟨rfl, hb⟩
            rw [show decide (pathT M s = pathT M s) = true from decide_eq_true rfl]
            have S5 := Lib.hid (S7.out.read hb); have R5 := Lib.hid (R7.out.below hb); have N5 := Lib.hid (N7.out.below hb)
            clear S7 R7 N7 T7 U7 hb
            go_wp2_with fail
            refine (children_to S5.out G3.out s _ rfl).mono ?_
            rintro e w2 ⟨A1, k1, rfl, T, S', hb⟩
            have T6 := Lib.hid T; have S6 := Lib.hid S'; have R6 := Lib.hid (R5.out.below hb); have N6 := Lib.hid (N5.out.below hb)
            clear S5 R5 N5 T S' hb
            go_wp2_with fail
            refine (rchildT_calls _ R6.out s hMl).mono ?_
            rintro e w3 ⟨v7, rfl, hrow, hb⟩
            obtain ⟨A2, k2, rfl⟩ := rw_form hrow
            have T7 := Lib.hid (T6.out.below hb); have U7 := Lib.hid (strS_of hrow); have S7 := Lib.hid (S6.out.read hb); have R7 := Lib.hid (R6.out.below hb); have N7 := Lib.hid (N6.out.below hb)
            clear S6 R6 N6 T6 hrow hb
            go_wp2_with fail
            refine (texts_calls _ T7.out.strS U7.out (Nat.le_trans (kids_le G3.out s) (by decide)) (Nat.le_trans (kids_le G3.out s) (by decide))).mono ?_
            rintro e w4 ⟨rfl, hb⟩
            rw [show decide (childN M s = childN M s) = true from decide_eq_true rfl]
            have S5 := Lib.hid (S7.out.read hb); have R5 := Lib.hid (R7.out.below hb); have N5 := Lib.hid (N7.out.below hb)
            clear S7 R7 N7 T7 U7 hb
            go_wp2_with fail
            refine (below_to S5.out G3.out s _ rfl).mono ?_
            rintro e w2 ⟨A1, k1, rfl, T, S', hb⟩
            have T6 := Lib.hid T; have S6 := Lib.hid S'; have R6 := Lib.hid (R5.out.below hb); have N6 := Lib.hid (N5.out.below hb)
            clear S5 R5 N5 T S' hb
            go_wp2_with fail
            refine (rbelowT_calls _ R6.out G3.out.rise HD.out s hMl).mono ?_
            rintro e w3 ⟨v7, rfl, hrow, hb⟩
            obtain ⟨A2, k2, rfl⟩ := rw_form hrow
            have T7 := Lib.hid (T6.out.below hb); have U7 := Lib.hid (strS_of hrow); have S7 := Lib.hid (S6.out.read hb); have R7 := Lib.hid (R6.out.below hb); have N7 := Lib.hid (N6.out.below hb)
            clear S6 R6 N6 T6 hrow hb
            go_wp2_with fail
            refine (texts_calls _ T7.out.strS U7.out (below_size G3.out s) (below_size G3.out s)).mono ?_
            rintro e w4 ⟨rfl, hb⟩
            rw [show decide (belowN M s = belowN M s) = true from decide_eq_true rfl]
            have S5 := Lib.hid (S7.out.read hb); have R5 := Lib.hid (R7.out.below hb); have N5 := Lib.hid (N7.out.below hb)
            clear S7 R7 N7 T7 U7 hb
            go_wp2_with fail
            refine (has_ts S5.out s hss _ rfl).mono ?_
            rintro e w2 ⟨rfl, S', hb⟩
            have S6 := Lib.hid S'; have R6 := Lib.hid (R5.out.below hb); have N6 := Lib.hid (N5.out.below hb)
            clear S5 R5 N5 S' hb
            go_wp2_with fail
            refine (rhasT_calls _ R6.out s hMl).mono ?_
            rintro e w3 ⟨rfl, hb⟩
            have S5 := Lib.hid (S6.out.read hb); have R5 := Lib.hid (R6.out.below hb); have N5 := Lib.hid (N6.out.below hb)
            clear S6 R6 N6 hb
            go_wp2_with fail
            refine (parent_ts S5.out s hss _ rfl).mono ?_
            rintro e w2 ⟨rfl, S', hb⟩
            have S6 := Lib.hid S'; have R6 := Lib.hid (R5.out.below hb); have N6 := Lib.hid (N5.out.below hb)
            clear S5 R5 N5 S' hb
            go_wp2_with fail
            refine (rparT_calls _ R6.out G3.out.rise s hMl).mono ?_
            rintro e w3 ⟨rfl, hb⟩
            have S5 := Lib.hid (S6.out.read hb); have R5 := Lib.hid (R6.out.below hb); have N5 := Lib.hid (N6.out.below hb)
            clear S6 R6 N6 hb
            go_wp2_with fail
            go_roundw
            case rel => exact ⟨j + 1, by simp, by omega, N5, S5, R5⟩
            case measure => simp [intOf]; omega
          · obtain rfl : j = 2 := by omega
            go_wp2_with fail
            go_roundw
            case rel => exact ⟨k + 1, M, u5, by simp, by omega, G3, S5, R5⟩
            case measure => simp [intOf]; omega
      · obtain rfl : k = xs.length := by omega
        have hB := S.out.below
        clear hk hkl S R G
        go_wp2_with fail
        go_loopw [17] (fun i wr => ∃ j : Nat, i = .int .i64 j ∧ j ≤ 4 ∧ Below w.heap.size w wr) (fun i _ => 4 - (intOf i).toNat)
        case atStart => exact ⟨0, rfl, Nat.zero_le _, hB⟩
        case round =>
          clear hB
          obtain ⟨j, rfl, hj, hB⟩ := hrel
          by_cases hj4 : j < 4
          · have hcase : j = 0 ∨ j = 1 ∨ j = 2 ∨ j = 3 := by omega
            rcases hcase with rfl | rfl | rfl | rfl
            · go_wp2_with fail
              refine (doT_nil _ 0 (by decide) _ _).mono ?_
              rintro e w2 ⟨rfl, hb⟩
              have hB := bl_next hB hb
              clear hb
              go_wp2_with fail
              go_roundw
              case rel => exact ⟨1, rfl, by decide, hB⟩
              case measure => simp [intOf]
            · go_wp2_with fail
              refine (doT_nil _ 1 (by decide) _ _).mono ?_
              rintro e w2 ⟨rfl, hb⟩
              have hB := bl_next hB hb
              clear hb
              go_wp2_with fail
              go_roundw
              case rel => exact ⟨2, rfl, by decide, hB⟩
              case measure => simp [intOf]
            · go_wp2_with fail
              refine (doT_nil _ 2 (by decide) _ _).mono ?_
              rintro e w2 ⟨rfl, hb⟩
              have hB := bl_next hB hb
              clear hb
              go_wp2_with fail
              go_roundw
              case rel => exact ⟨3, rfl, by decide, hB⟩
              case measure => simp [intOf]
            · go_wp2_with fail
              refine (doT_nil _ 3 (by decide) _ _).mono ?_
              rintro e w2 ⟨rfl, hb⟩
              have hB := bl_next hB hb
              clear hb
              go_wp2_with fail
              go_roundw
              case rel => exact ⟨4, rfl, by decide, hB⟩
              case measure => simp [intOf]
          · obtain rfl : j = 4 := by omega
            go_wp2_with fail
            refine (alive11_calls _).mono ?_; rintro e w2 ⟨rfl, hb⟩; have hB := bl_next hB hb; clear hb
            go_wp2_with fail
            refine (has_nil _ _).mono ?_; rintro e w3 ⟨rfl, hb⟩; have hB := bl_next hB hb; clear hb
            go_wp2_with fail
            refine (parent_nil _ _).mono ?_; rintro e w4 ⟨rfl, hb⟩; have hB := bl_next hB hb; clear hb
            go_wp2_with fail
            refine (path_nil _ _).mono ?_; rintro e w5 ⟨rfl, hb⟩; have hB := bl_next hB hb; clear hb
            go_wp2_with fail
            refine (children_nil _ _).mono ?_; rintro e w6 ⟨rfl, hb⟩; have hB := bl_next hB hb; clear hb
            go_wp2_with fail
            refine (all_nil _).mono ?_; rintro e w7 ⟨rfl, hb⟩; have hB := bl_next hB hb; clear hb
            go_wp2_with fail
            refine (below_nil _ _).mono ?_; rintro e w8 ⟨rfl, hb⟩; have hB := bl_next hB hb; clear hb
            go_wp2_with fail
            go_ret
            exact ⟨rfl, hB⟩
theorem treePlaysWalk {W : World} (y : List ActT) (v : Value) (h : (kSlice kActT).K W anyB y [v]) : Calls Try.prog 3 #[v] W fun e W' => e = .returned (.bool true) ∧ Below W.heap.size W W' := by
  obtain ⟨A, c, hv, -, hr⟩ := h
  obtain rfl : v = .slice A y.length c := by simpa using hv
  exact treePlays_law W A c y (actsT_of hr)
end Go.Proofs.Ythaipgbjnigkhaa
