import Derived.Test.YthaipgbjnigkhaaTtc
namespace Go.Proofs.Ythaipgbjnigkhaa
open Go.RowKit Go.Shelf Go.Maps
set_option linter.unusedVariables false
set_option linter.unusedSimpArgs false
set_option linter.unusedSectionVars false
/-! ### Create: the row with one more -/
def doneTo (N : Nodes) (s : ByteArray) (k : Nat) : Bool := (N.take k).any fun q => ltB s q.1
theorem ins_any {L : Nodes} {s p : ByteArray} (h : (L.any fun q => ltB s q.1) = true) (R : Nodes) : insN (L ++ R) s p = insN L s p ++ R := by
  induction L with
  | nil => cases h
  | cons y r ih =>
    simp only [List.cons_append, insN]
    split
    · rfl
    · rename_i hy
      rw [List.any_cons, Bool.or_eq_true] at h
      rw [ih (h.resolve_left hy)]; rfl
theorem ins_none {L : Nodes} {s p : ByteArray} (h : (L.any fun q => ltB s q.1) = false) (R : Nodes) : insN (L ++ R) s p = L ++ insN R s p := by
  induction L with
  | nil => rfl
  | cons y r ih =>
    rw [List.any_cons, Bool.or_eq_false_iff] at h
    simp only [List.cons_append, insN, h.1, Bool.false_eq_true, if_false]
    rw [ih h.2]
def outTo (N : Nodes) (s p : ByteArray) (k : Nat) : Nodes := if doneTo N s k then insN (N.take k) s p else N.take k
theorem outTo_zero (N : Nodes) (s p : ByteArray) : outTo N s p 0 = [] ∧ doneTo N s 0 = false := by simp [outTo, doneTo]
theorem outTo_done {N : Nodes} {s p : ByteArray} {k : Nat} (hk : k < N.length) (h : doneTo N s k = true) : doneTo N s (k + 1) = true ∧ outTo N s p (k + 1) = outTo N s p k ++ [N[k]'hk] := by
  have h2 : doneTo N s (k + 1) = true := by
    unfold doneTo at h ⊢
    rw [List.take_succ_eq_append_getElem hk, List.any_append, h]; rfl
  refine ⟨h2, ?_⟩
  unfold outTo
  rw [h2, h, if_pos rfl, if_pos rfl, List.take_succ_eq_append_getElem hk]
  exact ins_any h _
theorem outTo_here {N : Nodes} {s p : ByteArray} {k : Nat} (hk : k < N.length) (h : doneTo N s k = false) (hl : ltB s (N[k]'hk).1 = true) : doneTo N s (k + 1) = true ∧ outTo N s p (k + 1) = outTo N s p k ++ [(s, p)] ++ [N[k]'hk] := by
  have h2 : doneTo N s (k + 1) = true := by
    unfold doneTo at h ⊢
    rw [List.take_succ_eq_append_getElem hk, List.any_append, h]; simp [hl]
  refine ⟨h2, ?_⟩
  unfold outTo
  rw [h2, h, if_pos rfl, if_neg (by simp), List.take_succ_eq_append_getElem hk]
  rw [ins_none h]
  simp [insN, hl]
theorem outTo_not {N : Nodes} {s p : ByteArray} {k : Nat} (hk : k < N.length) (h : doneTo N s k = false) (hl : ltB s (N[k]'hk).1 = false) : doneTo N s (k + 1) = false ∧ outTo N s p (k + 1) = outTo N s p k ++ [N[k]'hk] := by
  have h2 : doneTo N s (k + 1) = false := by
    unfold doneTo at h ⊢
    rw [List.take_succ_eq_append_getElem hk, List.any_append, h]; simp [hl]
  refine ⟨h2, ?_⟩
  unfold outTo
  rw [h2, h, if_neg (by simp), if_neg (by simp), List.take_succ_eq_append_getElem hk]
theorem outTo_all_done {N : Nodes} {s p : ByteArray} (h : doneTo N s N.length = true) : outTo N s p N.length = insN N s p := by
  unfold outTo; rw [h, if_pos rfl, List.take_length]
theorem outTo_all_not {N : Nodes} {s p : ByteArray} (h : doneTo N s N.length = false) : outTo N s p N.length ++ [(s, p)] = insN N s p := by
  unfold outTo; rw [h, if_neg (by simp), List.take_length]
  unfold doneTo at h
  rw [List.take_length] at h
  have := ins_none (p := p) h []
  rw [List.append_nil] at this
  rw [this]; rfl
theorem outTo_len (N : Nodes) (s p : ByteArray) (k : Nat) : (outTo N s p k).length ≤ k + 1 := by
  unfold outTo
  split
  · rw [insN_length, List.length_take]; omega
  · rw [List.length_take]; omega
section
variable {base rp : Nat} {v : Value} {N : Nodes}
set_option maxRecDepth 100000 in
set_option maxHeartbeats 8000000 in
theorem rcreateT_calls (w : World) (h : RefT w base rp v N) (hR : Rising N) (hd : ∀ s, (pathT N s).length < 19) (s p : ByteArray) (hl : N.length ≤ 1000000) (hfit : ∀ x y, (x, y) ∈ N → x.size ≤ 100 ∧ y.size ≤ 100) (hs : s.size ≤ 1000) (r : Int) (M : Nodes) (hr : createR N s p = (r, M)) :
    Calls Try.prog 62 #[.pointer (some ⟨rp, 0, none⟩), .string s, .string p] w fun e w' => e = .returned (.int .i64 r) ∧ ∃ u, RefT w' base rp u M ∧ Kept (fun q => q = rp) w w' := by
  have hB := Below.refl w.heap.size w
  have H := Lib.hid h
  have HD := Lib.hid hd
  have HFIT := Lib.hid hfit
  obtain ⟨ao, cap, rfl⟩ := h.form
  have C0 := Lib.hid (show w.cell? ⟨rp, 0, none⟩ = some (.slice ao N.length cap) from blk_cell h.box 0)
  have CF := Lib.hid (show w.frozen? ⟨rp, 0, none⟩ = false from blk_free h.box 0)
  clear h hd hfit
  unfold createR at hr
  cases h1 : rightB s with
  | false =>
    rw [h1] at hr
    have H1 := Lib.hid h1
    clear h1
    obtain ⟨rfl, rfl⟩ : r = 1 ∧ M = N := by simpa [eq_comm] using hr
    clear hr
    go_enter Try.func62, Try.ntmps62
    go_wp2_with fail
    refine (refRight_calls s _ (by omega)).mono ?_; rintro e w' ⟨rfl, nn, rfl⟩; rw [H1.out]; have hB := bl_dN hB nn
    go_wp2_with fail
    go_ret
    exact ⟨rfl, _, H.out.below hB, kept_of_below hB⟩
  | true =>
    rw [h1] at hr
    have H1 := Lib.hid h1
    clear h1
    simp only [Bool.not_true, Bool.false_eq_true, if_false] at hr
    cases h2 : hasN N s with
    | true =>
      rw [h2] at hr
      have H2 := Lib.hid h2
      clear h2
      obtain ⟨rfl, rfl⟩ : r = 5 ∧ M = N := by simpa [eq_comm] using hr
      clear hr
      go_enter Try.func62, Try.ntmps62
      go_wp2_with fail
      refine (refRight_calls s _ (by omega)).mono ?_; rintro e w' ⟨rfl, nn, rfl⟩; rw [H1.out]; have hB := bl_dN hB nn
      go_wp2_with fail
      refine (rhasT_calls _ (H.out.below hB) s hl).mono ?_; rintro e w' ⟨rfl, hb⟩; rw [H2.out]; have hB := bl_next hB hb; clear hb
      go_wp2_with fail
      go_ret
      exact ⟨rfl, _, H.out.below hB, kept_of_below hB⟩
    | false =>
      rw [h2] at hr
      have H2 := Lib.hid h2
      clear h2
      simp only [Bool.false_eq_true, if_false] at hr
      cases h3 : hasN N p with
      | false =>
        rw [h3] at hr
        have H3 := Lib.hid h3
        clear h3
        obtain ⟨rfl, rfl⟩ : r = 4 ∧ M = N := by simpa [eq_comm] using hr
        clear hr
        go_enter Try.func62, Try.ntmps62
        go_wp2_with fail
        refine (refRight_calls s _ (by omega)).mono ?_; rintro e w' ⟨rfl, nn, rfl⟩; rw [H1.out]; have hB := bl_dN hB nn
        go_wp2_with fail
        refine (rhasT_calls _ (H.out.below hB) s hl).mono ?_; rintro e w' ⟨rfl, hb⟩; rw [H2.out]; have hB := bl_next hB hb; clear hb
        go_wp2_with fail
        refine (rhasT_calls _ (H.out.below hB) p hl).mono ?_; rintro e w' ⟨rfl, hb⟩; rw [H3.out]; have hB := bl_next hB hb; clear hb
        go_wp2_with fail
        go_ret
        exact ⟨rfl, _, H.out.below hB, kept_of_below hB⟩
      | true =>
        rw [h3] at hr
        have H3 := Lib.hid h3
        clear h3
        simp only [Bool.not_true, Bool.false_eq_true, if_false] at hr
        obtain ⟨pl, hpl⟩ : ∃ l, pathT N p = l := ⟨_, rfl⟩
        have HPL := Lib.hid hpl
        rw [hpl] at hr
        have hpl19 : pl.length < 19 := by rw [← hpl]; exact HD.out p
        clear hpl
        by_cases h4 : 8 ≤ pl.length
        · rw [if_pos h4] at hr
          obtain ⟨rfl, rfl⟩ : r = 9 ∧ M = N := by simpa [eq_comm] using hr
          clear hr
          have h4I : (8 : Int) < (pl.length : Int) + 1 := by omega
          clear h4
          go_enter Try.func62, Try.ntmps62
          go_wp2_with fail
          refine (refRight_calls s _ (by omega)).mono ?_; rintro e w' ⟨rfl, nn, rfl⟩; rw [H1.out]; have hB := bl_dN hB nn
          go_wp2_with fail
          refine (rhasT_calls _ (H.out.below hB) s hl).mono ?_; rintro e w' ⟨rfl, hb⟩; rw [H2.out]; have hB := bl_next hB hb; clear hb
          go_wp2_with fail
          refine (rhasT_calls _ (H.out.below hB) p hl).mono ?_; rintro e w' ⟨rfl, hb⟩; rw [H3.out]; have hB := bl_next hB hb; clear hb
          go_wp2_with fail
          refine (rpathT_calls _ (H.out.below hB) hR HD.out p hl).mono ?_; rintro e w' ⟨u, rfl, hrow, hb⟩; rw [HPL.out] at hrow; obtain ⟨au, cu, rfl⟩ := rw_form hrow; have hB := bl_next hB hb; clear hb hrow
          go_wp2_with fail
          go_ret
          exact ⟨rfl, _, H.out.below hB, kept_of_below hB⟩
        · rw [if_neg h4] at hr
          have h4I : (pl.length : Int) + 1 ≤ 8 := by omega
          clear h4
          by_cases h5 : 200 ≤ N.length
          · rw [if_pos h5] at hr
            obtain ⟨rfl, rfl⟩ : r = 3 ∧ M = N := by simpa [eq_comm] using hr
            clear hr
            have h5I : (200 : Int) < (M.length : Int) + 1 := by omega
            clear h5
            go_enter Try.func62, Try.ntmps62
            go_wp2_with fail
            refine (refRight_calls s _ (by omega)).mono ?_; rintro e w' ⟨rfl, nn, rfl⟩; rw [H1.out]; have hB := bl_dN hB nn
            go_wp2_with fail
            refine (rhasT_calls _ (H.out.below hB) s hl).mono ?_; rintro e w' ⟨rfl, hb⟩; rw [H2.out]; have hB := bl_next hB hb; clear hb
            go_wp2_with fail
            refine (rhasT_calls _ (H.out.below hB) p hl).mono ?_; rintro e w' ⟨rfl, hb⟩; rw [H3.out]; have hB := bl_next hB hb; clear hb
            go_wp2_with fail
            refine (rpathT_calls _ (H.out.below hB) hR HD.out p hl).mono ?_; rintro e w' ⟨u, rfl, hrow, hb⟩; rw [HPL.out] at hrow; obtain ⟨au, cu, rfl⟩ := rw_form hrow; have hB := bl_next hB hb; clear hb hrow
            have c0 := cb hB C0.out
            go_wp2_with fail
            go_ret
            exact ⟨rfl, _, H.out.below hB, kept_of_below hB⟩
          · rw [if_neg h5] at hr
            obtain ⟨rfl, rfl⟩ : r = 0 ∧ M = insN N s p := by simpa [eq_comm] using hr
            clear hr
            have h5I : (N.length : Int) + 1 ≤ 200 := by omega
            clear h5
            go_enter Try.func62, Try.ntmps62
            go_wp2_with fail
            refine (refRight_calls s _ (by omega)).mono ?_; rintro e w' ⟨rfl, nn, rfl⟩; rw [H1.out]; have hB := bl_dN hB nn
            go_wp2_with fail
            refine (rhasT_calls _ (H.out.below hB) s hl).mono ?_; rintro e w' ⟨rfl, hb⟩; rw [H2.out]; have hB := bl_next hB hb; clear hb
            go_wp2_with fail
            refine (rhasT_calls _ (H.out.below hB) p hl).mono ?_; rintro e w' ⟨rfl, hb⟩; rw [H3.out]; have hB := bl_next hB hb; clear hb
            go_wp2_with fail
            refine (rpathT_calls _ (H.out.below hB) hR HD.out p hl).mono ?_; rintro e w' ⟨u, rfl, hrow, hb⟩; rw [HPL.out] at hrow; obtain ⟨au, cu, rfl⟩ := rw_form hrow; have hB := bl_next hB hb; clear hb hrow
            have c0 := cb hB C0.out
            go_wp2_with fail
            clear c0
            go_loopw [8, 9, 10] (fun s8 s9 i wr => ∃ (k : Nat) (u : Value) (d : Bool), (i = .int .i64 k ∧ s8 = u ∧ s9 = .bool d) ∧ k ≤ N.length ∧ Hid (doneTo N s k = d) ∧ Hid (wr.ownsRow w.heap.size 88 2 u (outTo N s p k).length (nodesC (outTo N s p k))) ∧ Below w.heap.size w wr) (fun _ _ i _ => N.length - (intOf i).toNat)
            case atStart => exact ⟨0, _, false, ⟨rfl, rfl, rfl⟩, Nat.zero_le _, Lib.hid (outTo_zero N s p).2, Lib.hid (by rw [(outTo_zero N s p).1]; exact World.ownsRow_nil _ _ _ _), hB⟩
            case round =>
              clear hB
              obtain ⟨k, u, d, ⟨rfl, rfl, rfl⟩, hk, HDN, HROW, hB⟩ := hrel
              have c0 := cb hB C0.out
              by_cases hkl : k < N.length
              · have hkI : (k : Int) < N.length := by omega
                obtain ⟨g, c', he, c1, c2⟩ := (H.out.below hB).at' hkl
                cases he
                have HN1 := Lib.hid (outTo_done (p := p) hkl (s := s))
                have HN2 := Lib.hid (outTo_here (p := p) hkl (s := s))
                have HN3 := Lib.hid (outTo_not (p := p) hkl (s := s))
                obtain ⟨x, hx⟩ : ∃ x, N[k]'hkl = x := ⟨_, rfl⟩
                have hxs : x.1.size ≤ 100 := (HFIT.out x.1 x.2 (hx ▸ List.getElem_mem hkl)).1
                rw [hx] at c1 c2 HN1 HN2 HN3
                have hlen := outTo_len N s p k
                obtain ⟨fl, hfl⟩ : ∃ fl, outTo N s p k = fl := ⟨_, rfl⟩
                rw [hfl] at HN1 HN2 HN3 HROW hlen
                have HX := Lib.hid hx
                clear hx hfl
                obtain ⟨lt, hlt⟩ : ∃ b, ltB s x.1 = b := ⟨_, rfl⟩
                have HLT := Lib.hid hlt
                clear hlt
                go_wp2_with fail
                refine (before_calls s x.1 _ (by omega) (by omega)).mono ?_
                rintro e w' ⟨rfl, nn, rfl⟩
                rw [show Op.bytesLess s.toList x.1.toList = lt from HLT.out]
                have hB0 := hB
                have hB := bl_dN hB nn
                have c0 := cb hB C0.out
                obtain ⟨g', c', he, c1, c2⟩ := (H.out.below hB).at' hkl
                cases he
                rw [HX.out] at c1 c2
                have HROW2 := Lib.hid (rw_below HROW.out (bl_dN (Below.refl _ _) nn))
                clear HROW hB0
                have hbz := hB.size
                cases d with
                | true =>
                  obtain ⟨e1, e2⟩ := HN1.out HDN.out
                  have E1 := Lib.hid e1; have E2 := Lib.hid e2
                  clear e1 e2 HN1 HN2 HN3 HDN
                  go_wp2_with (at_builtin; refine app_node rfl (.tmp 66) (.tmp 74) rfl w.heap.size 88 _ fl x rfl HROW2.out 1 rfl hbz (by first | omega | (simp only [List.length_append, List.length_singleton]; omega)) ?_; intro g2 cap2 w5 hown hk4 hat; skip; have HR3 := Lib.hid hown; have hB3 : Below w.heap.size w w5 := Below.trans hB (hk4.below (Below.size hB) (fun q hq => (rw_type HROW2.out hq).1)); have hz3 := Below.size hB3; clear hown hk4 hat)
                  go_roundw
                  case rel => exact ⟨k + 1, _, true, ⟨by simp, rfl, rfl⟩, by omega, E1, Lib.hid (by rw [E2.out]; exact HR3.out), hB3⟩
                  case measure => simp [intOf]; omega
                | false =>
                  cases lt with
                  | false =>
                    obtain ⟨e1, e2⟩ := HN3.out HDN.out HLT.out
                    have E1 := Lib.hid e1; have E2 := Lib.hid e2
                    clear e1 e2 HN1 HN2 HN3 HDN
                    go_wp2_with (at_builtin; refine app_node rfl (.tmp 66) (.tmp 74) rfl w.heap.size 88 _ fl x rfl HROW2.out 1 rfl hbz (by first | omega | (simp only [List.length_append, List.length_singleton]; omega)) ?_; intro g2 cap2 w5 hown hk4 hat; skip; have HR3 := Lib.hid hown; have hB3 : Below w.heap.size w w5 := Below.trans hB (hk4.below (Below.size hB) (fun q hq => (rw_type HROW2.out hq).1)); have hz3 := Below.size hB3; clear hown hk4 hat)
                    go_roundw
                    case rel => exact ⟨k + 1, _, false, ⟨by simp, rfl, rfl⟩, by omega, E1, Lib.hid (by rw [E2.out]; exact HR3.out), hB3⟩
                    case measure => simp [intOf]; omega
                  | true =>
                    obtain ⟨e1, e2⟩ := HN2.out HDN.out HLT.out
                    have E1 := Lib.hid e1; have E2 := Lib.hid e2
                    clear e1 e2 HN1 HN2 HN3 HDN
                    go_wp2_with (first | (at_builtin; refine app_node rfl (.tmp 60) (.tmp 64) rfl w.heap.size 88 _ fl (s, p) rfl HROW2.out 1 rfl hbz (by first | omega | (simp only [List.length_append, List.length_singleton]; omega)) ?_; intro g2 cap2 w5 hown hk4 hat; skip; have HR3 := Lib.hid hown; have hB3 : Below w.heap.size w w5 := Below.trans hB (hk4.below (Below.size hB) (fun q hq => (rw_type HROW2.out hq).1)); have hz3 := Below.size hB3; clear hown hk4 hat c0 c1 c2; have c0 := cb hB3 C0.out; obtain ⟨g'', c'', he, c1, c2⟩ := (H.out.below hB3).at' hkl; cases he; rw [HX.out] at c1 c2) | (at_builtin; refine app_node rfl (.tmp 66) (.tmp 74) rfl w.heap.size 88 _ (fl ++ [(s, p)]) x rfl HR3.out 1 rfl hz3 (by first | omega | (simp only [List.length_append, List.length_singleton]; omega)) ?_; intro g2 cap2 w5 hown hk4 hat; skip; have HR4 := Lib.hid hown; have hB4 : Below w.heap.size w w5 := Below.trans hB3 (hk4.below (Below.size hB3) (fun q hq => (rw_type HR3.out hq).1)); have hz4 := Below.size hB4; clear hown hk4 hat))
                    go_roundw
                    case rel => exact ⟨k + 1, _, true, ⟨by simp, rfl, rfl⟩, by omega, E1, Lib.hid (by rw [E2.out]; have q := HR4.out; rw [show (fl ++ [(s, p)]).length = fl.length + 1 by simp] at q; exact q), hB4⟩
                    case measure => simp [intOf]; omega
              · obtain rfl : k = N.length := by omega
                have cf := fzb hB (lt_of_cell C0.out) CF.out
                have hbz := hB.size
                have hlen := outTo_len N s p N.length
                cases d with
                | true =>
                  have hrow := HROW.out
                  rw [outTo_all_done HDN.out] at hrow
                  have HX := Lib.hid hrow
                  clear hrow HROW
                  obtain ⟨a5, c5, rfl⟩ := rw_form HX.out
                  go_wp2_with fail
                  go_ret
                  obtain ⟨q1, q2⟩ := refT_store H.out hB HX.out
                  exact ⟨rfl, _, q1, q2⟩
                | false =>
                  have HE := Lib.hid (outTo_all_not (p := p) HDN.out)
                  obtain ⟨fl, hfl⟩ : ∃ fl, outTo N s p N.length = fl := ⟨_, rfl⟩
                  rw [hfl] at HROW HE hlen
                  clear hfl
                  go_wp2_with (at_builtin; refine app_node rfl (.tmp 78) (.tmp 82) rfl w.heap.size 88 _ fl (s, p) rfl HROW.out 1 rfl hbz (by first | omega | (simp only [List.length_append, List.length_singleton]; omega)) ?_; intro g2 cap2 w5 hown hk4 hat; skip; have HR3 := Lib.hid hown; have cf := fzb (Below.trans hB (hk4.below (Below.size hB) (fun q hq => (rw_type HROW.out hq).1))) (lt_of_cell C0.out) CF.out; have c0 := cb (Below.trans hB (hk4.below (Below.size hB) (fun q hq => (rw_type HROW.out hq).1))) C0.out; have hB3 : Below w.heap.size w w5 := Below.trans hB (hk4.below (Below.size hB) (fun q hq => (rw_type HROW.out hq).1)); have hz3 := Below.size hB3; clear hown hk4 hat)
                  go_ret
                  have hrow := HR3.out
                  rw [HE.out] at hrow
                  obtain ⟨q1, q2⟩ := refT_store H.out hB3 hrow
                  exact ⟨rfl, _, q1, q2⟩
end
end Go.Proofs.Ythaipgbjnigkhaa
