import Derived.Test.YthaipgbjnigkhaaTte
import Derived.Test.YthaipgbjnigkhaaSeqL
namespace Go.Proofs.Ythaipgbjnigkhaa
open Go.RowKit Go.Shelf Go.Maps
set_option linter.unusedVariables false
set_option linter.unusedSimpArgs false
set_option linter.unusedSectionVars false
section
variable {base rp : Nat} {v : Value} {N : Nodes}
set_option maxRecDepth 100000 in
set_option maxHeartbeats 8000000 in
theorem rmoveT_calls (w : World) (h : RefT w base rp v N) (G : Good11 N) (s p : ByteArray) (r : Int) (M : Nodes) (hr : moveR N s p = (r, M)) :
    Calls Try.prog 60 #[.pointer (some ⟨rp, 0, none⟩), .string s, .string p] w fun e w' => e = .returned (.int .i64 r) ∧ ∃ u, RefT w' base rp u M ∧ Kept (fun q => q = rp) w w' := by
  have hB := Below.refl w.heap.size w
  have H := Lib.hid h
  have hl : N.length ≤ 1000000 := by have := G.few; omega
  have HD := Lib.hid (show ∀ x, (pathT N x).length < 19 from fun x => by have := G.deep x; omega)
  obtain ⟨ao, cap, rfl⟩ := h.form
  have C0 := Lib.hid (show w.cell? ⟨rp, 0, none⟩ = some (.slice ao N.length cap) from blk_cell h.box 0)
  have CF := Lib.hid (show w.frozen? ⟨rp, 0, none⟩ = false from blk_free h.box 0)
  clear h
  unfold moveR at hr
  cases h1 : hasN N s with
  | false =>
    rw [h1] at hr
    have H1 := Lib.hid h1
    clear h1
    obtain ⟨rfl, rfl⟩ : r = 4 ∧ M = N := by simpa [eq_comm] using hr
    clear hr
    go_enter Try.func60, Try.ntmps60
    go_wp2_with fail
    refine (rhasT_calls _ (H.out.below hB) s hl).mono ?_; rintro e w' ⟨rfl, hb⟩; rw [H1.out]; have hB := bl_next hB hb; clear hb
    go_wp2_with fail
    go_ret
    exact ⟨rfl, _, H.out.below hB, kept_of_below hB⟩
  | true =>
    rw [h1] at hr
    have H1 := Lib.hid h1
    cases h2 : hasN N p with
    | false =>
      rw [h2] at hr
      have H2 := Lib.hid h2
      clear h1 h2
      obtain ⟨rfl, rfl⟩ : r = 4 ∧ M = N := by simpa [eq_comm] using hr
      clear hr
      go_enter Try.func60, Try.ntmps60
      go_wp2_with fail
      refine (rhasT_calls _ (H.out.below hB) s hl).mono ?_; rintro e w' ⟨rfl, hb⟩; rw [H1.out]; have hB := bl_next hB hb; clear hb
      go_wp2_with fail
      refine (rhasT_calls _ (H.out.below hB) p hl).mono ?_; rintro e w' ⟨rfl, hb⟩; rw [H2.out]; have hB := bl_next hB hb; clear hb
      go_wp2_with fail
      go_ret
      exact ⟨rfl, _, H.out.below hB, kept_of_below hB⟩
    | true =>
      rw [h2] at hr
      have H2 := Lib.hid h2
      clear h1 h2
      simp only [Bool.not_true, Bool.or_self, Bool.false_eq_true, if_false] at hr
      by_cases hroot : s = rootB
      · rw [if_pos hroot] at hr
        obtain ⟨rfl, rfl⟩ : r = 1 ∧ M = N := by simpa [eq_comm] using hr
        clear hr
        have hrf : (s.toList == [114, 111, 111, 116]) = true := by rw [hroot, root_list]; rfl
        have hrn : s.toList = [114, 111, 111, 116] := by rw [hroot, root_list]
        clear hroot
        go_enter Try.func60, Try.ntmps60
        go_wp2_with fail
        refine (rhasT_calls _ (H.out.below hB) s hl).mono ?_; rintro e w' ⟨rfl, hb⟩; rw [H1.out]; have hB := bl_next hB hb; clear hb
        go_wp2_with fail
        refine (rhasT_calls _ (H.out.below hB) p hl).mono ?_; rintro e w' ⟨rfl, hb⟩; rw [H2.out]; have hB := bl_next hB hb; clear hb
        go_wp2_with fail
        go_ret
        exact ⟨rfl, _, H.out.below hB, kept_of_below hB⟩
      · rw [if_neg hroot] at hr
        obtain ⟨hrf, hrn⟩ := rootF hroot
        clear hroot
        cases h3 : inL (pathT N p) s with
        | true =>
          rw [h3] at hr
          have H3 := Lib.hid h3
          clear h3
          obtain ⟨rfl, rfl⟩ : r = 8 ∧ M = N := by simpa [eq_comm] using hr
          clear hr
          go_enter Try.func60, Try.ntmps60
          go_wp2_with fail
          refine (rhasT_calls _ (H.out.below hB) s hl).mono ?_; rintro e w' ⟨rfl, hb⟩; rw [H1.out]; have hB := bl_next hB hb; clear hb
          go_wp2_with fail
          refine (rhasT_calls _ (H.out.below hB) p hl).mono ?_; rintro e w' ⟨rfl, hb⟩; rw [H2.out]; have hB := bl_next hB hb; clear hb
          go_wp2_with fail
          refine (rpathT_calls _ (H.out.below hB) G.rise HD.out p hl).mono ?_; rintro e w' ⟨u, rfl, hrow, hb⟩; have HP := Lib.hid hrow; have hB := bl_next hB hb; clear hb hrow
          go_wp2_with fail
          refine (in_calls _ (strS_of HP.out) s (by have := HD.out p; omega)).mono ?_; rintro e w' ⟨rfl, hb⟩; rw [H3.out]; have hB := bl_next hB hb; clear hb
          go_wp2_with fail
          go_ret
          exact ⟨rfl, _, H.out.below hB, kept_of_below hB⟩
        | false =>
          rw [h3] at hr
          have H3 := Lib.hid h3
          have HF := Lib.hid (move_found G H1.out h3)
          have HSD := Lib.hid (set_depth G H1.out h3)
          clear h3
          go_enter Try.func60, Try.ntmps60
          go_wp2_with fail
          refine (rhasT_calls _ (H.out.below hB) s hl).mono ?_; rintro e w' ⟨rfl, hb⟩; rw [H1.out]; have hB := bl_next hB hb; clear hb
          go_wp2_with fail
          refine (rhasT_calls _ (H.out.below hB) p hl).mono ?_; rintro e w' ⟨rfl, hb⟩; rw [H2.out]; have hB := bl_next hB hb; clear hb
          go_wp2_with fail
          refine (rpathT_calls _ (H.out.below hB) G.rise HD.out p hl).mono ?_; rintro e w' ⟨u, rfl, hrow, hb⟩; have HP := Lib.hid hrow; have hB := bl_next hB hb; clear hb hrow
          go_wp2_with fail
          refine (in_calls _ (strS_of HP.out) s (by have := HD.out p; omega)).mono ?_; rintro e w5 ⟨rfl, hb⟩; rw [H3.out]; have hB := bl_next hB hb; clear hb HP
          go_wp2_with fail
          have hB6 : Below w.heap.size w (w5.alloc (.cells #[.slice none 0 0] 91)) := hB.alloc hB.size _
          have hnew : RefT (w5.alloc (.cells #[.slice none 0 0] 91)) w.heap.size w5.heap.size (.slice none 0 0) [] := ⟨blk_new _ _, World.ownsRow_nil _ _ _ _, hB.size⟩
          obtain ⟨nb, hnb⟩ : ∃ nb, nb = w5.heap.size := ⟨_, rfl⟩
          rw [← hnb] at hnew ⊢
          obtain ⟨V, hV⟩ : ∃ V, V = w5.alloc (.cells #[.slice none 0 0] 91) := ⟨_, rfl⟩
          rw [← hV] at hnew hB6 ⊢
          have R0 := Lib.hid hnew
          clear hnew hV hnb hB
          go_loopw [9] (fun i wr => ∃ (k : Nat) (u : Value), i = .int .i64 k ∧ k ≤ N.length ∧ Hid (RefT wr w.heap.size nb u (setTo N s p k)) ∧ Below w.heap.size w wr) (fun i _ => N.length - (intOf i).toNat)
          case atStart => exact ⟨0, _, rfl, Nat.zero_le _, R0, hB6⟩
          case round =>
            clear hB6 R0
            obtain ⟨k, u, rfl, hk, R, hB⟩ := hrel
            have c0 := cb hB C0.out
            by_cases hkl : k < N.length
            · have hkI : (k : Int) < N.length := by omega
              obtain ⟨g, c', he, c1, c2⟩ := (H.out.below hB).at' hkl
              cases he
              have HN := Lib.hid (setTo_succ (s := s) (p := p) hkl)
              obtain ⟨x, hx⟩ : ∃ x, N[k]'hkl = x := ⟨_, rfl⟩
              rw [hx] at c1 c2 HN
              clear hx
              by_cases h2 : x.1 = s
              · have hbf : (x.1.toList == s.toList) = true := by rw [beq_str]; simpa using h2
                have hbn : x.1.toList = s.toList := by rw [h2]
                have HN2 := Lib.hid (show setTo N s p (k + 1) = setTo N s p k ++ [(x.1, p)] from HN.out.trans (by simp [h2]))
                have hlen := setTo_len (N := N) (s := s) (p := p) (k := k) hk
                obtain ⟨fl, hfl⟩ : ∃ fl, setTo N s p k = fl := ⟨_, rfl⟩
                rw [hfl] at HN2 R hlen
                have HLEN := Lib.hid hlen
                clear hfl h2 HN hlen
                go_upto_region 15 with fail
                obtain ⟨au, cu, rfl⟩ := R.out.form
                have hw0 := R.out.below ((Below.refl wr.heap.size wr).alloc (Nat.le_refl _) (.cells #[.string x.1, .string p] 88))
                have hx0 := blk_new wr (.cells #[.string x.1, .string p] 88)
                have hBV := hB.alloc hB.size (.cells #[.string x.1, .string p] 88)
                have hown := fun k hk => (World.ownsRow.lt R.out.row k hk).2
                obtain ⟨xb, hxb⟩ : ∃ b, b = wr.heap.size := ⟨_, rfl⟩
                rw [← hxb] at hx0 hown ⊢
                obtain ⟨V1, hV1⟩ : ∃ V1, V1 = wr.alloc (.cells #[.string x.1, .string p] 88) := ⟨_, rfl⟩
                rw [← hV1] at hw0 hx0 hBV ⊢
                have HW0 := Lib.hid hw0; have HX0 := Lib.hid hx0; have HOWN := Lib.hid hown; have HBV := Lib.hid hBV
                have cf := blk_free hw0.box 0
                have CFN := Lib.hid cf
                clear hw0 hx0 hown hV1 hxb R hB hBV cf c0 c1 c2
                have sof := Lib.hid (show ∀ w', Below V1.heap.size V1 w' → (w'.cell? ⟨nb, 0, none⟩ = some (.slice au fl.length cu) ∧ w'.cell? ⟨xb, 0, none⟩ = some (.string x.1) ∧ w'.cell? ⟨xb, 1, none⟩ = some (.string p)) from fun w' hb => ⟨cb hb (blk_cell HW0.out.box 0), cb hb (blk_cell HX0.out 0), cb hb (blk_cell HX0.out 1)⟩)
                have hB1 := Lib.hid ((Below.refl V1.heap.size V1).drew)
                have hB2 := Lib.hid (show Below V1.heap.size V1 (V1.alloc (.cells #[.string x.1, .string p] 88)).drew from ((Below.refl V1.heap.size V1).alloc (Nat.le_refl _) _).drew)
                obtain ⟨i0, hi, hz0, hz1, hz2⟩ := info_parts info_node
                have HI := Lib.hid hi; have HZ0 := Lib.hid hz0; have HZ1 := Lib.hid hz1; have HZ2 := Lib.hid hz2
                clear hi hz0 hz1 hz2
                refine region_seqL (fun w' => w'.cell? ⟨nb, 0, none⟩ = some (.slice au fl.length cu) ∧ w'.cell? ⟨xb, 0, none⟩ = some (.string x.1) ∧ w'.cell? ⟨xb, 1, none⟩ = some (.string p)) 10 [(0, true), (1, true), (2, true), (3, true), (4, true), (5, true), (6, false), (7, false), (8, true), (9, true), (10, false)] (by kernel_rfl) (by kernel_rfl) (fun _ _ _ _ h => h) (by (try exact sof.out _ hB1.out); (try exact sof.out _ hB2.out)) ?_
                refine sl_take (v := ?_) (a' := ?_) (some 54) rfl rfl (by rfl) ?_ ?_ ?_
                rotate_left; rotate_left
                · intro w' hS; go_simp; with_reducible rfl
                · simp only [Act.put, List.setIfInBounds_toArray, List.set_cons_zero, List.set_cons_succ]; rfl
                refine sl_take (v := ?_) (a' := ?_) (some 55) rfl rfl (by rfl) ?_ ?_ ?_
                rotate_left; rotate_left
                · intro w' hS; go_simp; with_reducible rfl
                · simp only [Act.put, List.setIfInBounds_toArray, List.set_cons_zero, List.set_cons_succ]; rfl
                refine sl_take (v := ?_) (a' := ?_) (some 56) rfl rfl (by rfl) ?_ ?_ ?_
                rotate_left; rotate_left
                · intro w' hS; go_simp; with_reducible rfl
                · simp only [Act.put, List.setIfInBounds_toArray, List.set_cons_zero, List.set_cons_succ]; rfl
                refine sl_take (v := ?_) (a' := ?_) (some 57) rfl rfl (by rfl) ?_ ?_ ?_
                rotate_left; rotate_left
                · intro w' hS; go_simp; with_reducible rfl
                · simp only [Act.put, List.setIfInBounds_toArray, List.set_cons_zero, List.set_cons_succ]; rfl
                refine sl_take (v := ?_) (a' := ?_) (some 58) rfl rfl (by rfl) ?_ ?_ ?_
                rotate_left; rotate_left
                · intro w' hS; obtain ⟨q0, q1, q2⟩ := hS; go_simp; with_reducible rfl
                · simp only [Act.put, List.setIfInBounds_toArray, List.set_cons_zero, List.set_cons_succ]; rfl
                refine sl_take (v := ?_) (a' := ?_) (some 59) rfl rfl (by rfl) ?_ ?_ ?_
                rotate_left; rotate_left
                · intro w' hS; obtain ⟨q0, q1, q2⟩ := hS; go_simp; with_reducible rfl
                · simp only [Act.put, List.setIfInBounds_toArray, List.set_cons_zero, List.set_cons_succ]; rfl
                refine sl_op (some 60) rfl rfl (by rfl) ?_
                apply Exists.intro; apply Exists.intro; apply And.intro
                · go_simp; first | exact ⟨rfl, rfl⟩ | rfl
                apply Exists.intro; apply And.intro
                · simp only [Act.put, List.setIfInBounds_toArray, List.set_cons_zero, List.set_cons_succ]; rfl
                apply And.intro
                · (try exact sof.out _ hB1.out); (try exact sof.out _ hB2.out)
                refine sl_law rfl (by rfl) ?_
                refine app_rw_at (.tmp 58) (.tmp 60) _ rfl w.heap.size 88 i0 _ 2 32 Try.underlying89 HI.out HZ0.out HZ1.out HZ2.out rfl (by decide) (Value.slice au fl.length cu) fl.length (nodesC fl) [.string x.1, .string p] rfl (rw_below HW0.out.row hB2.out) V1.heap.size 1 rfl (blk_drew (blk_new V1 _)) rfl (by simp [Value.oneCell']) (by have := hB2.out.size; have := HBV.out.size; omega) (by have := HLEN.out; omega) (by decide) ?_
                intro g9 cap9 w1 hrow hk9 hat; have HK := Lib.hid hk9; have hrow' := (rw_below HW0.out.row hB2.out); have hboxD := blk_below HW0.out.box hB2.out; have nf : ¬ (Value.slice au fl.length cu).ownBlock = some nb := rw_other hrow' hboxD (by decide); have nw : ¬ (Value.slice au fl.length cu).ownBlock = some xb := fun e => Nat.lt_irrefl _ (HOWN.out xb e); have qs := sof.out _ hB2.out; have d0 := HK.out.cell qs.1 nf; have d1 := HK.out.cell qs.2.1 nw; have d2 := HK.out.cell qs.2.2 nw; have hbox1 := Lib.hid (HK.out.heap hboxD nf); have df := blk_free hbox1.out 0; have HROW := Lib.hid hrow; have hBW : Below w.heap.size w w1 := (HBV.out.trans (hB2.out.mono HBV.out.size)).trans (hk9.below (Nat.le_trans HBV.out.size hB2.out.size) (fun q hq => (rw_type hrow' hq).1)); clear nf nw qs hrow hk9 hrow' hboxD hat; refine ⟨.inr ⟨d0, d1, d2⟩, ?_⟩; clear d1 d2
                simp only [Act.put, List.setIfInBounds_toArray, List.set_cons_zero, List.set_cons_succ]
                refine sl_take (v := ?_) (a' := ?_) (some 62) rfl rfl (by rfl) ?_ ?_ ?_
                rotate_left; rotate_left
                · intro w' hS; go_simp; with_reducible rfl
                · simp only [Act.put, List.setIfInBounds_toArray, List.set_cons_zero, List.set_cons_succ]; rfl
                refine sl_take (v := ?_) (a' := ?_) (some 63) rfl rfl (by rfl) ?_ ?_ ?_
                rotate_left; rotate_left
                · intro w' hS; go_simp; with_reducible rfl
                · simp only [Act.put, List.setIfInBounds_toArray, List.set_cons_zero, List.set_cons_succ]; rfl
                refine sl_last none rfl rfl (by rfl) ?_
                apply Exists.intro; apply And.intro
                · go_simp; first | exact ⟨rfl, rfl⟩ | rfl
                apply Exists.intro; apply And.intro
                · simp only [Act.put, List.setIfInBounds_toArray, List.set_cons_zero, List.set_cons_succ]; rfl
                refine sl_done ?_
                go_wp2_with fail
                go_roundw
                case rel =>
                  have hrw := HROW.out
                  rw [nodesC_app fl (x.1, p)] at hrw
                  refine ⟨k + 1, .slice (some ⟨g9, 0, none⟩) (fl.length + 1) cap9, by simp, by omega, Lib.hid ?_, hBW.setCell (by have := HW0.out.bas; exact this) _⟩
                  rw [HN2.out]
                  exact ⟨heap_setCell_same _ nb 0 _ _ _ hbox1.out, rw_kept (by rw [List.length_append]; exact hrw) (X := fun q => q = nb) ((Kept.refl _ _).setCell _ _ (.inl rfl)) (fun q hq e => rw_other hrw hbox1.out (by decide) (by rw [← e]; exact hq)), HW0.out.bas⟩
                case measure => simp [intOf]; omega
              · have hbf := beqF h2
                have hbn := neF h2
                have HN2 := Lib.hid (show setTo N s p (k + 1) = setTo N s p k ++ [x] from HN.out.trans (by simp [h2]))
                have hlen := setTo_len (N := N) (s := s) (p := p) (k := k) hk
                obtain ⟨fl, hfl⟩ : ∃ fl, setTo N s p k = fl := ⟨_, rfl⟩
                rw [hfl] at HN2 R hlen
                have HLEN := Lib.hid hlen
                clear hfl h2 HN hlen
                go_upto_region 15 with fail
                obtain ⟨au, cu, rfl⟩ := R.out.form
                have hw0 := R.out.below ((Below.refl wr.heap.size wr).alloc (Nat.le_refl _) (.cells #[.string x.1, .string x.2] 88))
                have hx0 := blk_new wr (.cells #[.string x.1, .string x.2] 88)
                have hBV := hB.alloc hB.size (.cells #[.string x.1, .string x.2] 88)
                have hown := fun k hk => (World.ownsRow.lt R.out.row k hk).2
                obtain ⟨xb, hxb⟩ : ∃ b, b = wr.heap.size := ⟨_, rfl⟩
                rw [← hxb] at hx0 hown ⊢
                obtain ⟨V1, hV1⟩ : ∃ V1, V1 = wr.alloc (.cells #[.string x.1, .string x.2] 88) := ⟨_, rfl⟩
                rw [← hV1] at hw0 hx0 hBV ⊢
                have HW0 := Lib.hid hw0; have HX0 := Lib.hid hx0; have HOWN := Lib.hid hown; have HBV := Lib.hid hBV
                have cf := blk_free hw0.box 0
                have CFN := Lib.hid cf
                clear hw0 hx0 hown hV1 hxb R hB hBV cf c0 c1 c2
                have sof := Lib.hid (show ∀ w', Below V1.heap.size V1 w' → (w'.cell? ⟨nb, 0, none⟩ = some (.slice au fl.length cu) ∧ w'.cell? ⟨xb, 0, none⟩ = some (.string x.1) ∧ w'.cell? ⟨xb, 1, none⟩ = some (.string x.2)) from fun w' hb => ⟨cb hb (blk_cell HW0.out.box 0), cb hb (blk_cell HX0.out 0), cb hb (blk_cell HX0.out 1)⟩)
                have hB1 := Lib.hid ((Below.refl V1.heap.size V1).drew)
                have hB2 := Lib.hid (show Below V1.heap.size V1 (V1.alloc (.cells #[.string x.1, .string x.2] 88)).drew from ((Below.refl V1.heap.size V1).alloc (Nat.le_refl _) _).drew)
                obtain ⟨i0, hi, hz0, hz1, hz2⟩ := info_parts info_node
                have HI := Lib.hid hi; have HZ0 := Lib.hid hz0; have HZ1 := Lib.hid hz1; have HZ2 := Lib.hid hz2
                clear hi hz0 hz1 hz2
                refine region_seqL (fun w' => w'.cell? ⟨nb, 0, none⟩ = some (.slice au fl.length cu) ∧ w'.cell? ⟨xb, 0, none⟩ = some (.string x.1) ∧ w'.cell? ⟨xb, 1, none⟩ = some (.string x.2)) 10 [(0, true), (1, true), (2, true), (3, true), (4, true), (5, true), (6, false), (7, false), (8, true), (9, true), (10, false)] (by kernel_rfl) (by kernel_rfl) (fun _ _ _ _ h => h) (by (try exact sof.out _ hB1.out); (try exact sof.out _ hB2.out)) ?_
                refine sl_take (v := ?_) (a' := ?_) (some 54) rfl rfl (by rfl) ?_ ?_ ?_
                rotate_left; rotate_left
                · intro w' hS; go_simp; with_reducible rfl
                · simp only [Act.put, List.setIfInBounds_toArray, List.set_cons_zero, List.set_cons_succ]; rfl
                refine sl_take (v := ?_) (a' := ?_) (some 55) rfl rfl (by rfl) ?_ ?_ ?_
                rotate_left; rotate_left
                · intro w' hS; go_simp; with_reducible rfl
                · simp only [Act.put, List.setIfInBounds_toArray, List.set_cons_zero, List.set_cons_succ]; rfl
                refine sl_take (v := ?_) (a' := ?_) (some 56) rfl rfl (by rfl) ?_ ?_ ?_
                rotate_left; rotate_left
                · intro w' hS; go_simp; with_reducible rfl
                · simp only [Act.put, List.setIfInBounds_toArray, List.set_cons_zero, List.set_cons_succ]; rfl
                refine sl_take (v := ?_) (a' := ?_) (some 57) rfl rfl (by rfl) ?_ ?_ ?_
                rotate_left; rotate_left
                · intro w' hS; go_simp; with_reducible rfl
                · simp only [Act.put, List.setIfInBounds_toArray, List.set_cons_zero, List.set_cons_succ]; rfl
                refine sl_take (v := ?_) (a' := ?_) (some 58) rfl rfl (by rfl) ?_ ?_ ?_
                rotate_left; rotate_left
                · intro w' hS; obtain ⟨q0, q1, q2⟩ := hS; go_simp; with_reducible rfl
                · simp only [Act.put, List.setIfInBounds_toArray, List.set_cons_zero, List.set_cons_succ]; rfl
                refine sl_take (v := ?_) (a' := ?_) (some 59) rfl rfl (by rfl) ?_ ?_ ?_
                rotate_left; rotate_left
                · intro w' hS; obtain ⟨q0, q1, q2⟩ := hS; go_simp; with_reducible rfl
                · simp only [Act.put, List.setIfInBounds_toArray, List.set_cons_zero, List.set_cons_succ]; rfl
                refine sl_op (some 60) rfl rfl (by rfl) ?_
                apply Exists.intro; apply Exists.intro; apply And.intro
                · go_simp; first | exact ⟨rfl, rfl⟩ | rfl
                apply Exists.intro; apply And.intro
                · simp only [Act.put, List.setIfInBounds_toArray, List.set_cons_zero, List.set_cons_succ]; rfl
                apply And.intro
                · (try exact sof.out _ hB1.out); (try exact sof.out _ hB2.out)
                refine sl_law rfl (by rfl) ?_
                refine app_rw_at (.tmp 58) (.tmp 60) _ rfl w.heap.size 88 i0 _ 2 32 Try.underlying89 HI.out HZ0.out HZ1.out HZ2.out rfl (by decide) (Value.slice au fl.length cu) fl.length (nodesC fl) [.string x.1, .string x.2] rfl (rw_below HW0.out.row hB2.out) V1.heap.size 1 rfl (blk_drew (blk_new V1 _)) rfl (by simp [Value.oneCell']) (by have := hB2.out.size; have := HBV.out.size; omega) (by have := HLEN.out; omega) (by decide) ?_
                intro g9 cap9 w1 hrow hk9 hat; have HK := Lib.hid hk9; have hrow' := (rw_below HW0.out.row hB2.out); have hboxD := blk_below HW0.out.box hB2.out; have nf : ¬ (Value.slice au fl.length cu).ownBlock = some nb := rw_other hrow' hboxD (by decide); have nw : ¬ (Value.slice au fl.length cu).ownBlock = some xb := fun e => Nat.lt_irrefl _ (HOWN.out xb e); have qs := sof.out _ hB2.out; have d0 := HK.out.cell qs.1 nf; have d1 := HK.out.cell qs.2.1 nw; have d2 := HK.out.cell qs.2.2 nw; have hbox1 := Lib.hid (HK.out.heap hboxD nf); have df := blk_free hbox1.out 0; have HROW := Lib.hid hrow; have hBW : Below w.heap.size w w1 := (HBV.out.trans (hB2.out.mono HBV.out.size)).trans (hk9.below (Nat.le_trans HBV.out.size hB2.out.size) (fun q hq => (rw_type hrow' hq).1)); clear nf nw qs hrow hk9 hrow' hboxD hat; refine ⟨.inr ⟨d0, d1, d2⟩, ?_⟩; clear d1 d2
                simp only [Act.put, List.setIfInBounds_toArray, List.set_cons_zero, List.set_cons_succ]
                refine sl_take (v := ?_) (a' := ?_) (some 62) rfl rfl (by rfl) ?_ ?_ ?_
                rotate_left; rotate_left
                · intro w' hS; go_simp; with_reducible rfl
                · simp only [Act.put, List.setIfInBounds_toArray, List.set_cons_zero, List.set_cons_succ]; rfl
                refine sl_take (v := ?_) (a' := ?_) (some 63) rfl rfl (by rfl) ?_ ?_ ?_
                rotate_left; rotate_left
                · intro w' hS; go_simp; with_reducible rfl
                · simp only [Act.put, List.setIfInBounds_toArray, List.set_cons_zero, List.set_cons_succ]; rfl
                refine sl_last none rfl rfl (by rfl) ?_
                apply Exists.intro; apply And.intro
                · go_simp; first | exact ⟨rfl, rfl⟩ | rfl
                apply Exists.intro; apply And.intro
                · simp only [Act.put, List.setIfInBounds_toArray, List.set_cons_zero, List.set_cons_succ]; rfl
                refine sl_done ?_
                go_wp2_with fail
                go_roundw
                case rel =>
                  have hrw := HROW.out
                  rw [nodesC_app fl x] at hrw
                  refine ⟨k + 1, .slice (some ⟨g9, 0, none⟩) (fl.length + 1) cap9, by simp, by omega, Lib.hid ?_, hBW.setCell (by have := HW0.out.bas; exact this) _⟩
                  rw [HN2.out]
                  exact ⟨heap_setCell_same _ nb 0 _ _ _ hbox1.out, rw_kept (by rw [List.length_append]; exact hrw) (X := fun q => q = nb) ((Kept.refl _ _).setCell _ _ (.inl rfl)) (fun q hq e => rw_other hrw hbox1.out (by decide) (by rw [← e]; exact hq)), HW0.out.bas⟩
                case measure => simp [intOf]; omega
            · obtain rfl : k = N.length := by omega
              have hR := R.out
              rw [setTo_all] at hR
              obtain ⟨L, hL⟩ : ∃ L, setN N s p = L := ⟨_, rfl⟩
              have hLn : L.length = N.length := by rw [← hL]; exact setN_length _ _ _
              have hLl : L.length ≤ 1000000 := by omega
              have hRise : Rising L := by rw [← hL]; exact rising_setN G.rise
              have HF2 := HF.out
              have HSD2 := HSD.out
              rw [hL] at hR HF2 HSD2 hr
              have HFL := Lib.hid HF2; have HDL := Lib.hid HSD2; have HR0 := Lib.hid hR; have HLN := Lib.hid hLn; have HRISE := Lib.hid hRise
              clear hR HF2 HSD2 hL hLn HF HSD R hRise
              obtain ⟨au, cu, rfl⟩ := HR0.out.form
              obtain ⟨V2, rfl⟩ : ∃ V2 : World, V2 = wr := ⟨_, rfl⟩
              have HB0 := Lib.hid hB
              have n0 := blk_cell HR0.out.box 0
              have N0 := Lib.hid (show V2.cell? ⟨nb, 0, none⟩ = some (.slice au L.length cu) from n0)
              clear hB n0
              have hB := Below.refl V2.heap.size V2
              go_wp2_with fail
              go_loopw [11] (fun i wr => ∃ j : Nat, i = .int .i64 j ∧ j ≤ L.length ∧ Hid (∀ q (hq : q < L.length), q < j → (pathT L (L[q]'hq).1).length ≤ 8) ∧ Below V2.heap.size V2 wr) (fun i _ => L.length - (intOf i).toNat)
              case atStart => exact ⟨0, rfl, Nat.zero_le _, Lib.hid (fun q hq h => absurd h (Nat.not_lt_zero _)), hB⟩
              case round =>
                clear hB
                obtain ⟨j, rfl, hj, HALL, hB⟩ := hrel
                have n0 := cb hB N0.out
                by_cases hjl : j < L.length
                · have hjI : (j : Int) < L.length := by omega
                  obtain ⟨g1, c1', he, c1, c2⟩ := (HR0.out.below hB).at' hjl
                  cases he
                  obtain ⟨pl, hpl⟩ : ∃ l, pathT L (L[j]'hjl).1 = l := ⟨_, rfl⟩
                  have HPL := Lib.hid hpl
                  have hpl19 : pl.length < 19 := by rw [← hpl]; exact HDL.out _
                  clear hpl
                  go_wp2_with fail
                  refine (rpathT_calls _ (HR0.out.below hB) HRISE.out HDL.out _ hLl).mono ?_
                  rintro e w7 ⟨v7, rfl, hrow, hb⟩
                  rw [HPL.out] at hrow
                  obtain ⟨a7, c7, rfl⟩ := rw_form hrow
                  have hB := bl_next hB hb
                  clear hrow hb c1 c2 n0
                  by_cases h8 : 8 < pl.length
                  · have h8I : (8 : Int) < pl.length := by omega
                    have hbad : 8 < (pathT N p).length + deepN N s := HFL.out.2 ⟨j, hjl, by rw [HPL.out]; exact h8⟩
                    rw [if_neg (by simp), if_pos hbad] at hr
                    have HRR := Lib.hid hr
                    clear hbad hr
                    go_wp2_with fail
                    go_ret
                    have hr := HRR.out
                    cases hr
                    have hBw := bl_from HB0.out hB
                    exact ⟨rfl, _, H.out.below hBw, kept_of_below hBw⟩
                  · have h8I : (pl.length : Int) ≤ 8 := by omega
                    have H8 := Lib.hid (show pl.length ≤ 8 by omega)
                    clear h8
                    go_wp2_with fail
                    go_roundw
                    case rel =>
                      refine ⟨j + 1, by simp, by omega, Lib.hid (fun q hq h => ?_), hB⟩
                      rcases Nat.lt_or_ge q j with k9 | k9
                      · exact HALL.out q hq k9
                      · obtain rfl : q = j := by omega
                        rw [HPL.out]; exact H8.out
                    case measure => simp [intOf]; omega
                · obtain rfl : j = L.length := by omega
                  have hgood : ¬ 8 < (pathT N p).length + deepN N s := fun hb => by
                    obtain ⟨q, hq, h9⟩ := HFL.out.1 hb
                    have := HALL.out q hq hq
                    omega
                  rw [if_neg (by simp), if_neg hgood] at hr
                  have HRR := Lib.hid hr
                  clear hgood hr
                  have hBw := bl_from HB0.out hB
                  have c0 := cb hBw C0.out
                  have cf := fzb hBw (lt_of_cell C0.out) CF.out
                  go_wp2_with fail
                  go_ret
                  have hr := HRR.out
                  cases hr
                  obtain ⟨q1, q2⟩ := refT_store H.out hBw ((HR0.out.below hB).row)
                  exact ⟨rfl, _, q1, q2⟩
end
end Go.Proofs.Ythaipgbjnigkhaa
