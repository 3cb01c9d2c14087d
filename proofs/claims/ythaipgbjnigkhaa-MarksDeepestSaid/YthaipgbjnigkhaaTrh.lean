import Derived.Test.YthaipgbjnigkhaaTrg
namespace Go.Proofs.Ythaipgbjnigkhaa
open Go.RowKit Go.Shelf Go.Maps
set_option linter.unusedVariables false
set_option linter.unusedSimpArgs false
theorem root_list : rootB.toList = [114, 111, 111, 116] := by decide +kernel
theorem ne_root {x : ByteArray} (hr : ¬ x = rootB) : (x.toList == [114, 111, 111, 116]) = false := by
  cases q : (x.toList == [114, 111, 111, 116]) with
  | false => rfl
  | true => rw [← root_list, beq_iff_eq] at q; exact absurd (ba_eq.1 q) hr
theorem ne_root' {x : ByteArray} (hr : ¬ x = rootB) : ¬ x.toList = [114, 111, 111, 116] := fun q => hr (ba_eq.1 (q.trans root_list.symm))
set_option maxRecDepth 100000 in
set_option maxHeartbeats 4000000 in
theorem remove_calls {tp mb : Nat} {N : Nodes} (w : World) (h : TreeAt w tp mb N) (G : Good11 N) (s : ByteArray) (hs : s.size ≤ 1000) :
    Calls Try.prog 30 #[.pointer (some ⟨tp, 0, none⟩), .string s] w fun e w' => e = .returned (.int .i64 (removeR N s).1) ∧ TreeAt w' tp mb (removeR N s).2 ∧ Kept (treeX tp mb) w w' := by
  have hB := Below.refl w.heap.size w
  have H := Lib.hid h
  clear h
  cases hh : hasN N s with
  | false =>
    have HX := Lib.hid (show removeR N s = (4, N) by unfold removeR; simp [hh])
    have HH := Lib.hid hh
    clear hh
    go_enter Try.func30, Try.ntmps30
    go_wp2_with (go_at_call 25; refine (has_calls _ (H.out.below hB) s (by omega)).mono ?_; rintro e w' ⟨rfl, hb⟩; rw [HH.out]; have hB := bl_next hB hb; clear hb)
    go_ret
    exact ⟨by rw [HX.out]; rfl, by rw [HX.out]; exact H.out.below hB, kept_of_below hB⟩
  | true =>
    have HH := Lib.hid hh
    by_cases hr : s = rootB
    · have HX := Lib.hid (show removeR N s = (1, N) by unfold removeR; rw [hh, if_neg (by simp), if_pos hr])
      have hrl : s.toList = [114, 111, 111, 116] := by rw [hr]; exact root_list
      clear hh hr
      go_enter Try.func30, Try.ntmps30
      go_wp2_with (go_at_call 25; refine (has_calls _ (H.out.below hB) s (by omega)).mono ?_; rintro e w' ⟨rfl, hb⟩; rw [HH.out]; have hB := bl_next hB hb; clear hb)
      go_ret
      exact ⟨by rw [HX.out]; rfl, by rw [HX.out]; exact H.out.below hB, kept_of_below hB⟩
    · have hrl := ne_root hr
      have hrl' := ne_root' hr
      obtain ⟨cl, hcl⟩ : ∃ cl, childN N s = cl := ⟨_, rfl⟩
      have HCL := Lib.hid hcl
      have HX := Lib.hid (show removeR N s = if !cl.isEmpty then (10, N) else (0, delN N s) by unfold removeR; rw [hcl]; simp [hh, hr])
      have HR := Lib.hid hr
      clear hh hr hcl
      cases cl with
      | cons c r =>
        have HX2 := Lib.hid (show removeR N s = (10, N) by rw [HX.out]; rfl)
        go_enter Try.func30, Try.ntmps30
        go_wp2_with (first | (go_at_call 25; refine (has_calls _ (H.out.below hB) s (by omega)).mono ?_; rintro e w' ⟨rfl, hb⟩; rw [HH.out]; have hB := bl_next hB hb; clear hb) | (go_at_call 21; refine (children_calls _ (H.out.below hB) G s).mono ?_; rw [HCL.out]; rintro e w' ⟨v, rfl, hrow, hb⟩; obtain ⟨av, cv, rfl⟩ := rw_form hrow; have hB := bl_next hB hb; clear hb hrow))
        go_ret
        exact ⟨by rw [HX2.out]; rfl, by rw [HX2.out]; exact H.out.below hB, kept_of_below hB⟩
      | nil =>
        have HX2 := Lib.hid (show removeR N s = (0, delN N s) by rw [HX.out]; rfl)
        have HDEL := Lib.hid (del_dm N s)
        go_enter Try.func30, Try.ntmps30
        go_upto_region 9 with (first | (go_at_call 25; refine (has_calls _ (H.out.below hB) s (by omega)).mono ?_; rintro e w' ⟨rfl, hb⟩; rw [HH.out]; have hB := bl_next hB hb; clear hb) | (go_at_call 21; refine (children_calls _ (H.out.below hB) G s).mono ?_; rw [HCL.out]; rintro e w' ⟨v, rfl, hrow, hb⟩; obtain ⟨av, cv, rfl⟩ := rw_form hrow; have hB := bl_next hB hb; clear hb hrow))
        have HT := Lib.hid (H.out.below hB)
        have c0 := blk_cell HT.out.box 0
        go_wp2_with (at_delete; refine wpList_delete_own _ rfl _ _ 84 9 rfl 9 string_key Try.underlying84 RV mb N.length (dm N) rfl HT.out.map _ _ rfl (keyS (by unfold maxLen; omega)) ?_; intro w1 hown1 hturn1)
        rw [HDEL.out] at hown1
        obtain ⟨hT2, hK2⟩ := HT.out.newMap hown1 hturn1.grown
        go_ret
        exact ⟨by rw [HX2.out]; rfl, by rw [HX2.out]; exact hT2, (kept_of_below hB).trans hK2 (fun q hq => .inl hq)⟩
set_option maxRecDepth 100000 in
set_option maxHeartbeats 4000000 in
theorem move_calls {tp mb : Nat} {N : Nodes} (w : World) (h : TreeAt w tp mb N) (G : Good11 N) (s p : ByteArray) (hs : s.size ≤ 1000) (hp : p.size ≤ 1000) :
    Calls Try.prog 59 #[.pointer (some ⟨tp, 0, none⟩), .string s, .string p] w fun e w' => e = .returned (.int .i64 (moveR N s p).1) ∧ TreeAt w' tp mb (moveR N s p).2 ∧ Kept (treeX tp mb) w w' := by
  have hB := Below.refl w.heap.size w
  have H := Lib.hid h
  have hfew := G.few
  clear h
  cases hh : hasN N s with
  | false =>
    have HX := Lib.hid (show moveR N s p = (4, N) by unfold moveR; simp [hh])
    have HH := Lib.hid hh
    clear hh
    go_enter Try.func59, Try.ntmps59
    go_wp2_with (go_at_call 25; refine (has_calls _ (H.out.below hB) s (by omega)).mono ?_; rintro e w' ⟨rfl, hb⟩; rw [HH.out]; have hB := bl_next hB hb; clear hb)
    go_ret
    exact ⟨by rw [HX.out]; rfl, by rw [HX.out]; exact H.out.below hB, kept_of_below hB⟩
  | true =>
    have HH := Lib.hid hh
    cases hq : hasN N p with
    | false =>
      have HX := Lib.hid (show moveR N s p = (4, N) by unfold moveR; simp [hh, hq])
      have HQ := Lib.hid hq
      clear hh hq
      have hsp := hs
      go_enter Try.func59, Try.ntmps59
      go_wp2_with fail
      refine (has_calls _ (H.out.below hB) s (by omega)).mono ?_
      rintro e w' ⟨rfl, hb⟩
      rw [HH.out]
      have hB := bl_next hB hb
      clear hb
      go_wp2_with (go_at_call 25; refine (has_calls _ (H.out.below hB) p (by omega)).mono ?_; rintro e w' ⟨rfl, hb⟩; rw [HQ.out]; have hB := bl_next hB hb; clear hb)
      go_ret
      exact ⟨by rw [HX.out]; rfl, by rw [HX.out]; exact H.out.below hB, kept_of_below hB⟩
    | true =>
      have HQ := Lib.hid hq
      have HX := Lib.hid (show moveR N s p = if s = rootB then (1, N) else if inL (pathT N p) s then (8, N) else if 8 < (pathT N p).length + deepN N s then (9, N) else (0, setN N s p) by unfold moveR; simp [hh, hq])
      clear hh hq
      go_enter Try.func59, Try.ntmps59
      go_wp2_with fail
      refine (has_calls _ (H.out.below hB) s (by omega)).mono ?_
      rintro e w' ⟨rfl, hb⟩
      rw [HH.out]
      have hB := bl_next hB hb
      clear hb
      by_cases hr : s = rootB
      · have HX2 := Lib.hid (HX.out.trans (if_pos hr))
        have hrl : s.toList = [114, 111, 111, 116] := by rw [hr]; exact root_list
        clear hr
        go_wp2_with (go_at_call 25; refine (has_calls _ (H.out.below hB) p (by omega)).mono ?_; rintro e w' ⟨rfl, hb⟩; rw [HQ.out]; have hB := bl_next hB hb; clear hb)
        go_ret
        exact ⟨by rw [HX2.out]; rfl, by rw [HX2.out]; exact H.out.below hB, kept_of_below hB⟩
      · have HX2 := Lib.hid (HX.out.trans (if_neg hr))
        have hrl := ne_root hr
        have hrl' := ne_root' hr
        have hp8 : (pathT N p).length ≤ 1000000 := by have := G.deep p; omega
        have HP8 := Lib.hid hp8
        clear hr hp8
        cases hi : inL (pathT N p) s with
        | true =>
          have HX3 := Lib.hid (show moveR N s p = (8, N) by rw [HX2.out, hi]; rfl)
          have HI := Lib.hid hi
          clear hi
          go_wp2_with (first | (go_at_call 25; refine (has_calls _ (H.out.below hB) p (by omega)).mono ?_; rintro e w' ⟨rfl, hb⟩; rw [HQ.out]; have hB := bl_next hB hb; clear hb) | (go_at_call 19; refine (path_calls _ (H.out.below hB) G p hp).mono ?_; rintro e w' ⟨v, rfl, hrow, hb⟩; have HROW := Lib.hid hrow; have hB := bl_next hB hb; clear hb hrow) | (go_at_call 69; refine (contains_calls _ HROW.out s HP8.out).mono ?_; rintro e w' ⟨rfl, hb⟩; rw [HI.out]; have hB := bl_next hB hb; clear hb))
          go_ret
          exact ⟨by rw [HX3.out]; rfl, by rw [HX3.out]; exact H.out.below hB, kept_of_below hB⟩
        | false =>
          have HX3 := Lib.hid (show moveR N s p = if 8 < (pathT N p).length + deepN N s then (9, N) else (0, setN N s p) by rw [HX2.out, hi]; rfl)
          have HI := Lib.hid hi
          have hpd := G.deep p
          have hdd := deepN_le G s
          clear hi
          go_upto_region 9 with (first | (go_at_call 25; refine (has_calls _ (H.out.below hB) p (by omega)).mono ?_; rintro e w' ⟨rfl, hb⟩; rw [HQ.out]; have hB := bl_next hB hb; clear hb) | (go_at_call 19; refine (path_calls _ (H.out.below hB) G p hp).mono ?_; rintro e w' ⟨v, rfl, hrow, hb⟩; have HROW := Lib.hid hrow; have hB := bl_next hB hb; clear hb hrow) | (go_at_call 69; refine (contains_calls _ HROW.out s HP8.out).mono ?_; rintro e w' ⟨rfl, hb⟩; rw [HI.out]; have hB := bl_next hB hb; clear hb))
          by_cases hd : 8 < (pathT N p).length + deepN N s
          · have HX4 := Lib.hid (HX3.out.trans (if_pos hd))
            have hdI : (8 : Int) < (pathT N p).length + deepN N s := by omega
            go_wp2_with (first | (go_at_call 19; refine (path_calls _ (H.out.below hB) G p hp).mono ?_; rintro e w' ⟨v, rfl, hrow, hb⟩; obtain ⟨av, cv, rfl⟩ := rw_form hrow; have hB := bl_next hB hb; clear hb hrow) | (go_at_call 88; refine (deep_calls _ (H.out.below hB) G s).mono ?_; rintro e w' ⟨rfl, hb⟩; have hB := bl_next hB hb; clear hb))
            go_ret
            exact ⟨by rw [HX4.out]; rfl, by rw [HX4.out]; exact H.out.below hB, kept_of_below hB⟩
          · have HX4 := Lib.hid (HX3.out.trans (if_neg hd))
            have hdI : ((pathT N p).length : Int) + deepN N s ≤ 8 := by omega
            have HPUT := Lib.hid (put_old (p := p) G.rise HH.out)
            go_upto_region 11 with (first | (go_at_call 19; refine (path_calls _ (H.out.below hB) G p hp).mono ?_; rintro e w' ⟨v, rfl, hrow, hb⟩; obtain ⟨av, cv, rfl⟩ := rw_form hrow; have hB := bl_next hB hb; clear hb hrow) | (go_at_call 88; refine (deep_calls _ (H.out.below hB) G s).mono ?_; rintro e w' ⟨rfl, hb⟩; have hB := bl_next hB hb; clear hb))
            have HT := Lib.hid (H.out.below hB)
            have c0 := blk_cell HT.out.box 0
            go_wp2_with (at_mapUpdate; refine wpList_mapUpdate_own _ rfl _ _ _ 84 rfl 9 9 string_key Try.underlying84 _ mb N.length (dm N) rfl HT.out.map (by unfold maxLen; omega) _ _ _ rfl rfl (keyS (by unfold maxLen; omega)) (.held (.string p)) [] rfl ?_; intro w1 hown1 hgrow1)
            rw [HPUT.out] at hown1
            obtain ⟨hT2, hK2⟩ := HT.out.newMap hown1 hgrow1
            go_ret
            exact ⟨by rw [HX4.out]; rfl, by rw [HX4.out]; exact hT2, (kept_of_below hB).trans hK2 (fun q hq => .inl hq)⟩
set_option maxRecDepth 100000 in
theorem tnew_calls (w : World) : Calls Try.prog 12 #[] w fun e w' => ∃ tp mb, e = .returned (.pointer (some ⟨tp, 0, none⟩)) ∧ TreeAt w' tp mb [(rootB, ⟨#[]⟩)] ∧ (w.heap.size ≤ tp ∧ w.heap.size ≤ mb) ∧ Below w.heap.size w w' := by
  have hmm := @run_makeMap Try.prog
  obtain ⟨w2, hrun, hown, hg⟩ := (World.ownsMap_made w Try.prog 9 RV).update (t := 84) (e := 9) string_key Try.underlying84 (by decide) (keyS (s := rootB) (by decide)) (d := .held (.string ⟨#[]⟩)) (ps := []) rfl
  have e1 : (DataW.map [] : DataW Value).put (kS rootB) (.held (.string ⟨#[]⟩)) = dm [(rootB, ⟨#[]⟩)] := rfl
  rw [e1] at hown
  have HO := Lib.hid hown
  have HG := Lib.hid hg
  have hsz : w.heap.size < w2.heap.size := by have := hg.size; simp at this; omega
  clear hown hg e1
  unfold rootB at hrun
  go_enter Try.func12, Try.ntmps12
  go_wp2
  go_ret
  have hb2 : Below w.heap.size w w2 := ((Below.refl _ w).alloc (Nat.le_refl _) _).grown HG.out (by simp) (fun j hj => by cases hj; exact Nat.le_refl _)
  refine ⟨w2.heap.size, w.heap.size, rfl, ⟨blk_new w2 _, ?_⟩, ⟨by omega, Nat.le_refl _⟩, hb2.alloc hb2.size _⟩
  exact mv_below HO.out ((Below.refl _ _).alloc (Nat.le_refl _) _)
end Go.Proofs.Ythaipgbjnigkhaa
