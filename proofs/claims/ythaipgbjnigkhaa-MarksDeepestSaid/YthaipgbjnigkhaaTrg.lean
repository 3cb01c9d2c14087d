import Derived.Test.YthaipgbjnigkhaaTrf
namespace Go.Proofs.Ythaipgbjnigkhaa
open Go.RowKit Go.Shelf Go.Maps
set_option linter.unusedVariables false
set_option linter.unusedSimpArgs false
/-! ### Acts -/
theorem zero_size (N : Nodes) : (dm N : DataW Value) = dm N := rfl
theorem TreeAt.len_run {w : World} {tp mb : Nat} {N : Nodes} (h : TreeAt w tp mb N) (ty : TypeId) : (Builtin.len_ #[84] ty #[.map (some mb)]).run Try.prog w = .ok (.int .i64 N.length) w := by
  rw [h.map.len Try.underlying84 ty, size_dm]
theorem TreeAt.newMap {w w' : World} {tp mb : Nat} {N M : Nodes} {n : Nat} (h : TreeAt w tp mb N) (hm : w'.ownsMap Try.prog 9 RV mb n (dm M)) (hg : w.grownBy w' (some mb)) : TreeAt w' tp mb M ∧ Kept (treeX tp mb) w w' := by
  have hk : Kept (fun k => k = mb) w w' := ⟨hg.os, hg.tape, hg.output, hg.size, fun k hk hx => hg.block k hk (fun e => hx (Option.some.inj e))⟩
  exact ⟨⟨hk.heap h.box h.ne, by have := mv_tight hm; rwa [size_dm] at this⟩, hk.wider (fun k hk => .inr hk)⟩
set_option maxRecDepth 100000 in
set_option maxHeartbeats 4000000 in
theorem create_calls {tp mb : Nat} {N : Nodes} (w : World) (h : TreeAt w tp mb N) (G : Good11 N) (s p : ByteArray) (hs : s.size ≤ 1000) (hp : p.size ≤ 1000) :
    Calls Try.prog 31 #[.pointer (some ⟨tp, 0, none⟩), .string s, .string p] w fun e w' => e = .returned (.int .i64 (createR N s p).1) ∧ TreeAt w' tp mb (createR N s p).2 ∧ Kept (treeX tp mb) w w' := by
  have hB := Below.refl w.heap.size w
  have H := Lib.hid h
  have hfew := G.few
  have h8 := G.deep p
  clear h
  cases hr : rightB s with
  | false =>
    have HX := Lib.hid (show createR N s p = (1, N) by unfold createR; simp [hr])
    have HR := Lib.hid hr
    clear hr
    go_enter Try.func31, Try.ntmps31
    go_wp2_with (go_at_call 70; refine (right_calls _ _ (by omega)).mono ?_; rintro e w' ⟨rfl, hb⟩; rw [HR.out]; have hB := bl_next hB hb; clear hb)
    go_ret
    exact ⟨by rw [HX.out]; rfl, by rw [HX.out]; exact H.out.below hB, kept_of_below hB⟩
  | true =>
    have HR := Lib.hid hr
    cases hh : hasN N s with
    | true =>
      have HX := Lib.hid (show createR N s p = (5, N) by unfold createR; simp [hr, hh])
      have HH := Lib.hid hh
      clear hr hh
      go_enter Try.func31, Try.ntmps31
      go_wp2_with (first | (go_at_call 70; refine (right_calls _ _ (by omega)).mono ?_; rintro e w' ⟨rfl, hb⟩; rw [HR.out]; have hB := bl_next hB hb; clear hb) | (go_at_call 25; refine (has_calls _ (H.out.below hB) s (by omega)).mono ?_; rintro e w' ⟨rfl, hb⟩; rw [HH.out]; have hB := bl_next hB hb; clear hb))
      go_ret
      exact ⟨by rw [HX.out]; rfl, by rw [HX.out]; exact H.out.below hB, kept_of_below hB⟩
    | false =>
      have HH := Lib.hid hh
      cases hq : hasN N p with
      | false =>
        have HX := Lib.hid (show createR N s p = (4, N) by unfold createR; simp [hr, hh, hq])
        have HQ := Lib.hid hq
        clear hr hh hq
        go_enter Try.func31, Try.ntmps31
        go_upto_region 5 with (first | (go_at_call 70; refine (right_calls _ _ (by omega)).mono ?_; rintro e w' ⟨rfl, hb⟩; rw [HR.out]; have hB := bl_next hB hb; clear hb) | (go_at_call 25; refine (has_calls _ (H.out.below hB) s (by omega)).mono ?_; rintro e w' ⟨rfl, hb⟩; rw [HH.out]; have hB := bl_next hB hb; clear hb))
        go_wp2_with (go_at_call 25; refine (has_calls _ (H.out.below hB) p (by omega)).mono ?_; rintro e w' ⟨rfl, hb⟩; rw [HQ.out]; have hB := bl_next hB hb; clear hb)
        go_ret
        exact ⟨by rw [HX.out]; rfl, by rw [HX.out]; exact H.out.below hB, kept_of_below hB⟩
      | true =>
        have HQ := Lib.hid hq
        have HX := Lib.hid (show createR N s p = if 8 ≤ (pathT N p).length then (9, N) else if 200 ≤ N.length then (3, N) else (0, insN N s p) by unfold createR; simp [hr, hh, hq])
        clear hr hh hq
        go_enter Try.func31, Try.ntmps31
        go_upto_region 5 with (first | (go_at_call 70; refine (right_calls _ _ (by omega)).mono ?_; rintro e w' ⟨rfl, hb⟩; rw [HR.out]; have hB := bl_next hB hb; clear hb) | (go_at_call 25; refine (has_calls _ (H.out.below hB) s (by omega)).mono ?_; rintro e w' ⟨rfl, hb⟩; rw [HH.out]; have hB := bl_next hB hb; clear hb))
        go_upto_region 7 with (go_at_call 25; refine (has_calls _ (H.out.below hB) p (by omega)).mono ?_; rintro e w' ⟨rfl, hb⟩; rw [HQ.out]; have hB := bl_next hB hb; clear hb)
        by_cases h8' : 8 ≤ (pathT N p).length
        · have HX2 := Lib.hid (HX.out.trans (if_pos h8'))
          have h8I : (8 : Int) ≤ (pathT N p).length := by omega
          go_wp2_with (go_at_call 19; refine (path_calls _ (H.out.below hB) G p hp).mono ?_; rintro e w' ⟨v, rfl, hrow, hb⟩; obtain ⟨av, cv, rfl⟩ := rw_form hrow; have hB := bl_next hB hb; clear hb hrow)
          go_ret
          exact ⟨by rw [HX2.out]; rfl, by rw [HX2.out]; exact H.out.below hB, kept_of_below hB⟩
        · have HX2 := Lib.hid (HX.out.trans (if_neg h8'))
          have h8I : ((pathT N p).length : Int) < 8 := by omega
          go_upto_region 9 with (go_at_call 19; refine (path_calls _ (H.out.below hB) G p hp).mono ?_; rintro e w' ⟨v, rfl, hrow, hb⟩; obtain ⟨av, cv, rfl⟩ := rw_form hrow; have hB := bl_next hB hb; clear hb hrow)
          have HT := Lib.hid (H.out.below hB)
          have c0 := blk_cell HT.out.box 0
          have hlen := fun ty => HT.out.len_run ty
          by_cases h200 : 200 ≤ N.length
          · have HX3 := Lib.hid (HX2.out.trans (if_pos h200))
            have h2I : (200 : Int) ≤ N.length := by omega
            go_wp2
            go_ret
            exact ⟨by rw [HX3.out]; rfl, by rw [HX3.out]; exact HT.out, kept_of_below hB⟩
          · have HX3 := Lib.hid (HX2.out.trans (if_neg h200))
            have h2I : (N.length : Int) < 200 := by omega
            have HPUT := Lib.hid (put_new (p := p) HH.out)
            go_wp2_with (at_mapUpdate; refine wpList_mapUpdate_own _ rfl _ _ _ 84 rfl 9 9 string_key Try.underlying84 _ mb N.length (dm N) rfl HT.out.map (by unfold maxLen; omega) _ _ _ rfl rfl (keyS (by unfold maxLen; omega)) (.held (.string p)) [] rfl ?_; intro w1 hown1 hgrow1)
            rw [HPUT.out] at hown1
            obtain ⟨hT2, hK2⟩ := HT.out.newMap hown1 hgrow1
            go_ret
            exact ⟨by rw [HX3.out]; rfl, by rw [HX3.out]; exact hT2, (kept_of_below hB).trans hK2 (fun q hq => .inl hq)⟩
end Go.Proofs.Ythaipgbjnigkhaa
