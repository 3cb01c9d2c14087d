import Derived.Test.YtdcceaafiammfaaProg
import Derived.Test.YtdcceaafiammfaaFda
namespace Go.Proofs.Ytdcceaafiammfaa
open Go.RowKit
set_option linter.unusedVariables false
set_option linter.unusedSimpArgs false
def noneB (l : List Item) (i : Int) : Bool := decide (i < 0) || decide ((l.length : Int) ≤ i)
theorem fnone_calls {fb : Nat} {v : Value} {l : List Item} {cov : Nat} (w : World) (h : FeedAt w fb v l cov) (i : Int) : Calls Try.prog 79 #[.pointer (some ⟨fb, 0, none⟩), .int .i64 i] w fun e w' => e = .returned (.bool (noneB l i)) ∧ Below w.heap.size w w' := by
  have hB := Below.refl w.heap.size w
  have H := Lib.hid h
  clear h
  by_cases hi : i < 0
  · go_enter Try.func79, Try.ntmps79
    go_wp2
    go_ret
    exact ⟨ret_bool (by simp [noneB, hi]), hB⟩
  · go_enter Try.func79, Try.ntmps79
    go_wp2_with (go_at_call 20; refine (flen_calls _ (H.out.below hB)).mono ?_; rintro e w' ⟨rfl, hb⟩; have hB := bl_next hB hb; clear hb)
    go_ret
    exact ⟨ret_bool (by simp [noneB]; omega), hB⟩
theorem fnone_nil (w : World) (i : Int) : Calls Try.prog 79 #[.pointer none, .int .i64 i] w fun e w' => e = .returned (.bool true) ∧ Below w.heap.size w w' := by
  have hB := Below.refl w.heap.size w
  by_cases hi : i < 0
  · go_enter Try.func79, Try.ntmps79
    go_wp2
    go_ret
    exact ⟨ret_bool (by simp), hB⟩
  · go_enter Try.func79, Try.ntmps79
    go_wp2_with (go_at_call 20; refine (flen_nil _).mono ?_; rintro e w' ⟨rfl, hb⟩; have hB := bl_next hB hb; clear hb)
    go_ret
    exact ⟨ret_bool (by first | rfl | (simp; omega)), hB⟩
theorem FeedAt.setSt {w : World} {fb g cap n : Nat} {l : List Item} {cov : Nat} (h : FeedAt w fb (.slice (some ⟨g, 0, none⟩) n cap) l cov) (i st : Nat) (hi : i < l.length) :
    FeedAt (w.setCell ⟨g, i * 4 + 3, none⟩ (.int .i64 st)) fb (.slice (some ⟨g, 0, none⟩) n cap) (setSt l i st) cov := by
  have hn : n = l.length := by obtain ⟨ao, c, e⟩ := h.v0; cases e; rfl
  subst hn
  refine ⟨?_, ?_, h.apart⟩
  · rw [Below.heap_setCell w _ _ fb (fun e => h.apart g rfl e.symm)]; exact h.box
  · have := ownN_set h.row (i * 4 + 3) (by omega) (.int .i64 st)
    rw [itemsC_set l i st hi] at this
    rw [setSt_length]; exact this
theorem FeedAt.setCov {w : World} {fb : Nat} {v : Value} {l : List Item} {cov : Nat} (h : FeedAt w fb v l cov) (c : Nat) :
    FeedAt (w.setCell ⟨fb, 1, none⟩ (.int .i64 c)) fb v l c := by
  refine ⟨heap_setCell_same w fb 1 _ _ (.int .i64 c) h.box, ?_, h.apart⟩
  refine ownN_kept h.row (X := fun k => k = fb) ((Kept.refl _ w).setCell _ _ (.inl rfl)) (fun k hk => h.apart k hk)
def itemAt (l : List Item) (i : Nat) : Item := l.getD i ⟨⟨#[]⟩, ⟨#[]⟩, ⟨#[]⟩, 0⟩
theorem itemAt_eq {l : List Item} {i : Nat} (hi : i < l.length) : itemAt l i = l[i]'hi := by unfold itemAt; rw [List.getD_eq_getElem?_getD, List.getElem?_eq_getElem hi]; rfl
def dropR (l : List Item) (cov : Nat) (i : Int) : Int × List Item :=
  if noneB l i then (1, l) else if stB l cov i.toNat || decide ((itemAt l i.toNat).st = 2) then (6, l) else (0, setSt l i.toNat 2)
theorem fdrop_calls {fb : Nat} {v : Value} {l : List Item} {cov : Nat} (w : World) (h : FeedAt w fb v l cov) (i : Int) (hl : l.length ≤ 1000000) :
    Calls Try.prog 55 #[.pointer (some ⟨fb, 0, none⟩), .int .i64 i] w fun e w' => e = .returned (.int .i64 (dropR l cov i).1) ∧ FeedAt w' fb v (dropR l cov i).2 cov ∧ Kept (feedX fb v) w w' := by
  have hB := Below.refl w.heap.size w
  have H := Lib.hid h
  cases hno : noneB l i with
  | true =>
    have HR := Lib.hid (show dropR l cov i = (1, l) by unfold dropR; rw [hno]; rfl)
    have HN := Lib.hid hno
    clear h hno
    go_enter Try.func55, Try.ntmps55
    go_wp2_with (go_at_call 79; refine (fnone_calls _ (H.out.below hB) _).mono ?_; rintro e w' ⟨rfl, hb⟩; rw [HN.out]; have hB := bl_next hB hb; clear hb)
    go_ret
    exact ⟨by rw [HR.out]; rfl, by rw [HR.out]; exact H.out.below hB, kept_of_below hB⟩
  | false =>
    obtain ⟨j, rfl⟩ : ∃ j : Nat, i = (j : Int) := ⟨i.toNat, by unfold noneB at hno; simp at hno; omega⟩
    have hj : j < l.length := by unfold noneB at hno; simp at hno; omega
    obtain ⟨g, cap, rfl, hgf, i0, i1, i2, i3, if3⟩ := item_cells h j hj
    have c0 := blk_cell h.box 0
    have hgz : g < w.heap.size := lt_of_cell i3
    have HR := Lib.hid (show dropR l cov (j : Int) = if stB l cov j || decide ((itemAt l j).st = 2) then (6, l) else (0, setSt l j 2) by unfold dropR; rw [hno]; rfl)
    have HIT := Lib.hid (show (itemAt l j).st = (l[j]'hj).st by rw [itemAt_eq hj])
    obtain ⟨st, hst⟩ : ∃ st, (l[j]'hj).st = st := ⟨_, rfl⟩
    rw [hst] at i3 HIT
    obtain ⟨sb, hsb⟩ : ∃ sb, stB l cov j = sb := ⟨_, rfl⟩
    have HSB := Lib.hid hsb
    have HN := Lib.hid hno
    clear h hno hst hsb i0 i1 i2
    have hjI : (j : Int) < l.length := by omega
    cases sb with
    | true =>
      go_enter Try.func55, Try.ntmps55
      go_wp2_with (first | (go_at_call 79; refine (fnone_calls _ (H.out.below hB) _).mono ?_; rintro e w' ⟨rfl, hb⟩; rw [HN.out]; have hB := bl_next hB hb; clear hb) | (go_at_call 62; refine (fsettled_calls _ (H.out.below hB) j hj hl).mono ?_; rintro e w' ⟨rfl, hb⟩; rw [HSB.out]; have hB := bl_next hB hb; clear hb))
      go_ret
      exact ⟨by rw [HR.out, HSB.out]; rfl, by rw [HR.out, HSB.out]; exact H.out.below hB, kept_of_below hB⟩
    | false =>
      by_cases h2 : st = 2
      · have h2b : ((st : Int) == 2) = true := by simp; omega
        have H2 := Lib.hid h2
        clear h2
        go_enter Try.func55, Try.ntmps55
        go_wp2_with (first | (go_at_call 79; refine (fnone_calls _ (H.out.below hB) _).mono ?_; rintro e w' ⟨rfl, hb⟩; rw [HN.out]; have c0 := cb hb c0; have i3 := cb hb i3; have hB := bl_next hB hb; clear hb) | (go_at_call 62; refine (fsettled_calls _ (H.out.below hB) j hj hl).mono ?_; rintro e w' ⟨rfl, hb⟩; rw [HSB.out]; have c0 := cb hb c0; have i3 := cb hb i3; have hB := bl_next hB hb; clear hb))
        go_ret
        exact ⟨by rw [HR.out, HSB.out, HIT.out, H2.out]; rfl, by rw [HR.out, HSB.out, HIT.out, H2.out]; exact H.out.below hB, kept_of_below hB⟩
      · have h2b : ((st : Int) == 2) = false := by simp; omega
        have H2 := Lib.hid h2
        clear h2
        go_enter Try.func55, Try.ntmps55
        go_wp2_with (first | (go_at_call 79; refine (fnone_calls _ (H.out.below hB) _).mono ?_; rintro e w' ⟨rfl, hb⟩; rw [HN.out]; have if3 := fzb hb (lt_of_cell i3) if3; have c0 := cb hb c0; have i3 := cb hb i3; have hB := bl_next hB hb; clear hb) | (go_at_call 62; refine (fsettled_calls _ (H.out.below hB) j hj hl).mono ?_; rintro e w' ⟨rfl, hb⟩; rw [HSB.out]; have if3 := fzb hb (lt_of_cell i3) if3; have c0 := cb hb c0; have i3 := cb hb i3; have hB := bl_next hB hb; clear hb))
        go_ret
        refine ⟨?_, ?_, ?_⟩
        · rw [HR.out, HSB.out, HIT.out]; simp [H2.out]
        · rw [HR.out, HSB.out, HIT.out]
          rw [show (if (false || decide (st = 2)) = true then ((6 : Int), l) else (0, setSt l j 2)).2 = setSt l j 2 by simp [H2.out]]
          exact (H.out.below hB).setSt j 2 hj
        · exact (kept_of_below hB).setCell _ _ (.inl (.inr rfl))
def coverR (l : List Item) (cov : Nat) (i : Int) : Int × Nat :=
  if decide (i < 0) || decide ((l.length : Int) < i) then (1, cov) else if decide (i < cov) then (6, cov) else (0, i.toNat)
theorem fcover_calls {fb : Nat} {v : Value} {l : List Item} {cov : Nat} (w : World) (h : FeedAt w fb v l cov) (i : Int) :
    Calls Try.prog 25 #[.pointer (some ⟨fb, 0, none⟩), .int .i64 i] w fun e w' => e = .returned (.int .i64 (coverR l cov i).1) ∧ FeedAt w' fb v l (coverR l cov i).2 ∧ Kept (feedX fb v) w w' := by
  have hB := Below.refl w.heap.size w
  have H := Lib.hid h
  have c0 := blk_cell h.box 0
  have c1 := blk_cell h.box 1
  have cf := blk_free h.box 1
  clear h
  by_cases h1 : i < 0
  · have HR := Lib.hid (show coverR l cov i = (1, cov) by unfold coverR; simp [h1])
    go_enter Try.func25, Try.ntmps25
    go_wp2
    go_ret
    exact ⟨by rw [HR.out]; rfl, by rw [HR.out]; exact H.out, kept_of_below hB⟩
  · have h1' : 0 ≤ i := by omega
    by_cases h2 : (l.length : Int) < i
    · have HR := Lib.hid (show coverR l cov i = (1, cov) by unfold coverR; simp [h1, h2])
      go_enter Try.func25, Try.ntmps25
      go_wp2_with (go_at_call 20; refine (flen_calls _ (H.out.below hB)).mono ?_; rintro e w' ⟨rfl, hb⟩; have hB := bl_next hB hb; clear hb)
      go_ret
      exact ⟨by rw [HR.out]; rfl, by rw [HR.out]; exact H.out.below hB, kept_of_below hB⟩
    · have h2' : i ≤ l.length := by omega
      by_cases h3 : i < cov
      · have HR := Lib.hid (show coverR l cov i = (6, cov) by unfold coverR; simp [h1, h2, h3])
        go_enter Try.func25, Try.ntmps25
        go_wp2_with (go_at_call 20; refine (flen_calls _ (H.out.below hB)).mono ?_; rintro e w' ⟨rfl, hb⟩; have c1 := cb hb c1; have hB := bl_next hB hb; clear hb)
        go_ret
        exact ⟨by rw [HR.out]; rfl, by rw [HR.out]; exact H.out.below hB, kept_of_below hB⟩
      · obtain ⟨j, rfl⟩ : ∃ j : Nat, i = (j : Int) := ⟨i.toNat, by omega⟩
        have HR := Lib.hid (show coverR l cov (j : Int) = (0, j) by unfold coverR; simp [h1, h2, h3])
        go_enter Try.func25, Try.ntmps25
        go_wp2_with (go_at_call 20; refine (flen_calls _ (H.out.below hB)).mono ?_; rintro e w' ⟨rfl, hb⟩; have cf := fzb hb (lt_of_cell c1) cf; have c1 := cb hb c1; have hB := bl_next hB hb; clear hb)
        go_ret
        exact ⟨by rw [HR.out]; rfl, by rw [HR.out]; exact (H.out.below hB).setCov j, (kept_of_below hB).setCell _ _ (.inl (.inl rfl))⟩
end Go.Proofs.Ytdcceaafiammfaa
