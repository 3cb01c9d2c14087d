import Derived.Test.YtdcceaafiammfaaFdd
import Derived.Test.YtdcceaafiammfaaSeqIn
import Derived.Lib.Strings
namespace Go.Proofs.Ytdcceaafiammfaa
open Go.RowKit Go.Shelf
set_option linter.unusedVariables false
set_option linter.unusedSimpArgs false
attribute [local go_sem] Oper.semAt_some
def same6 (a b c a' b' c' : ByteArray) : Bool := decide (a = a') && decide (b = b') && decide (c = c')
def sameK (x y : Item) : Bool := same6 x.k x.s x.n y.k y.s y.n
def blkB (l : List Item) (i k : Nat) : Bool := decide ((itemAt l k).st = 0) && sameK (itemAt l k) (itemAt l i)
def tellR (l : List Item) (cov : Nat) (i : Int) : Int × List Item :=
  if noneB l i then (1, l) else if (itemAt l i.toNat).st = 2 then (6, l) else if (openTo l cov i.toNat).any (blkB l i.toNat) then (7, l) else (0, setSt l i.toNat 1)
theorem ba_eq {a b : ByteArray} : a.toList = b.toList ↔ a = b := ⟨fun h => by rw [Lib.toList_data, Lib.toList_data] at h; exact ByteArray.ext (Array.toList_inj.1 h), fun h => by rw [h]⟩
theorem keyIf (a b c a' b' c' : ByteArray) (w : World) : (if a.toList = a'.toList then if b.toList = b'.toList then if c.toList = c'.toList then Result.ok (Next.value (Value.bool true)) w else Result.ok (Next.value (Value.bool false)) w else Result.ok (Next.value (Value.bool false)) w else Result.ok (Next.value (Value.bool false)) w)
    = .ok (.value (.bool (same6 a b c a' b' c'))) w := by
  simp only [ba_eq, same6]
  by_cases h1 : a = a' <;> by_cases h2 : b = b' <;> by_cases h3 : c = c' <;> simp [h1, h2, h3]
theorem keepsO_below {U V : World} (h : Below U.heap.size U V) : KeepsOthers U V := ⟨h.size, fun k _ hk _ => (h.block k (blk_lt hk)).trans hk⟩
theorem openTo_sub {l : List Item} {cov k E : Nat} (h : k ≤ E) {x : Nat} (hx : x ∈ openTo l cov k) : x ∈ openTo l cov E := by
  unfold openTo at hx ⊢
  rw [List.mem_filter, List.mem_range] at hx ⊢
  exact ⟨by omega, hx.2⟩
set_option maxRecDepth 100000 in
set_option maxHeartbeats 4000000 in
theorem ftell_calls {fp : Nat} {v : Value} {l : List Item} {cov : Nat} (w : World) (h : FeedAt w fp v l cov) (i : Int) (hl : l.length ≤ 1000000) :
    Calls Try.prog 54 #[.pointer (some ⟨fp, 0, none⟩), .int .i64 i] w fun e w' => e = .returned (.int .i64 (tellR l cov i).1) ∧ FeedAt w' fp v (tellR l cov i).2 cov ∧ Kept (feedX fp v) w w' := by
  have H := Lib.hid h
  cases hno : noneB l i with
  | true =>
    have HR := Lib.hid (show tellR l cov i = (1, l) by unfold tellR; rw [hno]; rfl)
    have HN := Lib.hid hno
    clear h hno
    go_enter Try.func54, Try.ntmps54
    go_upto_region 1 with fail
    first | with_reducible refine name_wp ?_ | with_reducible refine name_calls ?_
    intro W hWeq
    have g0 : W.heap[w.heap.size]? = some (.cells #[.pointer (some ⟨fp, 0, none⟩)] 25) := by rw [hWeq]; repeat (first | (with_reducible exact blk_newAt _ _ (by simp)) | with_reducible refine blk_drew ?_ | with_reducible refine blk_dN ?_ _ | with_reducible refine blk_old ?_ _)
    have g1 : W.heap[w.heap.size + 1]? = some (.cells #[.int .i64 i] 3) := by rw [hWeq]; repeat (first | (with_reducible exact blk_newAt _ _ (by simp)) | with_reducible refine blk_drew ?_ | with_reducible refine blk_dN ?_ _ | with_reducible refine blk_old ?_ _)
    have g2 : W.heap[w.heap.size + 2]? = some (.cells #[.int .i64 0] 32) := by rw [hWeq]; repeat (first | (with_reducible exact blk_newAt _ _ (by simp)) | with_reducible refine blk_drew ?_ | with_reducible refine blk_dN ?_ _ | with_reducible refine blk_old ?_ _)
    have hw : Below w.heap.size w W := by rw [hWeq]; repeat (first | with_reducible exact Below.refl _ _ | with_reducible refine Below.drew ?_ | with_reducible refine bl_dN ?_ _ | with_reducible refine Below.alloc ?_ (by simp <;> omega) _)
    clear hWeq
    have hz : w.heap.size + 3 ≤ W.heap.size := by have := blk_lt g2; omega
    have c0_0 : W.cell? ⟨w.heap.size, 0, none⟩ = some (.pointer (some ⟨fp, 0, none⟩)) := blk_cell g0 0
    have f0 : ∀ j, W.frozen? ⟨w.heap.size, j, none⟩ = false := blk_free g0
    have c1_0 : W.cell? ⟨w.heap.size + 1, 0, none⟩ = some (.int .i64 i) := blk_cell g1 0
    have f1 : ∀ j, W.frozen? ⟨w.heap.size + 1, j, none⟩ = false := blk_free g1
    have c2_0 : W.cell? ⟨w.heap.size + 2, 0, none⟩ = some (.int .i64 0) := blk_cell g2 0
    have f2 : ∀ j, W.frozen? ⟨w.heap.size + 2, j, none⟩ = false := blk_free g2
    have hB : Below W.heap.size W W := Below.refl _ _
    have G0 := Lib.hid g0; clear g0
    have F0 := Lib.hid f0; clear f0
    have G1 := Lib.hid g1; clear g1
    have F1 := Lib.hid f1; clear f1
    have G2 := Lib.hid g2; clear g2
    have F2 := Lib.hid f2; clear f2
    have Hw := Lib.hid hw; clear hw
    go_wp2_with (go_at_call 79; refine (fnone_calls _ ((H.out.below Hw.out).below hB) _).mono ?_; rintro e w' ⟨rfl, hb⟩; rw [HN.out]; have hB := bl_next (by repeat (first | with_reducible exact hB | refine Below.alloc ?_ (by have := hB.size; simp; omega) _ | refine bl_dN ?_ _ | refine Below.drew ?_ | refine Below.setCell ?_ (by have := hB.size; simp; omega) _)) hb; clear hb; have k0_0 := cb hB c0_0; have k1_0 := cb hB c1_0; have k2_0 := cb hB c2_0; have kz0 : w.heap.size < _ := lt_of_cell k0_0; have kz1 : w.heap.size + 1 < _ := lt_of_cell k1_0; have kz2 : w.heap.size + 2 < _ := lt_of_cell k2_0; have kf0_0 := fb hB (lt_of_cell c0_0) (F0.out 0); have kf1_0 := fb hB (lt_of_cell c1_0) (F1.out 0); have kf2_0 := fb hB (lt_of_cell c2_0) (F2.out 0))
    have hw0 := bl_from Hw.out hB
    refine bodyPost_ret (v := .int .i64 1) (by simp [results, Try.results54, go_sem, k2_0]) rfl ⟨by rw [HR.out], ?_, ?_⟩
    · rw [HR.out]; exact H.out.below (by (repeat (first | exact Below.refl _ _ | exact hw0 | refine Below.setCell ?_ (by first | (simp; done) | (simp; omega)) _ | refine Below.alloc ?_ (by first | (simp; done) | (simp; omega)) _ | refine bl_dN ?_ _ | refine Below.drew ?_)))
    · exact kept_of_below (by (repeat (first | exact Below.refl _ _ | exact hw0 | refine Below.setCell ?_ (by first | (simp; done) | (simp; omega)) _ | refine Below.alloc ?_ (by first | (simp; done) | (simp; omega)) _ | refine bl_dN ?_ _ | refine Below.drew ?_)))
  | false =>
    obtain ⟨j, rfl⟩ : ∃ j : Nat, i = (j : Int) := ⟨i.toNat, by unfold noneB at hno; simp at hno; omega⟩
    have hj : j < l.length := by unfold noneB at hno; simp at hno; omega
    obtain ⟨g, cap, rfl, hgf, i0, i1, i2, i3, if3⟩ := item_cells h j hj
    have HIT := Lib.hid (itemAt_eq hj)
    have HN := Lib.hid hno
    have HR := Lib.hid (show tellR l cov (j : Int) = if (itemAt l j).st = 2 then (6, l) else if (openTo l cov j).any (blkB l j) then (7, l) else (0, setSt l j 1) by unfold tellR; rw [hno]; rfl)
    obtain ⟨y, hy⟩ : ∃ y, l[j]'hj = y := ⟨_, rfl⟩
    rw [hy] at i0 i1 i2 i3 HIT
    clear hno hy
    have hjI : (j : Int) < l.length := by omega
    refine (callsIn_wide (n := 6)).1 ?_
    refine callsIn_of_wp_marks Try.func54 rfl trivial ?_ rfl
    simp only [Try.ntmps54, List.size_toArray, List.length_cons, List.length_nil, Nat.reduceAdd, Nat.reduceSub, Array.replicate_succ, Array.replicate_zero, List.push_toArray, List.append_toArray, List.nil_append, List.cons_append]
    refine wpIn_wide.2 ?_
    go_upto_region 1 with fail
    first | with_reducible refine name_wp ?_ | with_reducible refine name_calls ?_
    intro W hWeq
    have g0 : W.heap[w.heap.size]? = some (.cells #[.pointer (some ⟨fp, 0, none⟩)] 25) := by rw [hWeq]; repeat (first | (with_reducible exact blk_newAt _ _ (by simp)) | with_reducible refine blk_drew ?_ | with_reducible refine blk_dN ?_ _ | with_reducible refine blk_old ?_ _)
    have g1 : W.heap[w.heap.size + 1]? = some (.cells #[.int .i64 j] 3) := by rw [hWeq]; repeat (first | (with_reducible exact blk_newAt _ _ (by simp)) | with_reducible refine blk_drew ?_ | with_reducible refine blk_dN ?_ _ | with_reducible refine blk_old ?_ _)
    have g2 : W.heap[w.heap.size + 2]? = some (.cells #[.int .i64 0] 32) := by rw [hWeq]; repeat (first | (with_reducible exact blk_newAt _ _ (by simp)) | with_reducible refine blk_drew ?_ | with_reducible refine blk_dN ?_ _ | with_reducible refine blk_old ?_ _)
    have hw : Below w.heap.size w W := by rw [hWeq]; repeat (first | with_reducible exact Below.refl _ _ | with_reducible refine Below.drew ?_ | with_reducible refine bl_dN ?_ _ | with_reducible refine Below.alloc ?_ (by simp <;> omega) _)
    clear hWeq
    have hz : w.heap.size + 3 ≤ W.heap.size := by have := blk_lt g2; omega
    have c0_0 : W.cell? ⟨w.heap.size, 0, none⟩ = some (.pointer (some ⟨fp, 0, none⟩)) := blk_cell g0 0
    have f0 : ∀ j, W.frozen? ⟨w.heap.size, j, none⟩ = false := blk_free g0
    have c1_0 : W.cell? ⟨w.heap.size + 1, 0, none⟩ = some (.int .i64 j) := blk_cell g1 0
    have f1 : ∀ j, W.frozen? ⟨w.heap.size + 1, j, none⟩ = false := blk_free g1
    have c2_0 : W.cell? ⟨w.heap.size + 2, 0, none⟩ = some (.int .i64 0) := blk_cell g2 0
    have f2 : ∀ j, W.frozen? ⟨w.heap.size + 2, j, none⟩ = false := blk_free g2
    have hB : Below W.heap.size W W := Below.refl _ _
    have G0 := Lib.hid g0; clear g0
    have F0 := Lib.hid f0; clear f0
    have G1 := Lib.hid g1; clear g1
    have F1 := Lib.hid f1; clear f1
    have G2 := Lib.hid g2; clear g2
    have F2 := Lib.hid f2; clear f2
    have Hw := Lib.hid hw; clear hw
    go_upto_region 3 with (go_at_call 79; refine (fnone_calls _ ((H.out.below Hw.out).below hB) _).mono ?_; rintro e w' ⟨rfl, hb⟩; rw [HN.out]; have hB := bl_next (by repeat (first | with_reducible exact hB | refine Below.alloc ?_ (by have := hB.size; simp; omega) _ | refine bl_dN ?_ _ | refine Below.drew ?_ | refine Below.setCell ?_ (by have := hB.size; simp; omega) _)) hb; clear hb; have k0_0 := cb hB c0_0; have k1_0 := cb hB c1_0; have k2_0 := cb hB c2_0; have kz0 : w.heap.size < _ := lt_of_cell k0_0; have kz1 : w.heap.size + 1 < _ := lt_of_cell k1_0; have kz2 : w.heap.size + 2 < _ := lt_of_cell k2_0; have kf0_0 := fb hB (lt_of_cell c0_0) (F0.out 0); have kf1_0 := fb hB (lt_of_cell c1_0) (F1.out 0); have kf2_0 := fb hB (lt_of_cell c2_0) (F2.out 0))
    have HFW := H.out.below Hw.out
    have d0 := blk_cell HFW.box 0
    have e0 := cb Hw.out i0; have e1 := cb Hw.out i1; have e2 := cb Hw.out i2; have e3 := cb Hw.out i3
    have ef := fzb Hw.out (lt_of_cell i3) if3
    have HFR := Lib.hid HFW
    clear HFW i0 i1 i2 i3 if3
    by_cases h2 : y.st = 2
    · have h2b : ((y.st : Int) == 2) = true := by simp; omega
      have HX := Lib.hid (show tellR l cov (j : Int) = (6, l) by rw [HR.out, if_pos (by rw [HIT.out]; exact h2)])
      clear h2
      have hB := hB.drew
      refine region_seqN (fun w' => Below W.heap.size W w') [(0, true), (1, true), (2, true), (3, true), (4, true), (5, true), (6, true), (7, true), (8, true), (9, true)] (by kernel_rfl) (by kernel_rfl) hB ?_
      try generalize World.drew _ = wS at hB ⊢
      refine seq_take (v := ?_) (a' := ?_) (some 11) rfl rfl (by rfl) ?_ ?_ ?_
      rotate_left; rotate_left
      · intro w' hS; have s0_0 := cb hS c0_0; have s1_0 := cb hS c1_0; have s2_0 := cb hS c2_0; have s8 := cb hS d0; have s9 := cb hS e3; go_simp; with_reducible rfl
      · simp only [Act.put, List.setIfInBounds_toArray, List.set_cons_zero, List.set_cons_succ]; rfl
      refine seq_take (v := ?_) (a' := ?_) (some 12) rfl rfl (by rfl) ?_ ?_ ?_
      rotate_left; rotate_left
      · intro w' hS; go_simp; with_reducible rfl
      · simp only [Act.put, List.setIfInBounds_toArray, List.set_cons_zero, List.set_cons_succ]; rfl
      refine seq_take (v := ?_) (a' := ?_) (some 13) rfl rfl (by rfl) ?_ ?_ ?_
      rotate_left; rotate_left
      · intro w' hS; go_simp; with_reducible rfl
      · simp only [Act.put, List.setIfInBounds_toArray, List.set_cons_zero, List.set_cons_succ]; rfl
      refine seq_take (v := ?_) (a' := ?_) (some 14) rfl rfl (by rfl) ?_ ?_ ?_
      rotate_left; rotate_left
      · intro w' hS; have s0_0 := cb hS c0_0; have s1_0 := cb hS c1_0; have s2_0 := cb hS c2_0; have s8 := cb hS d0; have s9 := cb hS e3; go_simp; with_reducible rfl
      · simp only [Act.put, List.setIfInBounds_toArray, List.set_cons_zero, List.set_cons_succ]; rfl
      refine seq_take (v := ?_) (a' := ?_) (some 15) rfl rfl (by rfl) ?_ ?_ ?_
      rotate_left; rotate_left
      · intro w' hS; have s0_0 := cb hS c0_0; have s1_0 := cb hS c1_0; have s2_0 := cb hS c2_0; have s8 := cb hS d0; have s9 := cb hS e3; go_simp; with_reducible rfl
      · simp only [Act.put, List.setIfInBounds_toArray, List.set_cons_zero, List.set_cons_succ]; rfl
      refine seq_take (v := ?_) (a' := ?_) (some 16) rfl rfl (by rfl) ?_ ?_ ?_
      rotate_left; rotate_left
      · intro w' hS; go_simp; with_reducible rfl
      · simp only [Act.put, List.setIfInBounds_toArray, List.set_cons_zero, List.set_cons_succ]; rfl
      refine seq_take (v := ?_) (a' := ?_) (some 17) rfl rfl (by rfl) ?_ ?_ ?_
      rotate_left; rotate_left
      · intro w' hS; go_simp; with_reducible rfl
      · simp only [Act.put, List.setIfInBounds_toArray, List.set_cons_zero, List.set_cons_succ]; rfl
      refine seq_take (v := ?_) (a' := ?_) (some 18) rfl rfl (by rfl) ?_ ?_ ?_
      rotate_left; rotate_left
      · intro w' hS; have s0_0 := cb hS c0_0; have s1_0 := cb hS c1_0; have s2_0 := cb hS c2_0; have s8 := cb hS d0; have s9 := cb hS e3; go_simp; with_reducible rfl
      · simp only [Act.put, List.setIfInBounds_toArray, List.set_cons_zero, List.set_cons_succ]; rfl
      refine seq_take (v := ?_) (a' := ?_) (some 19) rfl rfl (by rfl) ?_ ?_ ?_
      rotate_left; rotate_left
      · intro w' hS; go_simp; with_reducible rfl
      · simp only [Act.put, List.setIfInBounds_toArray, List.set_cons_zero, List.set_cons_succ]; rfl
      refine seq_take (v := ?_) (a' := ?_) (some 10) rfl rfl (by rfl) ?_ ?_ ?_
      rotate_left; rotate_left
      · intro w' hS; go_simp; with_reducible rfl
      · simp only [Act.put, List.setIfInBounds_toArray, List.set_cons_zero, List.set_cons_succ]; rfl
      refine seqN_done ?_
      have k0_0 := cb hB c0_0
      have k1_0 := cb hB c1_0
      have k2_0 := cb hB c2_0
      have kz0 : w.heap.size < _ := lt_of_cell k0_0
      have kz1 : w.heap.size + 1 < _ := lt_of_cell k1_0
      have kz2 : w.heap.size + 2 < _ := lt_of_cell k2_0
      have kf0_0 := fb hB (lt_of_cell c0_0) (F0.out 0)
      have kf1_0 := fb hB (lt_of_cell c1_0) (F1.out 0)
      have kf2_0 := fb hB (lt_of_cell c2_0) (F2.out 0)
      go_wp2
      have hw0 := bl_from Hw.out hB
      refine ⟨.int .i64 6, by simp [results, Try.results54, go_sem, k2_0], by rw [HX.out], ?_, ?_⟩
      · rw [HX.out]; exact H.out.below (by (repeat (first | exact Below.refl _ _ | exact hw0 | refine Below.setCell ?_ (by first | (simp; done) | (simp; omega)) _ | refine Below.alloc ?_ (by first | (simp; done) | (simp; omega)) _ | refine bl_dN ?_ _ | refine Below.drew ?_)))
      · exact kept_of_below (by (repeat (first | exact Below.refl _ _ | exact hw0 | refine Below.setCell ?_ (by first | (simp; done) | (simp; omega)) _ | refine Below.alloc ?_ (by first | (simp; done) | (simp; omega)) _ | refine bl_dN ?_ _ | refine Below.drew ?_)))
    · have h2b : ((y.st : Int) == 2) = false := by simp; omega
      have HX := Lib.hid (show tellR l cov (j : Int) = if (openTo l cov j).any (blkB l j) then (7, l) else (0, setSt l j 1) by rw [HR.out, if_neg (by rw [HIT.out]; exact h2)])
      clear h2
      have hB := hB.drew
      refine region_seqN (fun w' => Below W.heap.size W w') [(0, true), (1, true), (2, true), (3, true), (4, true), (5, true), (6, true), (7, true), (8, true), (9, true)] (by kernel_rfl) (by kernel_rfl) hB ?_
      try generalize World.drew _ = wS at hB ⊢
      refine seq_take (v := ?_) (a' := ?_) (some 11) rfl rfl (by rfl) ?_ ?_ ?_
      rotate_left; rotate_left
      · intro w' hS; have s0_0 := cb hS c0_0; have s1_0 := cb hS c1_0; have s2_0 := cb hS c2_0; have s8 := cb hS d0; have s9 := cb hS e3; go_simp; with_reducible rfl
      · simp only [Act.put, List.setIfInBounds_toArray, List.set_cons_zero, List.set_cons_succ]; rfl
      refine seq_take (v := ?_) (a' := ?_) (some 12) rfl rfl (by rfl) ?_ ?_ ?_
      rotate_left; rotate_left
      · intro w' hS; go_simp; with_reducible rfl
      · simp only [Act.put, List.setIfInBounds_toArray, List.set_cons_zero, List.set_cons_succ]; rfl
      refine seq_take (v := ?_) (a' := ?_) (some 13) rfl rfl (by rfl) ?_ ?_ ?_
      rotate_left; rotate_left
      · intro w' hS; go_simp; with_reducible rfl
      · simp only [Act.put, List.setIfInBounds_toArray, List.set_cons_zero, List.set_cons_succ]; rfl
      refine seq_take (v := ?_) (a' := ?_) (some 14) rfl rfl (by rfl) ?_ ?_ ?_
      rotate_left; rotate_left
      · intro w' hS; have s0_0 := cb hS c0_0; have s1_0 := cb hS c1_0; have s2_0 := cb hS c2_0; have s8 := cb hS d0; have s9 := cb hS e3; go_simp; with_reducible rfl
      · simp only [Act.put, List.setIfInBounds_toArray, List.set_cons_zero, List.set_cons_succ]; rfl
      refine seq_take (v := ?_) (a' := ?_) (some 15) rfl rfl (by rfl) ?_ ?_ ?_
      rotate_left; rotate_left
      · intro w' hS; have s0_0 := cb hS c0_0; have s1_0 := cb hS c1_0; have s2_0 := cb hS c2_0; have s8 := cb hS d0; have s9 := cb hS e3; go_simp; with_reducible rfl
      · simp only [Act.put, List.setIfInBounds_toArray, List.set_cons_zero, List.set_cons_succ]; rfl
      refine seq_take (v := ?_) (a' := ?_) (some 16) rfl rfl (by rfl) ?_ ?_ ?_
      rotate_left; rotate_left
      · intro w' hS; go_simp; with_reducible rfl
      · simp only [Act.put, List.setIfInBounds_toArray, List.set_cons_zero, List.set_cons_succ]; rfl
      refine seq_take (v := ?_) (a' := ?_) (some 17) rfl rfl (by rfl) ?_ ?_ ?_
      rotate_left; rotate_left
      · intro w' hS; go_simp; with_reducible rfl
      · simp only [Act.put, List.setIfInBounds_toArray, List.set_cons_zero, List.set_cons_succ]; rfl
      refine seq_take (v := ?_) (a' := ?_) (some 18) rfl rfl (by rfl) ?_ ?_ ?_
      rotate_left; rotate_left
      · intro w' hS; have s0_0 := cb hS c0_0; have s1_0 := cb hS c1_0; have s2_0 := cb hS c2_0; have s8 := cb hS d0; have s9 := cb hS e3; go_simp; with_reducible rfl
      · simp only [Act.put, List.setIfInBounds_toArray, List.set_cons_zero, List.set_cons_succ]; rfl
      refine seq_take (v := ?_) (a' := ?_) (some 19) rfl rfl (by rfl) ?_ ?_ ?_
      rotate_left; rotate_left
      · intro w' hS; go_simp; with_reducible rfl
      · simp only [Act.put, List.setIfInBounds_toArray, List.set_cons_zero, List.set_cons_succ]; rfl
      refine seq_take (v := ?_) (a' := ?_) (some 10) rfl rfl (by rfl) ?_ ?_ ?_
      rotate_left; rotate_left
      · intro w' hS; go_simp; with_reducible rfl
      · simp only [Act.put, List.setIfInBounds_toArray, List.set_cons_zero, List.set_cons_succ]; rfl
      refine seqN_done ?_
      have k0_0 := cb hB c0_0
      have k1_0 := cb hB c1_0
      have k2_0 := cb hB c2_0
      have kz0 : w.heap.size < _ := lt_of_cell k0_0
      have kz1 : w.heap.size + 1 < _ := lt_of_cell k1_0
      have kz2 : w.heap.size + 2 < _ := lt_of_cell k2_0
      have kf0_0 := fb hB (lt_of_cell c0_0) (F0.out 0)
      have kf1_0 := fb hB (lt_of_cell c1_0) (F1.out 0)
      have kf2_0 := fb hB (lt_of_cell c2_0) (F2.out 0)
      go_wp2_with (go_at_call 60; refine (fnums_calls _ fp j).mono ?_; rintro e w' ⟨rfl, q0, q1, qz, hb⟩; have hB := bl_next (by repeat (first | with_reducible exact hB | refine Below.alloc ?_ (by have := hB.size; simp; omega) _ | refine bl_dN ?_ _ | refine Below.drew ?_ | refine Below.setCell ?_ (by have := hB.size; simp; omega) _)) hb; clear hb; have k0_0 := cb hB c0_0; have k1_0 := cb hB c1_0; have k2_0 := cb hB c2_0; have kz0 : w.heap.size < _ := lt_of_cell k0_0; have kz1 : w.heap.size + 1 < _ := lt_of_cell k1_0; have kz2 : w.heap.size + 2 < _ := lt_of_cell k2_0; have kf0_0 := fb hB (lt_of_cell c0_0) (F0.out 0); have kf1_0 := fb hB (lt_of_cell c1_0) (F1.out 0); have kf2_0 := fb hB (lt_of_cell c2_0) (F2.out 0))
      obtain ⟨V, rfl⟩ : ∃ V : World, V = w' := ⟨_, rfl⟩
      have hBz := Lib.hid (show w.heap.size + 3 ≤ V.heap.size by have := hB.size; omega)
      refine (wpIn_wide (n := 5)).1 ?_
      have HV := HFR.out.below hB
      refine wpIn_rangeFunc_ownF rfl (by decide) (gf := 80) rfl trivial (enters_of Try.func80 (by kernel_rfl) rfl)
        (fnums_stops 4 (by decide) _ _ V.heap.size fp j _ l cov (by omega) hl V q1 q0 HV (Nat.le_refl _) (by omega) (by omega) (HV.lt)) belowK_t (belowK_b (Nat.le_refl _)) (Below.refl _ _) (fun _ => rfl)
        (fun pre U => ((pre.any fun x => blkB l j x.1) = false ∧ (U.cell? ⟨w.heap.size, 0, none⟩ = some (.pointer (some ⟨fp, 0, none⟩)) ∧ U.cell? ⟨w.heap.size + 1, 0, none⟩ = some (.int .i64 j)) ∧ U.cell? ⟨w.heap.size + 2, 0, none⟩ = some (.int .i64 0) ∧ U.frozen? ⟨w.heap.size + 2, 0, none⟩ = false ∧ V.heap.size ≤ U.heap.size) ∧ Below w.heap.size w U)
        (fun c pre U => (c = .ret ∧ (pre.any fun x => blkB l j x.1) = true ∧ U.cell? ⟨w.heap.size + 2, 0, none⟩ = some (.int .i64 7)) ∧ Below w.heap.size w U)
        ?hI ?hIx ?h0 ?a1 ?assign ?body ?done ?stop
      case assign =>
        intro l1 x U K hK
        gi_wp2
        exact hK
      case hI =>
        exact OwnFrom.and (Own.from (fun s A B row hs hg hr => ⟨hs.1, ⟨cell_kept hs.2.1.1 hg hr, cell_kept hs.2.1.2 hg hr⟩, cell_kept hs.2.2.1 hg hr, (frozen_kept hs.2.2.1 hg hr).trans hs.2.2.2.1, Nat.le_trans hs.2.2.2.2 hg.size⟩) _) (ownFrom_below (Nat.le_refl _) (by have := hB.size; have := Hw.out.size; omega))
      case hIx =>
        intro c
        exact OwnFrom.and (Own.from (fun s A B row hs hg hr => ⟨hs.1, hs.2.1, cell_kept hs.2.2 hg hr⟩) _) (ownFrom_below (Nat.le_refl _) (by have := hB.size; have := Hw.out.size; omega))
      case h0 => exact ⟨⟨rfl, ⟨k0_0, k1_0⟩, k2_0, kf2_0, Nat.le_refl _⟩, bl_from Hw.out hB⟩
      case body =>
        rintro l1 pre x U ⟨⟨hpre, ⟨u0, u1⟩, u2, uf, hVU⟩, hbU⟩ _
        have HU := H.out.below hbU
        have hx := x.2
        obtain ⟨g1, cap1, he1, -, a0, a1, a2, a3, -⟩ := item_cells HU x.1 (by omega)
        cases he1
        obtain ⟨g1, cap1, he1, -, b0, b1, b2, b3, -⟩ := item_cells HU j hj
        cases he1
        have d0 := blk_cell HU.box 0
        have hxl : x.1 < l.length := by omega
        have hxI : ((x.1 : Nat) : Int) < l.length := by omega
        have HZ := itemAt_eq hxl
        have HY := (itemAt_eq hj).symm.trans HIT.out
        rw [HY] at b0 b1 b2 b3
        obtain ⟨z, hz⟩ : ∃ z, l[x.1]'hxl = z := ⟨_, rfl⟩
        rw [hz] at a0 a1 a2 a3 HZ
        have hb0 := Lib.hid (show blkB l j x.1 = (decide (z.st = 0) && sameK z y) by unfold blkB; rw [HZ, HIT.out])
        have HP := Lib.hid hpre
        clear HZ hz HY hpre
        have hB := Below.refl U.heap.size U
        gi_wp2
        by_cases h0 : z.st = 0
        · have h0b : ((z.st : Int) == 0) = true := by simp; omega
          have hB := hB.drew
          refine region_seqIn (fun w' => Below U.heap.size U w') [(0, true), (1, true), (2, true), (3, true), (4, true), (5, true), (6, true), (7, true), (8, true), (9, true), (10, true), (11, true), (12, true), (13, true), (14, true), (15, true), (16, true), (17, true), (18, true), (19, true), (20, true), (21, true), (22, true), (23, true), (24, true), (25, true), (26, true), (27, true)] (by kernel_rfl) (by kernel_rfl) hB ?_
          try generalize World.drew _ = wS at hB ⊢
          refine seq_take (v := ?_) (a' := ?_) (some 24) rfl rfl (by rfl) ?_ ?_ ?_
          rotate_left; rotate_left
          · intro w' hS; have q0 := cb hS u0; have q1 := cb hS u1; have q2 := cb hS d0; have q3 := cb hS a0; have q4 := cb hS a1; have q5 := cb hS a2; have q6 := cb hS a3; have q7 := cb hS b0; have q8 := cb hS b1; have q9 := cb hS b2; go_simp; with_reducible rfl
          · simp only [Act.put, List.setIfInBounds_toArray, List.set_cons_zero, List.set_cons_succ]; rfl
          refine seq_take (v := ?_) (a' := ?_) (some 25) rfl rfl (by rfl) ?_ ?_ ?_
          rotate_left; rotate_left
          · intro w' hS; go_simp; with_reducible rfl
          · simp only [Act.put, List.setIfInBounds_toArray, List.set_cons_zero, List.set_cons_succ]; rfl
          refine seq_take (v := ?_) (a' := ?_) (some 26) rfl rfl (by rfl) ?_ ?_ ?_
          rotate_left; rotate_left
          · intro w' hS; go_simp; with_reducible rfl
          · simp only [Act.put, List.setIfInBounds_toArray, List.set_cons_zero, List.set_cons_succ]; rfl
          refine seq_take (v := ?_) (a' := ?_) (some 27) rfl rfl (by rfl) ?_ ?_ ?_
          rotate_left; rotate_left
          · intro w' hS; have q0 := cb hS u0; have q1 := cb hS u1; have q2 := cb hS d0; have q3 := cb hS a0; have q4 := cb hS a1; have q5 := cb hS a2; have q6 := cb hS a3; have q7 := cb hS b0; have q8 := cb hS b1; have q9 := cb hS b2; go_simp; with_reducible rfl
          · simp only [Act.put, List.setIfInBounds_toArray, List.set_cons_zero, List.set_cons_succ]; rfl
          refine seq_take (v := ?_) (a' := ?_) (some 28) rfl rfl (by rfl) ?_ ?_ ?_
          rotate_left; rotate_left
          · intro w' hS; go_simp; with_reducible rfl
          · simp only [Act.put, List.setIfInBounds_toArray, List.set_cons_zero, List.set_cons_succ]; rfl
          refine seq_take (v := ?_) (a' := ?_) (some 29) rfl rfl (by rfl) ?_ ?_ ?_
          rotate_left; rotate_left
          · intro w' hS; go_simp; with_reducible rfl
          · simp only [Act.put, List.setIfInBounds_toArray, List.set_cons_zero, List.set_cons_succ]; rfl
          refine seq_take (v := ?_) (a' := ?_) (some 30) rfl rfl (by rfl) ?_ ?_ ?_
          rotate_left; rotate_left
          · intro w' hS; go_simp; with_reducible rfl
          · simp only [Act.put, List.setIfInBounds_toArray, List.set_cons_zero, List.set_cons_succ]; rfl
          refine seq_take (v := ?_) (a' := ?_) (some 31) rfl rfl (by rfl) ?_ ?_ ?_
          rotate_left; rotate_left
          · intro w' hS; have q0 := cb hS u0; have q1 := cb hS u1; have q2 := cb hS d0; have q3 := cb hS a0; have q4 := cb hS a1; have q5 := cb hS a2; have q6 := cb hS a3; have q7 := cb hS b0; have q8 := cb hS b1; have q9 := cb hS b2; go_simp; with_reducible rfl
          · simp only [Act.put, List.setIfInBounds_toArray, List.set_cons_zero, List.set_cons_succ]; rfl
          refine seq_take (v := ?_) (a' := ?_) (some 32) rfl rfl (by rfl) ?_ ?_ ?_
          rotate_left; rotate_left
          · intro w' hS; (first | (go_simp; with_reducible rfl) | (go_simp; exact keyIf _ _ _ _ _ _ _))
          · simp only [Act.put, List.setIfInBounds_toArray, List.set_cons_zero, List.set_cons_succ]; rfl
          refine seq_take (v := ?_) (a' := ?_) (some 33) rfl rfl (by rfl) ?_ ?_ ?_
          rotate_left; rotate_left
          · intro w' hS; go_simp; with_reducible rfl
          · simp only [Act.put, List.setIfInBounds_toArray, List.set_cons_zero, List.set_cons_succ]; rfl
          refine seq_take (v := ?_) (a' := ?_) (some 34) rfl rfl (by rfl) ?_ ?_ ?_
          rotate_left; rotate_left
          · intro w' hS; have q0 := cb hS u0; have q1 := cb hS u1; have q2 := cb hS d0; have q3 := cb hS a0; have q4 := cb hS a1; have q5 := cb hS a2; have q6 := cb hS a3; have q7 := cb hS b0; have q8 := cb hS b1; have q9 := cb hS b2; go_simp; with_reducible rfl
          · simp only [Act.put, List.setIfInBounds_toArray, List.set_cons_zero, List.set_cons_succ]; rfl
          refine seq_take (v := ?_) (a' := ?_) (some 35) rfl rfl (by rfl) ?_ ?_ ?_
          rotate_left; rotate_left
          · intro w' hS; go_simp; with_reducible rfl
          · simp only [Act.put, List.setIfInBounds_toArray, List.set_cons_zero, List.set_cons_succ]; rfl
          refine seq_take (v := ?_) (a' := ?_) (some 36) rfl rfl (by rfl) ?_ ?_ ?_
          rotate_left; rotate_left
          · intro w' hS; go_simp; with_reducible rfl
          · simp only [Act.put, List.setIfInBounds_toArray, List.set_cons_zero, List.set_cons_succ]; rfl
          refine seq_take (v := ?_) (a' := ?_) (some 37) rfl rfl (by rfl) ?_ ?_ ?_
          rotate_left; rotate_left
          · intro w' hS; have q0 := cb hS u0; have q1 := cb hS u1; have q2 := cb hS d0; have q3 := cb hS a0; have q4 := cb hS a1; have q5 := cb hS a2; have q6 := cb hS a3; have q7 := cb hS b0; have q8 := cb hS b1; have q9 := cb hS b2; go_simp; with_reducible rfl
          · simp only [Act.put, List.setIfInBounds_toArray, List.set_cons_zero, List.set_cons_succ]; rfl
          refine seq_take (v := ?_) (a' := ?_) (some 38) rfl rfl (by rfl) ?_ ?_ ?_
          rotate_left; rotate_left
          · intro w' hS; go_simp; with_reducible rfl
          · simp only [Act.put, List.setIfInBounds_toArray, List.set_cons_zero, List.set_cons_succ]; rfl
          refine seq_take (v := ?_) (a' := ?_) (some 39) rfl rfl (by rfl) ?_ ?_ ?_
          rotate_left; rotate_left
          · intro w' hS; go_simp; with_reducible rfl
          · simp only [Act.put, List.setIfInBounds_toArray, List.set_cons_zero, List.set_cons_succ]; rfl
          refine seq_take (v := ?_) (a' := ?_) (some 40) rfl rfl (by rfl) ?_ ?_ ?_
          rotate_left; rotate_left
          · intro w' hS; go_simp; with_reducible rfl
          · simp only [Act.put, List.setIfInBounds_toArray, List.set_cons_zero, List.set_cons_succ]; rfl
          refine seq_take (v := ?_) (a' := ?_) (some 41) rfl rfl (by rfl) ?_ ?_ ?_
          rotate_left; rotate_left
          · intro w' hS; have q0 := cb hS u0; have q1 := cb hS u1; have q2 := cb hS d0; have q3 := cb hS a0; have q4 := cb hS a1; have q5 := cb hS a2; have q6 := cb hS a3; have q7 := cb hS b0; have q8 := cb hS b1; have q9 := cb hS b2; go_simp; with_reducible rfl
          · simp only [Act.put, List.setIfInBounds_toArray, List.set_cons_zero, List.set_cons_succ]; rfl
          refine seq_take (v := ?_) (a' := ?_) (some 42) rfl rfl (by rfl) ?_ ?_ ?_
          rotate_left; rotate_left
          · intro w' hS; have q0 := cb hS u0; have q1 := cb hS u1; have q2 := cb hS d0; have q3 := cb hS a0; have q4 := cb hS a1; have q5 := cb hS a2; have q6 := cb hS a3; have q7 := cb hS b0; have q8 := cb hS b1; have q9 := cb hS b2; go_simp; with_reducible rfl
          · simp only [Act.put, List.setIfInBounds_toArray, List.set_cons_zero, List.set_cons_succ]; rfl
          refine seq_take (v := ?_) (a' := ?_) (some 43) rfl rfl (by rfl) ?_ ?_ ?_
          rotate_left; rotate_left
          · intro w' hS; go_simp; with_reducible rfl
          · simp only [Act.put, List.setIfInBounds_toArray, List.set_cons_zero, List.set_cons_succ]; rfl
          refine seq_take (v := ?_) (a' := ?_) (some 44) rfl rfl (by rfl) ?_ ?_ ?_
          rotate_left; rotate_left
          · intro w' hS; go_simp; with_reducible rfl
          · simp only [Act.put, List.setIfInBounds_toArray, List.set_cons_zero, List.set_cons_succ]; rfl
          refine seq_take (v := ?_) (a' := ?_) (some 45) rfl rfl (by rfl) ?_ ?_ ?_
          rotate_left; rotate_left
          · intro w' hS; have q0 := cb hS u0; have q1 := cb hS u1; have q2 := cb hS d0; have q3 := cb hS a0; have q4 := cb hS a1; have q5 := cb hS a2; have q6 := cb hS a3; have q7 := cb hS b0; have q8 := cb hS b1; have q9 := cb hS b2; go_simp; with_reducible rfl
          · simp only [Act.put, List.setIfInBounds_toArray, List.set_cons_zero, List.set_cons_succ]; rfl
          refine seq_take (v := ?_) (a' := ?_) (some 46) rfl rfl (by rfl) ?_ ?_ ?_
          rotate_left; rotate_left
          · intro w' hS; have q0 := cb hS u0; have q1 := cb hS u1; have q2 := cb hS d0; have q3 := cb hS a0; have q4 := cb hS a1; have q5 := cb hS a2; have q6 := cb hS a3; have q7 := cb hS b0; have q8 := cb hS b1; have q9 := cb hS b2; go_simp; with_reducible rfl
          · simp only [Act.put, List.setIfInBounds_toArray, List.set_cons_zero, List.set_cons_succ]; rfl
          refine seq_take (v := ?_) (a' := ?_) (some 47) rfl rfl (by rfl) ?_ ?_ ?_
          rotate_left; rotate_left
          · intro w' hS; go_simp; with_reducible rfl
          · simp only [Act.put, List.setIfInBounds_toArray, List.set_cons_zero, List.set_cons_succ]; rfl
          refine seq_take (v := ?_) (a' := ?_) (some 48) rfl rfl (by rfl) ?_ ?_ ?_
          rotate_left; rotate_left
          · intro w' hS; go_simp; with_reducible rfl
          · simp only [Act.put, List.setIfInBounds_toArray, List.set_cons_zero, List.set_cons_succ]; rfl
          refine seq_take (v := ?_) (a' := ?_) (some 49) rfl rfl (by rfl) ?_ ?_ ?_
          rotate_left; rotate_left
          · intro w' hS; have q0 := cb hS u0; have q1 := cb hS u1; have q2 := cb hS d0; have q3 := cb hS a0; have q4 := cb hS a1; have q5 := cb hS a2; have q6 := cb hS a3; have q7 := cb hS b0; have q8 := cb hS b1; have q9 := cb hS b2; go_simp; with_reducible rfl
          · simp only [Act.put, List.setIfInBounds_toArray, List.set_cons_zero, List.set_cons_succ]; rfl
          refine seq_take (v := ?_) (a' := ?_) (some 50) rfl rfl (by rfl) ?_ ?_ ?_
          rotate_left; rotate_left
          · intro w' hS; (first | (go_simp; with_reducible rfl) | (go_simp; exact keyIf _ _ _ _ _ _ _))
          · simp only [Act.put, List.setIfInBounds_toArray, List.set_cons_zero, List.set_cons_succ]; rfl
          refine seq_take (v := ?_) (a' := ?_) (some 51) rfl rfl (by rfl) ?_ ?_ ?_
          rotate_left; rotate_left
          · intro w' hS; go_simp; with_reducible rfl
          · simp only [Act.put, List.setIfInBounds_toArray, List.set_cons_zero, List.set_cons_succ]; rfl
          refine seqN_done ?_
          have r2 := cb hB u2
          have rf := fzb hB (lt_of_cell u2) uf
          obtain ⟨sk, hsk⟩ : ∃ sk, same6 z.k z.s z.n y.k y.s y.n = sk := ⟨_, rfl⟩
          rw [hsk]
          have HSK := Lib.hid (show blkB l j x.1 = sk by rw [hb0.out, ← hsk, h0]; rfl)
          clear hsk
          cases sk with
          | true =>
            gi_wp2
            exact ⟨(keepsO_below hB).trans (KeepsOthers.setCell _ _ _), ⟨rfl, by rw [List.any_append, HP.out]; simp [HSK.out], World.cell?_setCell_same' _ _ _ (by rw [r2]; rfl)⟩, (hbU.trans (hB.mono hbU.size)).setCell (by show _ ≤ w.heap.size + 1 + 1; omega) _⟩
          | false =>
            gi_wp2
            exact ⟨keepsO_below hB, hB.mono hVU, ⟨by rw [List.any_append, HP.out]; simp [HSK.out], ⟨cb hB u0, cb hB u1⟩, r2, rf, Nat.le_trans hVU hB.size⟩, hbU.trans (hB.mono hbU.size)⟩
        · have h0b : ((z.st : Int) == 0) = false := by simp; omega
          have hB := hB.drew
          refine region_seqIn (fun w' => Below U.heap.size U w') [(0, true), (1, true), (2, true), (3, true), (4, true), (5, true), (6, true), (7, true), (8, true), (9, true), (10, true), (11, true), (12, true), (13, true), (14, true), (15, true), (16, true), (17, true), (18, true), (19, true), (20, true), (21, true), (22, true), (23, true), (24, true), (25, true), (26, true), (27, true)] (by kernel_rfl) (by kernel_rfl) hB ?_
          try generalize World.drew _ = wS at hB ⊢
          refine seq_take (v := ?_) (a' := ?_) (some 24) rfl rfl (by rfl) ?_ ?_ ?_
          rotate_left; rotate_left
          · intro w' hS; have q0 := cb hS u0; have q1 := cb hS u1; have q2 := cb hS d0; have q3 := cb hS a0; have q4 := cb hS a1; have q5 := cb hS a2; have q6 := cb hS a3; go_simp; with_reducible rfl
          · simp only [Act.put, List.setIfInBounds_toArray, List.set_cons_zero, List.set_cons_succ]; rfl
          refine seq_take (v := ?_) (a' := ?_) (some 25) rfl rfl (by rfl) ?_ ?_ ?_
          rotate_left; rotate_left
          · intro w' hS; go_simp; with_reducible rfl
          · simp only [Act.put, List.setIfInBounds_toArray, List.set_cons_zero, List.set_cons_succ]; rfl
          refine seq_take (v := ?_) (a' := ?_) (some 26) rfl rfl (by rfl) ?_ ?_ ?_
          rotate_left; rotate_left
          · intro w' hS; go_simp; with_reducible rfl
          · simp only [Act.put, List.setIfInBounds_toArray, List.set_cons_zero, List.set_cons_succ]; rfl
          refine seq_take (v := ?_) (a' := ?_) (some 27) rfl rfl (by rfl) ?_ ?_ ?_
          rotate_left; rotate_left
          · intro w' hS; have q0 := cb hS u0; have q1 := cb hS u1; have q2 := cb hS d0; have q3 := cb hS a0; have q4 := cb hS a1; have q5 := cb hS a2; have q6 := cb hS a3; go_simp; with_reducible rfl
          · simp only [Act.put, List.setIfInBounds_toArray, List.set_cons_zero, List.set_cons_succ]; rfl
          refine seq_take (v := ?_) (a' := ?_) (some 28) rfl rfl (by rfl) ?_ ?_ ?_
          rotate_left; rotate_left
          · intro w' hS; go_simp; with_reducible rfl
          · simp only [Act.put, List.setIfInBounds_toArray, List.set_cons_zero, List.set_cons_succ]; rfl
          refine seq_take (v := ?_) (a' := ?_) (some 29) rfl rfl (by rfl) ?_ ?_ ?_
          rotate_left; rotate_left
          · intro w' hS; go_simp; with_reducible rfl
          · simp only [Act.put, List.setIfInBounds_toArray, List.set_cons_zero, List.set_cons_succ]; rfl
          refine seq_take (v := ?_) (a' := ?_) (some 30) rfl rfl (by rfl) ?_ ?_ ?_
          rotate_left; rotate_left
          · intro w' hS; go_simp; with_reducible rfl
          · simp only [Act.put, List.setIfInBounds_toArray, List.set_cons_zero, List.set_cons_succ]; rfl
          refine seq_take (v := ?_) (a' := ?_) (some 31) rfl rfl (by rfl) ?_ ?_ ?_
          rotate_left; rotate_left
          · intro w' hS; have q0 := cb hS u0; have q1 := cb hS u1; have q2 := cb hS d0; have q3 := cb hS a0; have q4 := cb hS a1; have q5 := cb hS a2; have q6 := cb hS a3; go_simp; with_reducible rfl
          · simp only [Act.put, List.setIfInBounds_toArray, List.set_cons_zero, List.set_cons_succ]; rfl
          refine seq_take (v := ?_) (a' := ?_) (some 32) rfl rfl (by rfl) ?_ ?_ ?_
          rotate_left; rotate_left
          · intro w' hS; go_simp; with_reducible rfl
          · simp only [Act.put, List.setIfInBounds_toArray, List.set_cons_zero, List.set_cons_succ]; rfl
          refine seq_take (v := ?_) (a' := ?_) (some 33) rfl rfl (by rfl) ?_ ?_ ?_
          rotate_left; rotate_left
          · intro w' hS; go_simp; with_reducible rfl
          · simp only [Act.put, List.setIfInBounds_toArray, List.set_cons_zero, List.set_cons_succ]; rfl
          refine seq_skip (a' := ?_) (some 34) rfl rfl (by rfl) ?_ ?_
          rotate_left
          · simp only [Act.put, List.setIfInBounds_toArray, List.set_cons_zero, List.set_cons_succ]; rfl
          refine seq_skip (a' := ?_) (some 35) rfl rfl (by rfl) ?_ ?_
          rotate_left
          · simp only [Act.put, List.setIfInBounds_toArray, List.set_cons_zero, List.set_cons_succ]; rfl
          refine seq_skip (a' := ?_) (some 36) rfl rfl (by rfl) ?_ ?_
          rotate_left
          · simp only [Act.put, List.setIfInBounds_toArray, List.set_cons_zero, List.set_cons_succ]; rfl
          refine seq_skip (a' := ?_) (some 37) rfl rfl (by rfl) ?_ ?_
          rotate_left
          · simp only [Act.put, List.setIfInBounds_toArray, List.set_cons_zero, List.set_cons_succ]; rfl
          refine seq_skip (a' := ?_) (some 38) rfl rfl (by rfl) ?_ ?_
          rotate_left
          · simp only [Act.put, List.setIfInBounds_toArray, List.set_cons_zero, List.set_cons_succ]; rfl
          refine seq_skip (a' := ?_) (some 39) rfl rfl (by rfl) ?_ ?_
          rotate_left
          · simp only [Act.put, List.setIfInBounds_toArray, List.set_cons_zero, List.set_cons_succ]; rfl
          refine seq_skip (a' := ?_) (some 40) rfl rfl (by rfl) ?_ ?_
          rotate_left
          · simp only [Act.put, List.setIfInBounds_toArray, List.set_cons_zero, List.set_cons_succ]; rfl
          refine seq_skip (a' := ?_) (some 41) rfl rfl (by rfl) ?_ ?_
          rotate_left
          · simp only [Act.put, List.setIfInBounds_toArray, List.set_cons_zero, List.set_cons_succ]; rfl
          refine seq_skip (a' := ?_) (some 42) rfl rfl (by rfl) ?_ ?_
          rotate_left
          · simp only [Act.put, List.setIfInBounds_toArray, List.set_cons_zero, List.set_cons_succ]; rfl
          refine seq_skip (a' := ?_) (some 43) rfl rfl (by rfl) ?_ ?_
          rotate_left
          · simp only [Act.put, List.setIfInBounds_toArray, List.set_cons_zero, List.set_cons_succ]; rfl
          refine seq_skip (a' := ?_) (some 44) rfl rfl (by rfl) ?_ ?_
          rotate_left
          · simp only [Act.put, List.setIfInBounds_toArray, List.set_cons_zero, List.set_cons_succ]; rfl
          refine seq_skip (a' := ?_) (some 45) rfl rfl (by rfl) ?_ ?_
          rotate_left
          · simp only [Act.put, List.setIfInBounds_toArray, List.set_cons_zero, List.set_cons_succ]; rfl
          refine seq_skip (a' := ?_) (some 46) rfl rfl (by rfl) ?_ ?_
          rotate_left
          · simp only [Act.put, List.setIfInBounds_toArray, List.set_cons_zero, List.set_cons_succ]; rfl
          refine seq_skip (a' := ?_) (some 47) rfl rfl (by rfl) ?_ ?_
          rotate_left
          · simp only [Act.put, List.setIfInBounds_toArray, List.set_cons_zero, List.set_cons_succ]; rfl
          refine seq_skip (a' := ?_) (some 48) rfl rfl (by rfl) ?_ ?_
          rotate_left
          · simp only [Act.put, List.setIfInBounds_toArray, List.set_cons_zero, List.set_cons_succ]; rfl
          refine seq_skip (a' := ?_) (some 49) rfl rfl (by rfl) ?_ ?_
          rotate_left
          · simp only [Act.put, List.setIfInBounds_toArray, List.set_cons_zero, List.set_cons_succ]; rfl
          refine seq_skip (a' := ?_) (some 50) rfl rfl (by rfl) ?_ ?_
          rotate_left
          · simp only [Act.put, List.setIfInBounds_toArray, List.set_cons_zero, List.set_cons_succ]; rfl
          refine seq_take (v := ?_) (a' := ?_) (some 51) rfl rfl (by rfl) ?_ ?_ ?_
          rotate_left; rotate_left
          · intro w' hS; go_simp; with_reducible rfl
          · simp only [Act.put, List.setIfInBounds_toArray, List.set_cons_zero, List.set_cons_succ]; rfl
          refine seqN_done ?_
          have r2 := cb hB u2
          have rf := fzb hB (lt_of_cell u2) uf
          have HSK := Lib.hid (show blkB l j x.1 = false by rw [hb0.out]; simp [h0])
          gi_wp2
          exact ⟨keepsO_below hB, hB.mono hVU, ⟨by rw [List.any_append, HP.out]; simp [HSK.out], ⟨cb hB u0, cb hB u1⟩, r2, rf, Nat.le_trans hVU hB.size⟩, hbU.trans (hB.mono hbU.size)⟩
      case done =>
        rintro D xs U hD hxs ⟨⟨hpre, ⟨u0, u1⟩, u2, uf, hVU⟩, hbU⟩ hK
        have HU := H.out.below hbU
        obtain ⟨g1, cap1, he1, -, b0, b1, b2, b3, bf⟩ := item_cells HU j hj
        cases he1
        have d0 := blk_cell HU.box 0
        have HX2 := Lib.hid (show tellR l cov (j : Int) = (0, setSt l j 1) by
          rw [HX.out, if_neg]
          rw [← hxs, List.any_map]
          intro h; rw [show (blkB l j ∘ fun x : Fin j => x.1) = fun x : Fin j => blkB l j x.1 from rfl, hpre] at h; cases h)
        clear b0 b1 b2 hpre hxs
        generalize l[j].st = st at b3
        have hB := Below.refl U.heap.size U
        have hgz : g < w.heap.size := H.out.lt g (.inr rfl)
        have hgn : g ≠ w.heap.size + 1 + 1 := by omega
        go_upto_region 9 with fail
        refine region_seqLN (fun w' => Below U.heap.size U w') 7 [(0, true), (1, true), (2, true), (3, true), (4, true), (5, true), (6, true), (7, false)] (by kernel_rfl) (by kernel_rfl) (by exact hB.drew) ?_
        refine sl_take (v := ?_) (a' := ?_) (some 52) rfl rfl (by rfl) ?_ ?_ ?_
        rotate_left; rotate_left
        · intro w' hS; have q0 := cb hS u0; have q1 := cb hS u1; have q2 := cb hS d0; have q3 := cb hS b3; have q4 := fzb hS (lt_of_cell b3) bf; go_simp; with_reducible rfl
        · simp only [Act.put, List.setIfInBounds_toArray, List.set_cons_zero, List.set_cons_succ]; rfl
        refine sl_take (v := ?_) (a' := ?_) (some 53) rfl rfl (by rfl) ?_ ?_ ?_
        rotate_left; rotate_left
        · intro w' hS; go_simp; with_reducible rfl
        · simp only [Act.put, List.setIfInBounds_toArray, List.set_cons_zero, List.set_cons_succ]; rfl
        refine sl_take (v := ?_) (a' := ?_) (some 54) rfl rfl (by rfl) ?_ ?_ ?_
        rotate_left; rotate_left
        · intro w' hS; go_simp; with_reducible rfl
        · simp only [Act.put, List.setIfInBounds_toArray, List.set_cons_zero, List.set_cons_succ]; rfl
        refine sl_take (v := ?_) (a' := ?_) (some 55) rfl rfl (by rfl) ?_ ?_ ?_
        rotate_left; rotate_left
        · intro w' hS; have q0 := cb hS u0; have q1 := cb hS u1; have q2 := cb hS d0; have q3 := cb hS b3; have q4 := fzb hS (lt_of_cell b3) bf; go_simp; with_reducible rfl
        · simp only [Act.put, List.setIfInBounds_toArray, List.set_cons_zero, List.set_cons_succ]; rfl
        refine sl_take (v := ?_) (a' := ?_) (some 56) rfl rfl (by rfl) ?_ ?_ ?_
        rotate_left; rotate_left
        · intro w' hS; have q0 := cb hS u0; have q1 := cb hS u1; have q2 := cb hS d0; have q3 := cb hS b3; have q4 := fzb hS (lt_of_cell b3) bf; go_simp; with_reducible rfl
        · simp only [Act.put, List.setIfInBounds_toArray, List.set_cons_zero, List.set_cons_succ]; rfl
        refine sl_take (v := ?_) (a' := ?_) (some 57) rfl rfl (by rfl) ?_ ?_ ?_
        rotate_left; rotate_left
        · intro w' hS; go_simp; with_reducible rfl
        · simp only [Act.put, List.setIfInBounds_toArray, List.set_cons_zero, List.set_cons_succ]; rfl
        refine sl_take (v := ?_) (a' := ?_) (some 58) rfl rfl (by rfl) ?_ ?_ ?_
        rotate_left; rotate_left
        · intro w' hS; go_simp; with_reducible rfl
        · simp only [Act.put, List.setIfInBounds_toArray, List.set_cons_zero, List.set_cons_succ]; rfl
        refine sl_last none rfl rfl (by rfl) ?_
        apply Exists.intro; apply And.intro
        · go_simp; first | exact ⟨rfl, rfl⟩ | rfl
        apply Exists.intro; apply And.intro
        · simp only [Act.put, List.setIfInBounds_toArray, List.set_cons_zero, List.set_cons_succ]; rfl
        refine slN_done ?_
        go_wp2
        have hVw : w.heap.size + 3 ≤ V.heap.size := hBz.out
        have F1 := (HU.kept (X := fun _ => False) ((Kept.refl _ U).drew) (fun _ _ q => q)).setSt j 1 hj
        have hD0 : (U.drew.setCell ⟨g, j * 4 + 3, none⟩ (.int .i64 1)).heap[D]? = some (.deferred (some [])) := by rw [Below.heap_setCell _ _ _ _ (by simp; omega)]; exact hK
        have hD1 : ((U.drew.setCell ⟨g, j * 4 + 3, none⟩ (.int .i64 1)).setCell ⟨w.heap.size + 1 + 1, 0, none⟩ (.int .i64 0)).heap[D]? = some (.deferred (some [])) := by rw [Below.heap_setCell _ _ _ _ (by simp; omega)]; exact hD0
        have hc1 : (U.drew.setCell ⟨g, j * 4 + 3, none⟩ (.int .i64 1)).cell? ⟨w.heap.size + 1 + 1, 0, none⟩ = some (.int .i64 0) := by
          rw [World.cell?_setCell_other _ _ _ _ (by simp <;> omega)]; exact u2
        have hc2 : ((U.drew.setCell ⟨g, j * 4 + 3, none⟩ (.int .i64 1)).setCell ⟨w.heap.size + 1 + 1, 0, none⟩ (.int .i64 0)).cell? ⟨w.heap.size + 1 + 1, 0, none⟩ = some (.int .i64 0) := World.cell?_setCell_same' _ _ _ (by rw [hc1]; rfl)
        have hc3 := cell_kept hc2 (grownBy_putObj' _ D (.deferred none)) (fun r e => by cases e; exact ⟨_, hD1, rfl⟩)
        refine ⟨by simp, .inl ⟨_, _, rfl, run_takeDeferred hD1, ?_⟩⟩
        refine ⟨.int .i64 0, by have q := hc3; simp [go_sem] at q; simp [results, Try.results54, go_sem, q], by rw [HX2.out], ?_, ?_⟩
        · rw [HX2.out]
          exact F1.kept (X := fun k => w.heap.size ≤ k) (((Kept.refl _ _).setCell ⟨w.heap.size + 1 + 1, 0, none⟩ _ (.inl (by show w.heap.size ≤ w.heap.size + 1 + 1; omega))).grown (grownBy_putObj' _ D (.deferred none)) (fun k e => by cases e; left; omega)) (fun k hk hq => by have := H.out.lt k hk; omega)
        · exact (((kept_of_below hbU).drew.setCell ⟨g, j * 4 + 3, none⟩ _ (.inl (.inr rfl))).setCell ⟨w.heap.size + 1 + 1, 0, none⟩ _ (.inr (by show w.heap.size ≤ w.heap.size + 1 + 1; omega))).grown (grownBy_putObj' _ D (.deferred none)) (fun k e => by cases e; right; omega)
      case stop =>
        rintro D c pre U hD ⟨k, hk, hs, hpre⟩ ⟨⟨rfl, hpr, hc⟩, hbU⟩ hK
        have HX2 := Lib.hid (show tellR l cov (j : Int) = (7, l) by
          rw [HX.out, if_pos]
          rw [List.any_eq_true] at hpr ⊢
          obtain ⟨x, hx, hb⟩ := hpr
          refine ⟨x.1, openTo_sub (k := k + 1) (by omega) ?_, hb⟩
          rw [← hpre]; exact List.mem_map.2 ⟨x, hx, rfl⟩)
        refine wpIn_wide.2 ?_
        go_wp2
        have hVw : w.heap.size < V.heap.size := by have := hBz.out; omega
        have hc3 := cell_kept hc (grownBy_putObj' _ D (.deferred none)) (fun r e => by cases e; exact ⟨_, hK, rfl⟩)
        refine ⟨by simp, .inl ⟨_, _, rfl, run_takeDeferred hK, ?_⟩⟩
        have hbF := hbU.grown (grownBy_putObj' _ D (.deferred none)) hbU.size (fun k e => by cases e; omega)
        refine ⟨.int .i64 7, by simp [results, Try.results54, go_sem, hc3], by rw [HX2.out], ?_, ?_⟩
        · rw [HX2.out]; exact H.out.below hbF
        · exact kept_of_below hbF
end Go.Proofs.Ytdcceaafiammfaa
