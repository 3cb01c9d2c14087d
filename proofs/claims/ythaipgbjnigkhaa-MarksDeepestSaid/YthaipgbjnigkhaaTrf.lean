import Derived.Test.YthaipgbjnigkhaaTre
namespace Go.Proofs.Ythaipgbjnigkhaa
open Go.RowKit Go.Shelf Go.Maps
set_option linter.unusedVariables false
set_option linter.unusedSimpArgs false
theorem children_calls {tp mb : Nat} {N : Nodes} (w : World) (h : TreeAt w tp mb N) (G : Good11 N) (s : ByteArray) :
    Calls Try.prog 21 #[.pointer (some ⟨tp, 0, none⟩), .string s] w fun e w' => ∃ v, e = .returned v ∧ w'.ownsRow w.heap.size 9 1 v (childN N s).length (strC (childN N s)) ∧ Below w.heap.size w w' := by
  have hmf : ∀ (fn : Fn) (first cap : Array Value) (w : World), (Instr.makeFunc fn first cap).run Try.prog w = .ok (.func fn first cap) w := fun _ _ _ _ => rfl
  have H := Lib.hid h
  clear h
  go_enter Try.func21, Try.ntmps21
  go_upto_region 1 with fail
  first | with_reducible refine name_wp ?_ | with_reducible refine name_calls ?_
  intro W hWeq
  have g0 : W.heap[w.heap.size]? = some (.cells #[.pointer (some ⟨tp, 0, none⟩)] 25) := by rw [hWeq]; repeat (first | (with_reducible exact blk_newAt _ _ (by simp)) | with_reducible refine blk_drew ?_ | with_reducible refine blk_dN ?_ _ | with_reducible refine blk_old ?_ _)
  have g1 : W.heap[w.heap.size + 1]? = some (.cells #[.string s] 9) := by rw [hWeq]; repeat (first | (with_reducible exact blk_newAt _ _ (by simp)) | with_reducible refine blk_drew ?_ | with_reducible refine blk_dN ?_ _ | with_reducible refine blk_old ?_ _)
  have hw : Below w.heap.size w W := by rw [hWeq]; repeat (first | with_reducible exact Below.refl _ _ | with_reducible refine Below.drew ?_ | with_reducible refine bl_dN ?_ _ | with_reducible refine Below.alloc ?_ (by simp <;> omega) _)
  clear hWeq
  have hz : w.heap.size + 2 ≤ W.heap.size := by have := blk_lt g1; omega
  have c0_0 : W.cell? ⟨w.heap.size, 0, none⟩ = some (.pointer (some ⟨tp, 0, none⟩)) := blk_cell g0 0
  have f0 : ∀ j, W.frozen? ⟨w.heap.size, j, none⟩ = false := blk_free g0
  have c1_0 : W.cell? ⟨w.heap.size + 1, 0, none⟩ = some (.string s) := blk_cell g1 0
  have f1 : ∀ j, W.frozen? ⟨w.heap.size + 1, j, none⟩ = false := blk_free g1
  have hB : Below W.heap.size W W := Below.refl _ _
  have G0 := Lib.hid g0; clear g0
  have F0 := Lib.hid f0; clear f0
  have G1 := Lib.hid g1; clear g1
  have F1 := Lib.hid f1; clear f1
  have Hw := Lib.hid hw; clear hw
  have HW := Lib.hid (H.out.below Hw.out)
  go_wp2_with (go_at_call 66; refine (those_child _ HW.out G _ _ s c0_0 c1_0).mono ?_; rintro e w' ⟨v, rfl, hrow, hb⟩)
  go_ret
  refine ⟨v, rfl, ?_, bl_from Hw.out hb⟩
  rw [child_filter N G s] at hrow; exact rw_mono hrow Hw.out.size
theorem below_calls {tp mb : Nat} {N : Nodes} (w : World) (h : TreeAt w tp mb N) (G : Good11 N) (s : ByteArray) :
    Calls Try.prog 23 #[.pointer (some ⟨tp, 0, none⟩), .string s] w fun e w' => ∃ v, e = .returned v ∧ w'.ownsRow w.heap.size 9 1 v (belowN N s).length (strC (belowN N s)) ∧ Below w.heap.size w w' := by
  have hmf : ∀ (fn : Fn) (first cap : Array Value) (w : World), (Instr.makeFunc fn first cap).run Try.prog w = .ok (.func fn first cap) w := fun _ _ _ _ => rfl
  have H := Lib.hid h
  clear h
  go_enter Try.func23, Try.ntmps23
  go_upto_region 1 with fail
  first | with_reducible refine name_wp ?_ | with_reducible refine name_calls ?_
  intro W hWeq
  have g0 : W.heap[w.heap.size]? = some (.cells #[.pointer (some ⟨tp, 0, none⟩)] 25) := by rw [hWeq]; repeat (first | (with_reducible exact blk_newAt _ _ (by simp)) | with_reducible refine blk_drew ?_ | with_reducible refine blk_dN ?_ _ | with_reducible refine blk_old ?_ _)
  have g1 : W.heap[w.heap.size + 1]? = some (.cells #[.string s] 9) := by rw [hWeq]; repeat (first | (with_reducible exact blk_newAt _ _ (by simp)) | with_reducible refine blk_drew ?_ | with_reducible refine blk_dN ?_ _ | with_reducible refine blk_old ?_ _)
  have hw : Below w.heap.size w W := by rw [hWeq]; repeat (first | with_reducible exact Below.refl _ _ | with_reducible refine Below.drew ?_ | with_reducible refine bl_dN ?_ _ | with_reducible refine Below.alloc ?_ (by simp <;> omega) _)
  clear hWeq
  have hz : w.heap.size + 2 ≤ W.heap.size := by have := blk_lt g1; omega
  have c0_0 : W.cell? ⟨w.heap.size, 0, none⟩ = some (.pointer (some ⟨tp, 0, none⟩)) := blk_cell g0 0
  have f0 : ∀ j, W.frozen? ⟨w.heap.size, j, none⟩ = false := blk_free g0
  have c1_0 : W.cell? ⟨w.heap.size + 1, 0, none⟩ = some (.string s) := blk_cell g1 0
  have f1 : ∀ j, W.frozen? ⟨w.heap.size + 1, j, none⟩ = false := blk_free g1
  have hB : Below W.heap.size W W := Below.refl _ _
  have G0 := Lib.hid g0; clear g0
  have F0 := Lib.hid f0; clear f0
  have G1 := Lib.hid g1; clear g1
  have F1 := Lib.hid f1; clear f1
  have Hw := Lib.hid hw; clear hw
  have HW := Lib.hid (H.out.below Hw.out)
  go_wp2_with (go_at_call 66; refine (those_below _ HW.out G _ _ s c0_0 c1_0).mono ?_; rintro e w' ⟨v, rfl, hrow, hb⟩)
  go_ret
  refine ⟨v, rfl, ?_, bl_from Hw.out hb⟩
  exact rw_mono hrow Hw.out.size
theorem those_nil (w : World) (f : Value) : Calls Try.prog 66 #[.pointer none, f] w fun e w' => e = .returned (.slice none 0 0) ∧ Below w.heap.size w w' := by
  have hB := Below.refl w.heap.size w
  go_enter Try.func66, Try.ntmps66
  go_wp2_with (go_at_call 17; refine (all_nil _).mono ?_; rintro e w' ⟨rfl, hb⟩; have hB := bl_next hB hb; clear hb)
  go_loopw [5, 11] (fun s5 i wr => (i = .int .i64 0 ∧ s5 = .slice none 0 0) ∧ Below w.heap.size w wr) (fun _ _ _ => 0)
  case atStart => exact ⟨⟨rfl, rfl⟩, hB⟩
  case round =>
    obtain ⟨⟨rfl, rfl⟩, hB⟩ := hrel
    go_wp2
    go_ret
    exact ⟨rfl, hB⟩
theorem children_nil (w : World) (s : ByteArray) : Calls Try.prog 21 #[.pointer none, .string s] w fun e w' => e = .returned (.slice none 0 0) ∧ Below w.heap.size w w' := by
  have hmf : ∀ (fn : Fn) (first cap : Array Value) (w : World), (Instr.makeFunc fn first cap).run Try.prog w = .ok (.func fn first cap) w := fun _ _ _ _ => rfl
  go_enter Try.func21, Try.ntmps21
  go_upto_region 1 with fail
  first | with_reducible refine name_wp ?_ | with_reducible refine name_calls ?_
  intro W hWeq
  have g0 : W.heap[w.heap.size]? = some (.cells #[.pointer none] 25) := by rw [hWeq]; repeat (first | (with_reducible exact blk_newAt _ _ (by simp)) | with_reducible refine blk_drew ?_ | with_reducible refine blk_dN ?_ _ | with_reducible refine blk_old ?_ _)
  have g1 : W.heap[w.heap.size + 1]? = some (.cells #[.string s] 9) := by rw [hWeq]; repeat (first | (with_reducible exact blk_newAt _ _ (by simp)) | with_reducible refine blk_drew ?_ | with_reducible refine blk_dN ?_ _ | with_reducible refine blk_old ?_ _)
  have hw : Below w.heap.size w W := by rw [hWeq]; repeat (first | with_reducible exact Below.refl _ _ | with_reducible refine Below.drew ?_ | with_reducible refine bl_dN ?_ _ | with_reducible refine Below.alloc ?_ (by simp <;> omega) _)
  clear hWeq
  have hz : w.heap.size + 2 ≤ W.heap.size := by have := blk_lt g1; omega
  have c0_0 : W.cell? ⟨w.heap.size, 0, none⟩ = some (.pointer none) := blk_cell g0 0
  have f0 : ∀ j, W.frozen? ⟨w.heap.size, j, none⟩ = false := blk_free g0
  have c1_0 : W.cell? ⟨w.heap.size + 1, 0, none⟩ = some (.string s) := blk_cell g1 0
  have f1 : ∀ j, W.frozen? ⟨w.heap.size + 1, j, none⟩ = false := blk_free g1
  have hB : Below W.heap.size W W := Below.refl _ _
  have G0 := Lib.hid g0; clear g0
  have F0 := Lib.hid f0; clear f0
  have G1 := Lib.hid g1; clear g1
  have F1 := Lib.hid f1; clear f1
  have Hw := Lib.hid hw; clear hw
  go_wp2_with (go_at_call 66; refine (those_nil _ _).mono ?_; rintro e w' ⟨rfl, hb⟩)
  go_ret
  exact ⟨rfl, bl_from Hw.out hb⟩
theorem below_nil (w : World) (s : ByteArray) : Calls Try.prog 23 #[.pointer none, .string s] w fun e w' => e = .returned (.slice none 0 0) ∧ Below w.heap.size w w' := by
  have hmf : ∀ (fn : Fn) (first cap : Array Value) (w : World), (Instr.makeFunc fn first cap).run Try.prog w = .ok (.func fn first cap) w := fun _ _ _ _ => rfl
  go_enter Try.func23, Try.ntmps23
  go_upto_region 1 with fail
  first | with_reducible refine name_wp ?_ | with_reducible refine name_calls ?_
  intro W hWeq
  have g0 : W.heap[w.heap.size]? = some (.cells #[.pointer none] 25) := by rw [hWeq]; repeat (first | (with_reducible exact blk_newAt _ _ (by simp)) | with_reducible refine blk_drew ?_ | with_reducible refine blk_dN ?_ _ | with_reducible refine blk_old ?_ _)
  have g1 : W.heap[w.heap.size + 1]? = some (.cells #[.string s] 9) := by rw [hWeq]; repeat (first | (with_reducible exact blk_newAt _ _ (by simp)) | with_reducible refine blk_drew ?_ | with_reducible refine blk_dN ?_ _ | with_reducible refine blk_old ?_ _)
  have hw : Below w.heap.size w W := by rw [hWeq]; repeat (first | with_reducible exact Below.refl _ _ | with_reducible refine Below.drew ?_ | with_reducible refine bl_dN ?_ _ | with_reducible refine Below.alloc ?_ (by simp <;> omega) _)
  clear hWeq
  have hz : w.heap.size + 2 ≤ W.heap.size := by have := blk_lt g1; omega
  have c0_0 : W.cell? ⟨w.heap.size, 0, none⟩ = some (.pointer none) := blk_cell g0 0
  have f0 : ∀ j, W.frozen? ⟨w.heap.size, j, none⟩ = false := blk_free g0
  have c1_0 : W.cell? ⟨w.heap.size + 1, 0, none⟩ = some (.string s) := blk_cell g1 0
  have f1 : ∀ j, W.frozen? ⟨w.heap.size + 1, j, none⟩ = false := blk_free g1
  have hB : Below W.heap.size W W := Below.refl _ _
  have G0 := Lib.hid g0; clear g0
  have F0 := Lib.hid f0; clear f0
  have G1 := Lib.hid g1; clear g1
  have F1 := Lib.hid f1; clear f1
  have Hw := Lib.hid hw; clear hw
  go_wp2_with (go_at_call 66; refine (those_nil _ _).mono ?_; rintro e w' ⟨rfl, hb⟩)
  go_ret
  exact ⟨rfl, bl_from Hw.out hb⟩
theorem idx_of (l : List ByteArray) (s : ByteArray) (h : s ∈ l) : Lib.idxOfS l s = (l.findIdx (fun y => decide (y = s)) : Nat) := by
  have hlt := List.findIdx_lt_length_of_exists (xs := l) (p := fun y => decide (y = s)) ⟨s, h, by simp⟩
  have e := Lib.idxFromS_hit s l (l.findIdx (fun y => decide (y = s))) 0 hlt (by
    have h1 := List.findIdx_getElem (xs := l) (p := fun y => decide (y = s)) (w := hlt)
    rw [List.getD_eq_getElem?_getD, List.getElem?_eq_getElem hlt]
    exact of_decide_eq_true h1) (fun j hj => by
    have h1 := List.not_of_lt_findIdx hj
    have hj2 : j < l.length := by omega
    rw [List.getD_eq_getElem?_getD, List.getElem?_eq_getElem hj2]
    simpa using h1)
  unfold Lib.idxOfS
  rw [e, Nat.zero_add]
theorem index_calls (w : World) {b : Nat} {v : Value} {l : List ByteArray} (h : w.ownsRow b 9 1 v l.length (strC l)) (s : ByteArray) (hl : l.length ≤ 1000000) (hs : s ∈ l) :
    Calls Try.prog 93 #[v, .string s] w fun e w' => e = .returned (.int .i64 (l.findIdx (fun y => decide (y = s)) : Nat)) ∧ Below w.heap.size w w' := by
  have h0 : 0 < l.length := List.length_pos_of_mem hs
  obtain ⟨g, cap, rfl⟩ := rw_pos h h0
  refine (Try.slices_Index_string g 0 l.length cap l s w (Nat.le_refl _) (by omega) (fun j hj => ?_)).mono ?_
  · rw [Nat.zero_add, (rw_cells h).2.2.1 j (by omega), strC_getD hj, List.getD_eq_getElem?_getD, List.getElem?_eq_getElem hj]; rfl
  · rintro e w' ⟨rfl, rfl⟩
    exact ⟨by rw [List.take_length, idx_of l s hs], Below.refl _ _⟩
def depTo (N : Nodes) (s : ByteArray) (k : Nat) : Nat := ((belowN N s).take k).foldl (fun n x => max n ((pathT N x).findIdx (fun y => decide (y = s)) + 1)) 0
theorem depTo_succ (N : Nodes) (s : ByteArray) (k : Nat) (h : k < (belowN N s).length) : depTo N s (k + 1) = max (depTo N s k) ((pathT N ((belowN N s)[k]'h)).findIdx (fun y => decide (y = s)) + 1) := by
  unfold depTo
  rw [List.take_succ_eq_append_getElem h, List.foldl_append]; rfl
theorem depTo_all (N : Nodes) (s : ByteArray) : depTo N s (belowN N s).length = deepN N s := by unfold depTo deepN; rw [List.take_length]
theorem depTo_le {N : Nodes} (G : Good11 N) (s : ByteArray) (k : Nat) : depTo N s k ≤ 8 := by
  obtain ⟨_, _, h3⟩ := fold_max (fun x => (pathT N x).findIdx (fun y => decide (y = s)) + 1) ((belowN N s).take k) 0
  unfold depTo
  rcases h3 with h3 | ⟨x, hx, h3⟩
  · rw [h3]; omega
  · rw [h3]
    have hm := (mem_below.1 (List.mem_of_mem_take hx)).2
    have := List.findIdx_lt_length_of_exists (xs := pathT N x) (p := fun y => decide (y = s)) ⟨s, hm, by simp⟩
    have := G.deep x
    omega
theorem deepN_le {N : Nodes} (G : Good11 N) (s : ByteArray) : deepN N s ≤ 8 := by rw [← depTo_all]; exact depTo_le G s _
set_option maxHeartbeats 4000000 in
theorem deep_calls {tp mb : Nat} {N : Nodes} (w : World) (h : TreeAt w tp mb N) (G : Good11 N) (s : ByteArray) :
    Calls Try.prog 88 #[.pointer (some ⟨tp, 0, none⟩), .string s] w fun e w' => e = .returned (.int .i64 (deepN N s)) ∧ Below w.heap.size w w' := by
  have hB := Below.refl w.heap.size w
  have H := Lib.hid h
  clear h
  have hlen : (belowN N s).length ≤ 200 := Nat.le_trans (List.length_filter_le _ _) (by unfold allN; rw [List.length_map]; exact G.few)
  go_enter Try.func88, Try.ntmps88
  go_wp2_with (go_at_call 23; refine (below_calls _ (H.out.below hB) G s).mono ?_; rintro e w' ⟨va, rfl, hrow, hb⟩; obtain ⟨aa, ca, rfl⟩ := rw_form hrow; have HA := Lib.hid hrow; have hB := bl_next hB hb; clear hrow hb)
  obtain ⟨V, rfl⟩ : ∃ V : World, V = w' := ⟨_, rfl⟩
  have hB0 := Lib.hid hB
  go_loopw [5, 12] (fun s5 i wr => ∃ k : Nat, (i = .int .i64 k ∧ s5 = .int .i64 (depTo N s k)) ∧ k ≤ (belowN N s).length ∧ Below V.heap.size V wr) (fun _ i _ => (belowN N s).length - (intOf i).toNat)
  case atStart => exact ⟨0, ⟨rfl, rfl⟩, Nat.zero_le _, Below.refl _ _⟩
  case round =>
    obtain ⟨k, ⟨rfl, rfl⟩, hk, hBr⟩ := hrel
    have HBR := Lib.hid hBr
    clear hB hBr
    by_cases hkl : k < (belowN N s).length
    · have hkI : (k : Int) < (belowN N s).length := by omega
      obtain ⟨ga, ca', hga⟩ := rw_pos HA.out (by omega)
      cases hga
      have HD := Lib.hid (depTo_succ N s k hkl)
      obtain ⟨x, hx⟩ : ∃ x, (belowN N s)[k]'hkl = x := ⟨_, rfl⟩
      have hcx := cb HBR.out (((rw_cells HA.out).2.2.1 k (by omega)).trans (congrArg some (strC_getD hkl)))
      rw [hx] at hcx HD
      obtain ⟨hxa, hxm⟩ := mem_below.1 (hx ▸ List.getElem_mem hkl)
      have hxs : x.size ≤ 100 := all_size G hxa
      have HXM := Lib.hid hxm
      have h8 : (pathT N x).length ≤ 1000000 := by have := G.deep x; omega
      have H8 := Lib.hid h8
      have HW := Lib.hid (H.out.below (bl_from hB0.out HBR.out))
      have hd1 := depTo_le G s k
      have hd2 := depTo_le G s (k + 1)
      rw [HD.out] at hd2
      obtain ⟨d, hd⟩ : ∃ d, depTo N s k = d := ⟨_, rfl⟩
      obtain ⟨m, hm⟩ : ∃ m, (pathT N x).findIdx (fun y => decide (y = s)) = m := ⟨_, rfl⟩
      rw [hd] at HD hd1 hd2
      rw [hm] at HD hd2
      have HM := Lib.hid hm
      rw [hd]
      clear hd hx hxa hxm h8 hm
      have hdm : 0 ≤ (d : Int) ∧ 0 ≤ (m : Int) := by omega
      have hmax : max (d : Int) ((m : Int) + 1) = ((max d (m + 1) : Nat) : Int) := by omega
      have HMX := Lib.hid hmax
      clear hmax
      go_wp2_with (first | (go_at_call 19; refine (path_calls _ HW.out G x (by omega)).mono ?_; rintro e w' ⟨v, rfl, hrow, hb⟩; have HR := Lib.hid hrow; have HB2 := Lib.hid (bl_next HBR.out hb); clear hrow hb) | (go_at_call 93; refine (index_calls _ HR.out s H8.out HXM.out).mono ?_; rintro e w' ⟨rfl, hb⟩; rw [HM.out]; have HB3 := Lib.hid (bl_next HB2.out hb); clear hb))
      exact ⟨⟨k + 1, ⟨by simp, by rw [HD.out, HMX.out]⟩, by omega, HB3.out⟩, by simp [intOf]; omega⟩
    · obtain rfl : k = (belowN N s).length := by omega
      rw [depTo_all]
      go_wp2
      go_ret
      exact ⟨rfl, bl_from hB0.out HBR.out⟩
end Go.Proofs.Ythaipgbjnigkhaa
