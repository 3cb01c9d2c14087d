import Derived.Test.YthhfcambdmdgfaaKev
namespace Go.Proofs.Ythhfcambdmdgfaa
open Go.RowKit Go.Maps
set_option linter.unusedVariables false
set_option linter.unusedSimpArgs false
def aO7 : ObjD := ⟨⟨⟨#[112, 111, 100]⟩, ⟨#[97]⟩, ⟨#[120]⟩⟩, 3, ⟨#[]⟩, false, false, []⟩
def bO7 : ObjD := ⟨⟨⟨#[112, 111, 100]⟩, ⟨#[97]⟩, ⟨#[98]⟩⟩, 4, ⟨#[]⟩, false, false, []⟩
def xsE : List OX := [(aO7, .slice none 0 0), (bO7, .slice none 0 0)]
theorem small7 : OSmall [aO7, bO7] := by
  intro o ho
  rcases List.mem_cons.1 ho with rfl | ho
  · exact ⟨⟨by decide, by decide, by decide⟩, by decide, by decide, by rintro p ⟨⟩⟩
  · obtain rfl := List.mem_singleton.1 ho; exact ⟨⟨by decide, by decide, by decide⟩, by decide, by decide, by rintro p ⟨⟩⟩
theorem small7' : OSmall [bO7, aO7] := fun o ho => small7 o (by
  rcases List.mem_cons.1 ho with rfl | ho
  · exact List.mem_cons_of_mem _ List.mem_cons_self
  · obtain rfl := List.mem_singleton.1 ho; exact List.mem_cons_self)
theorem in7 : ∀ o ∈ [aO7, bO7], oIn o := by
  intro o ho
  rcases List.mem_cons.1 ho with rfl | ho
  · exact ⟨⟨by decide, by decide⟩, by rintro p ⟨⟩⟩
  · obtain rfl := List.mem_singleton.1 ho; exact ⟨⟨by decide, by decide⟩, by rintro p ⟨⟩⟩
theorem aO7_S (w : World) : ObjS w (.slice none 0 0) aO7 := ⟨⟨sliS_nil w 2, by rintro p ⟨⟩⟩, by decide, by decide⟩
theorem bO7_S (w : World) : ObjS w (.slice none 0 0) bO7 := ⟨⟨sliS_nil w 2, by rintro p ⟨⟩⟩, by decide, by decide⟩
theorem sort7 : srtX kTO [aO7, bO7] = [bO7, aO7] := by kernel_rfl
theorem v7f : verE ⟨2, zeroO, 4, [bO7, aO7]⟩ = (4, 0) := by kernel_rfl
theorem v7e : verE ⟨2, zeroO, 4, [aO7, bO7]⟩ = (0, 1) := by kernel_rfl
theorem v7a : verE ⟨0, aO7, 9, []⟩ = (3, 0) := by kernel_rfl
theorem r7f : rightE ⟨2, zeroO, 4, [bO7, aO7]⟩ = true := by kernel_rfl
theorem r7e : rightE ⟨2, zeroO, 4, [aO7, bO7]⟩ = false := by kernel_rfl
theorem r7k : rightE ⟨4, zeroO, 0, []⟩ = false := by kernel_rfl
theorem s7 : sameE ⟨2, zeroO, 4, [aO7, bO7]⟩ ⟨2, zeroO, 4, [bO7, aO7]⟩ = false := by kernel_rfl
theorem objsS_nil (w : World) : ObjsS w (.slice none 0 0) [] := ⟨sliS_nil w 8, by rintro p ⟨⟩⟩
theorem len2 {α : Type} : ∀ {l : List α}, l.length = 2 → ∃ a b, l = [a, b]
  | [a, b], _ => ⟨a, b, rfl⟩
theorem sorted7 {w w' : World} {e : Ending} (h : SortO w [aO7, bO7] e w') : ∃ g c s1 s2, e = .returned (.slice (some ⟨g, 0, none⟩) 2 c) ∧ Hid (ObjsS w' (.slice (some ⟨g, 0, none⟩) 2 c) [(bO7, s1), (aO7, s2)]) ∧ Below w.heap.size w w' := by
  obtain ⟨v, zs, rfl, hf, hz, hb⟩ := h
  rw [sort7] at hz
  have hi : ∀ p ∈ zs, oIn p.1 := fun p hp => in7 _ (by
    have : p.1 ∈ oxs zs := List.mem_map.2 ⟨p, hp, rfl⟩
    rw [hz] at this
    rcases List.mem_cons.1 this with e | e
    · rw [e]; exact List.mem_cons_of_mem _ List.mem_cons_self
    · rw [List.mem_singleton.1 e]; exact List.mem_cons_self)
  have hs := hf.objsS hi
  obtain ⟨p, q, rfl⟩ : ∃ p q, zs = [p, q] := len2 (by rw [← oxs_len, hz]; rfl)
  obtain ⟨g, c, rfl⟩ := rw_pos hf.1 (by simp)
  obtain ⟨p1, p2⟩ := p
  obtain ⟨q1, q2⟩ := q
  have e1 : p1 = bO7 := (List.cons.inj hz).1
  have e2 : q1 = aO7 := (List.cons.inj (List.cons.inj hz).2).1
  subst e1; subst e2
  exact ⟨g, c, p2, q2, rfl, Lib.hid hs, hb⟩
set_option maxRecDepth 100000 in
set_option maxHeartbeats 4000000 in
theorem alive7_calls (w : World) : Calls Try.prog 13 #[] w fun e w' => e = .returned (.bool true) ∧ Below w.heap.size w w' := by
  go_enter Try.func13, Try.ntmps13
  go_upto_region 4 with fail
  first | with_reducible refine name_wp ?_ | with_reducible refine name_calls ?_
  intro W hWeq
  have g0 : W.heap[w.heap.size]? = some (.cells #[.string ⟨#[112, 111, 100]⟩, .string ⟨#[97]⟩, .string ⟨#[120]⟩, .int .i64 3, .string ⟨#[]⟩, .bool false, .bool false, .slice none 0 0] 27) := by rw [hWeq]; repeat (first | (with_reducible exact blk_newAt _ _ (by simp)) | with_reducible refine blk_drew ?_ | with_reducible refine blk_dN ?_ _ | with_reducible refine blk_old ?_ _)
  have g1 : W.heap[w.heap.size + 1]? = some (.cells #[.string ⟨#[112, 111, 100]⟩, .string ⟨#[97]⟩, .string ⟨#[98]⟩, .int .i64 4, .string ⟨#[]⟩, .bool false, .bool false, .slice none 0 0] 27) := by rw [hWeq]; repeat (first | (with_reducible exact blk_newAt _ _ (by simp)) | with_reducible refine blk_drew ?_ | with_reducible refine blk_dN ?_ _ | with_reducible refine blk_old ?_ _)
  have g2 : W.heap[w.heap.size + 2]? = some (.cells #[.string ⟨#[112, 111, 100]⟩, .string ⟨#[97]⟩, .string ⟨#[120]⟩, .int .i64 3, .string ⟨#[]⟩, .bool false, .bool false, .slice none 0 0, .string ⟨#[112, 111, 100]⟩, .string ⟨#[97]⟩, .string ⟨#[98]⟩, .int .i64 4, .string ⟨#[]⟩, .bool false, .bool false, .slice none 0 0] 27) := by rw [hWeq]; repeat (first | (with_reducible exact blk_newAt _ _ (by simp)) | with_reducible refine blk_drew ?_ | with_reducible refine blk_dN ?_ _ | with_reducible refine blk_old ?_ _)
  have g3 : W.heap[w.heap.size + 3]? = some (.cells #[.int .i64 2, .string ⟨#[]⟩, .string ⟨#[]⟩, .string ⟨#[]⟩, .int .i64 0, .string ⟨#[]⟩, .bool false, .bool false, .slice none 0 0, .int .i64 4, .slice (some ⟨w.heap.size + 2, 0, none⟩) 2 2] 30) := by rw [hWeq]; repeat (first | (with_reducible exact blk_newAt _ _ (by simp)) | with_reducible refine blk_drew ?_ | with_reducible refine blk_dN ?_ _ | with_reducible refine blk_old ?_ _)
  have hw : Below w.heap.size w W := by rw [hWeq]; repeat (first | with_reducible exact Below.refl _ _ | with_reducible refine Below.drew ?_ | with_reducible refine bl_dN ?_ _ | with_reducible refine Below.alloc ?_ (by simp <;> omega) _)
  clear hWeq
  have hz : w.heap.size + 4 ≤ W.heap.size := by have := blk_lt g3; omega
  have c0_0 : W.cell? ⟨w.heap.size, 0, none⟩ = some (.string ⟨#[112, 111, 100]⟩) := blk_cell g0 0
  have c0_1 : W.cell? ⟨w.heap.size, 1, none⟩ = some (.string ⟨#[97]⟩) := blk_cell g0 1
  have c0_2 : W.cell? ⟨w.heap.size, 2, none⟩ = some (.string ⟨#[120]⟩) := blk_cell g0 2
  have c0_3 : W.cell? ⟨w.heap.size, 3, none⟩ = some (.int .i64 3) := blk_cell g0 3
  have c0_4 : W.cell? ⟨w.heap.size, 4, none⟩ = some (.string ⟨#[]⟩) := blk_cell g0 4
  have c0_5 : W.cell? ⟨w.heap.size, 5, none⟩ = some (.bool false) := blk_cell g0 5
  have c0_6 : W.cell? ⟨w.heap.size, 6, none⟩ = some (.bool false) := blk_cell g0 6
  have c0_7 : W.cell? ⟨w.heap.size, 7, none⟩ = some (.slice none 0 0) := blk_cell g0 7
  have f0 : ∀ j, W.frozen? ⟨w.heap.size, j, none⟩ = false := blk_free g0
  have c1_0 : W.cell? ⟨w.heap.size + 1, 0, none⟩ = some (.string ⟨#[112, 111, 100]⟩) := blk_cell g1 0
  have c1_1 : W.cell? ⟨w.heap.size + 1, 1, none⟩ = some (.string ⟨#[97]⟩) := blk_cell g1 1
  have c1_2 : W.cell? ⟨w.heap.size + 1, 2, none⟩ = some (.string ⟨#[98]⟩) := blk_cell g1 2
  have c1_3 : W.cell? ⟨w.heap.size + 1, 3, none⟩ = some (.int .i64 4) := blk_cell g1 3
  have c1_4 : W.cell? ⟨w.heap.size + 1, 4, none⟩ = some (.string ⟨#[]⟩) := blk_cell g1 4
  have c1_5 : W.cell? ⟨w.heap.size + 1, 5, none⟩ = some (.bool false) := blk_cell g1 5
  have c1_6 : W.cell? ⟨w.heap.size + 1, 6, none⟩ = some (.bool false) := blk_cell g1 6
  have c1_7 : W.cell? ⟨w.heap.size + 1, 7, none⟩ = some (.slice none 0 0) := blk_cell g1 7
  have f1 : ∀ j, W.frozen? ⟨w.heap.size + 1, j, none⟩ = false := blk_free g1
  have c2_0 : W.cell? ⟨w.heap.size + 2, 0, none⟩ = some (.string ⟨#[112, 111, 100]⟩) := blk_cell g2 0
  have c2_1 : W.cell? ⟨w.heap.size + 2, 1, none⟩ = some (.string ⟨#[97]⟩) := blk_cell g2 1
  have c2_2 : W.cell? ⟨w.heap.size + 2, 2, none⟩ = some (.string ⟨#[120]⟩) := blk_cell g2 2
  have c2_3 : W.cell? ⟨w.heap.size + 2, 3, none⟩ = some (.int .i64 3) := blk_cell g2 3
  have c2_4 : W.cell? ⟨w.heap.size + 2, 4, none⟩ = some (.string ⟨#[]⟩) := blk_cell g2 4
  have c2_5 : W.cell? ⟨w.heap.size + 2, 5, none⟩ = some (.bool false) := blk_cell g2 5
  have c2_6 : W.cell? ⟨w.heap.size + 2, 6, none⟩ = some (.bool false) := blk_cell g2 6
  have c2_7 : W.cell? ⟨w.heap.size + 2, 7, none⟩ = some (.slice none 0 0) := blk_cell g2 7
  have c2_8 : W.cell? ⟨w.heap.size + 2, 8, none⟩ = some (.string ⟨#[112, 111, 100]⟩) := blk_cell g2 8
  have c2_9 : W.cell? ⟨w.heap.size + 2, 9, none⟩ = some (.string ⟨#[97]⟩) := blk_cell g2 9
  have c2_10 : W.cell? ⟨w.heap.size + 2, 10, none⟩ = some (.string ⟨#[98]⟩) := blk_cell g2 10
  have c2_11 : W.cell? ⟨w.heap.size + 2, 11, none⟩ = some (.int .i64 4) := blk_cell g2 11
  have c2_12 : W.cell? ⟨w.heap.size + 2, 12, none⟩ = some (.string ⟨#[]⟩) := blk_cell g2 12
  have c2_13 : W.cell? ⟨w.heap.size + 2, 13, none⟩ = some (.bool false) := blk_cell g2 13
  have c2_14 : W.cell? ⟨w.heap.size + 2, 14, none⟩ = some (.bool false) := blk_cell g2 14
  have c2_15 : W.cell? ⟨w.heap.size + 2, 15, none⟩ = some (.slice none 0 0) := blk_cell g2 15
  have f2 : ∀ j, W.frozen? ⟨w.heap.size + 2, j, none⟩ = false := blk_free g2
  have c3_0 : W.cell? ⟨w.heap.size + 3, 0, none⟩ = some (.int .i64 2) := blk_cell g3 0
  have c3_1 : W.cell? ⟨w.heap.size + 3, 1, none⟩ = some (.string ⟨#[]⟩) := blk_cell g3 1
  have c3_2 : W.cell? ⟨w.heap.size + 3, 2, none⟩ = some (.string ⟨#[]⟩) := blk_cell g3 2
  have c3_3 : W.cell? ⟨w.heap.size + 3, 3, none⟩ = some (.string ⟨#[]⟩) := blk_cell g3 3
  have c3_4 : W.cell? ⟨w.heap.size + 3, 4, none⟩ = some (.int .i64 0) := blk_cell g3 4
  have c3_5 : W.cell? ⟨w.heap.size + 3, 5, none⟩ = some (.string ⟨#[]⟩) := blk_cell g3 5
  have c3_6 : W.cell? ⟨w.heap.size + 3, 6, none⟩ = some (.bool false) := blk_cell g3 6
  have c3_7 : W.cell? ⟨w.heap.size + 3, 7, none⟩ = some (.bool false) := blk_cell g3 7
  have c3_8 : W.cell? ⟨w.heap.size + 3, 8, none⟩ = some (.slice none 0 0) := blk_cell g3 8
  have c3_9 : W.cell? ⟨w.heap.size + 3, 9, none⟩ = some (.int .i64 4) := blk_cell g3 9
  have c3_10 : W.cell? ⟨w.heap.size + 3, 10, none⟩ = some (.slice (some ⟨w.heap.size + 2, 0, none⟩) 2 2) := blk_cell g3 10
  have f3 : ∀ j, W.frozen? ⟨w.heap.size + 3, j, none⟩ = false := blk_free g3
  have hB : Below W.heap.size W W := Below.refl _ _
  have G0 := Lib.hid g0; clear g0
  have F0 := Lib.hid f0; clear f0
  have G1 := Lib.hid g1; clear g1
  have F1 := Lib.hid f1; clear f1
  have G2 := Lib.hid g2; clear g2
  have F2 := Lib.hid f2; clear f2
  have G3 := Lib.hid g3; clear g3
  have F3 := Lib.hid f3; clear f3
  have Hw := Lib.hid hw; clear hw
  have HXE : Hid (ObjsS W (.slice (some ⟨w.heap.size + 2, 0, none⟩) 2 2) xsE) := Lib.hid ⟨sliS_lit (cs := objC xsE) (n := 2) G2.out rfl, fun p hp => by
    rcases List.mem_cons.1 hp with rfl | hp
    · exact aO7_S W
    · obtain rfl := List.mem_singleton.1 hp; exact bO7_S W⟩
  have HS0 : Hid (Calls Try.prog 19 #[.slice (some ⟨w.heap.size + 2, 0, none⟩) 2 2] W (SortO W [aO7, bO7])) := Lib.hid (evsorted_calls W HXE.out small7 (by decide))
  have Hw0 := Hw
  go_upto_region 7 with (go_at_call 19; refine HS0.out.mono ?_; intro e w1 hso; obtain ⟨g, c, s1, s2, rfl, HL, hb⟩ := sorted7 hso; clear hso; have c0_0 := cb hb c0_0; have c0_1 := cb hb c0_1; have c0_2 := cb hb c0_2; have c0_3 := cb hb c0_3; have c0_4 := cb hb c0_4; have c0_5 := cb hb c0_5; have c0_6 := cb hb c0_6; have c0_7 := cb hb c0_7; have c1_0 := cb hb c1_0; have c1_1 := cb hb c1_1; have c1_2 := cb hb c1_2; have c1_3 := cb hb c1_3; have c1_4 := cb hb c1_4; have c1_5 := cb hb c1_5; have c1_6 := cb hb c1_6; have c1_7 := cb hb c1_7; have c3_0 := cb hb c3_0; have c3_1 := cb hb c3_1; have c3_2 := cb hb c3_2; have c3_3 := cb hb c3_3; have c3_4 := cb hb c3_4; have c3_5 := cb hb c3_5; have c3_6 := cb hb c3_6; have c3_7 := cb hb c3_7; have c3_8 := cb hb c3_8; have c3_9 := cb hb c3_9; have c3_10 := cb hb c3_10; have HB1 := Lib.hid (bl_next hB hb); clear hb hB)
  obtain ⟨W1, rfl⟩ : ∃ U : World, U = w1 := ⟨_, rfl⟩
  go_upto_region 8 with fail
  first | with_reducible refine name_wp ?_ | with_reducible refine name_calls ?_
  intro X hX
  have gX0 : X.heap[W1.heap.size]? = some (.cells #[.int .i64 2, .string ⟨#[]⟩, .string ⟨#[]⟩, .string ⟨#[]⟩, .int .i64 0, .string ⟨#[]⟩, .bool false, .bool false, .slice none 0 0, .int .i64 4, .slice (some ⟨w.heap.size + 2, 0, none⟩) 2 2] 30) := by rw [hX]; exact blk_new W1 _
  have hX9 : Below W1.heap.size W1 X := by rw [hX]; exact (Below.refl _ _).alloc (Nat.le_refl _) _
  clear hX
  have m10 : X.cell? ⟨W1.heap.size, 10, none⟩ = some (.slice (some ⟨w.heap.size + 2, 0, none⟩) 2 2) := blk_cell gX0 10
  have mf := blk_free gX0 10
  go_upto_region 9 with fail
  first | with_reducible refine name_wp ?_ | with_reducible refine name_calls ?_
  intro V hV
  have gV : V.heap[W1.heap.size]? = some (.cells #[.int .i64 2, .string ⟨#[]⟩, .string ⟨#[]⟩, .string ⟨#[]⟩, .int .i64 0, .string ⟨#[]⟩, .bool false, .bool false, .slice none 0 0, .int .i64 4, .slice (some ⟨g, 0, none⟩) 2 c] 30) := by rw [hV]; exact heap_setCell_same _ _ 10 _ _ _ gX0
  have hV9 : Below W1.heap.size W1 V := by rw [hV]; exact hX9.setCell (Nat.le_refl _) _
  clear hV hX9 gX0 m10 mf
  have HBV := Lib.hid (Hw0.out.trans ((bl_next HB1.out hV9).mono Hw0.out.size))
  have d0 : V.cell? ⟨W1.heap.size, 0, none⟩ = some (.int .i64 2) := blk_cell gV 0; have d1 : V.cell? ⟨W1.heap.size, 1, none⟩ = some (.string ⟨#[]⟩) := blk_cell gV 1; have d2 : V.cell? ⟨W1.heap.size, 2, none⟩ = some (.string ⟨#[]⟩) := blk_cell gV 2; have d3 : V.cell? ⟨W1.heap.size, 3, none⟩ = some (.string ⟨#[]⟩) := blk_cell gV 3; have d4 : V.cell? ⟨W1.heap.size, 4, none⟩ = some (.int .i64 0) := blk_cell gV 4; have d5 : V.cell? ⟨W1.heap.size, 5, none⟩ = some (.string ⟨#[]⟩) := blk_cell gV 5; have d6 : V.cell? ⟨W1.heap.size, 6, none⟩ = some (.bool false) := blk_cell gV 6; have d7 : V.cell? ⟨W1.heap.size, 7, none⟩ = some (.bool false) := blk_cell gV 7; have d8 : V.cell? ⟨W1.heap.size, 8, none⟩ = some (.slice none 0 0) := blk_cell gV 8; have d9 : V.cell? ⟨W1.heap.size, 9, none⟩ = some (.int .i64 4) := blk_cell gV 9; have d10 : V.cell? ⟨W1.heap.size, 10, none⟩ = some (.slice (some ⟨g, 0, none⟩) 2 c) := blk_cell gV 10
  have c0_0 := cb hV9 c0_0; have c0_1 := cb hV9 c0_1; have c0_2 := cb hV9 c0_2; have c0_3 := cb hV9 c0_3; have c0_4 := cb hV9 c0_4; have c0_5 := cb hV9 c0_5; have c0_6 := cb hV9 c0_6; have c0_7 := cb hV9 c0_7; have c1_0 := cb hV9 c1_0; have c1_1 := cb hV9 c1_1; have c1_2 := cb hV9 c1_2; have c1_3 := cb hV9 c1_3; have c1_4 := cb hV9 c1_4; have c1_5 := cb hV9 c1_5; have c1_6 := cb hV9 c1_6; have c1_7 := cb hV9 c1_7; have c3_0 := cb hV9 c3_0; have c3_1 := cb hV9 c3_1; have c3_2 := cb hV9 c3_2; have c3_3 := cb hV9 c3_3; have c3_4 := cb hV9 c3_4; have c3_5 := cb hV9 c3_5; have c3_6 := cb hV9 c3_6; have c3_7 := cb hV9 c3_7; have c3_8 := cb hV9 c3_8; have c3_9 := cb hV9 c3_9; have c3_10 := cb hV9 c3_10
  have HLV := Lib.hid (HL.out.below hV9)
  have HEV := Lib.hid (HXE.out.below (bl_next HB1.out hV9))
  obtain ⟨bq, oq, cq, eq, hat, _⟩ := HLV.out.at' (show 0 < 2 by omega)
  cases eq
  have n2 : V.cell? ⟨g, 2, none⟩ = some (.string ⟨#[98]⟩) := hat.c2
  clear hat hV9
  have hB := Below.refl V.heap.size V
  have HV1 : Hid (∀ U, Below V.heap.size V U → Calls Try.prog 14 #[.agg #[.int .i64 2, .string ⟨#[]⟩, .string ⟨#[]⟩, .string ⟨#[]⟩, .int .i64 0, .string ⟨#[]⟩, .bool false, .bool false, .slice none 0 0, .int .i64 4, .slice (some ⟨g, 0, none⟩) 2 c]] U fun e w' => e = .returned (.tuple #[.int .i64 4, .int .i64 0]) ∧ Below U.heap.size U w') := Lib.hid fun U h => (evver_calls U 2 4 (zeroO_S U) zeroO_small (HLV.out.below h) small7' (by unfold in64; omega) (by simp)).mono fun e w' q => ⟨q.1.trans (ret_ver (congrArg Prod.fst v7f) (congrArg Prod.snd v7f)), q.2⟩
  have HV2 : Hid (∀ U, Below V.heap.size V U → Calls Try.prog 14 #[.agg #[.int .i64 2, .string ⟨#[]⟩, .string ⟨#[]⟩, .string ⟨#[]⟩, .int .i64 0, .string ⟨#[]⟩, .bool false, .bool false, .slice none 0 0, .int .i64 4, .slice (some ⟨w.heap.size + 2, 0, none⟩) 2 2]] U fun e w' => e = .returned (.tuple #[.int .i64 0, .int .i64 1]) ∧ Below U.heap.size U w') := Lib.hid fun U h => (evver_calls U 2 4 (zeroO_S U) zeroO_small (HEV.out.below h) small7 (by unfold in64; omega) (by decide)).mono fun e w' q => ⟨q.1.trans (ret_ver (congrArg Prod.fst v7e) (congrArg Prod.snd v7e)), q.2⟩
  have HV3 : Hid (∀ U, Calls Try.prog 14 #[.agg #[.int .i64 0, .string ⟨#[112, 111, 100]⟩, .string ⟨#[97]⟩, .string ⟨#[120]⟩, .int .i64 3, .string ⟨#[]⟩, .bool false, .bool false, .slice none 0 0, .int .i64 9, .slice none 0 0]] U fun e w' => e = .returned (.tuple #[.int .i64 3, .int .i64 0]) ∧ Below U.heap.size U w') := Lib.hid fun U => (evver_calls U 0 9 (aO7_S U) (small7 _ List.mem_cons_self) (objsS_nil U) (by rintro p ⟨⟩) (by unfold in64; omega) (by decide)).mono fun e w' q => ⟨q.1.trans (ret_ver (congrArg Prod.fst v7a) (congrArg Prod.snd v7a)), q.2⟩
  have HR1 : Hid (∀ U, Below V.heap.size V U → Calls Try.prog 21 #[.agg #[.int .i64 2, .string ⟨#[]⟩, .string ⟨#[]⟩, .string ⟨#[]⟩, .int .i64 0, .string ⟨#[]⟩, .bool false, .bool false, .slice none 0 0, .int .i64 4, .slice (some ⟨w.heap.size + 2, 0, none⟩) 2 2]] U fun e w' => e = .returned (.bool false) ∧ Below U.heap.size U w') := Lib.hid fun U h => (evright_calls U 2 4 (zeroO_S U) zeroO_small (HEV.out.below h) small7 (by unfold in64; omega) (by decide)).mono fun e w' q => ⟨q.1.trans (ret_bool r7e), q.2⟩
  have HR2 : Hid (∀ U, Below V.heap.size V U → Calls Try.prog 21 #[.agg #[.int .i64 2, .string ⟨#[]⟩, .string ⟨#[]⟩, .string ⟨#[]⟩, .int .i64 0, .string ⟨#[]⟩, .bool false, .bool false, .slice none 0 0, .int .i64 4, .slice (some ⟨g, 0, none⟩) 2 c]] U fun e w' => e = .returned (.bool true) ∧ Below U.heap.size U w') := Lib.hid fun U h => (evright_calls U 2 4 (zeroO_S U) zeroO_small (HLV.out.below h) small7' (by unfold in64; omega) (by simp)).mono fun e w' q => ⟨q.1.trans (ret_bool r7f), q.2⟩
  have HR3 : Hid (∀ U, Calls Try.prog 21 #[.agg #[.int .i64 4, .string ⟨#[]⟩, .string ⟨#[]⟩, .string ⟨#[]⟩, .int .i64 0, .string ⟨#[]⟩, .bool false, .bool false, .slice none 0 0, .int .i64 0, .slice none 0 0]] U fun e w' => e = .returned (.bool false) ∧ Below U.heap.size U w') := Lib.hid fun U => (evright_calls U 4 0 (zeroO_S U) zeroO_small (objsS_nil U) (by rintro p ⟨⟩) (by unfold in64; omega) (by decide)).mono fun e w' q => ⟨q.1.trans (ret_bool r7k), q.2⟩
  have HOW : Hid (∀ U, Below V.heap.size V U → Calls Try.prog 17 #[.agg #[.int .i64 2, .string ⟨#[]⟩, .string ⟨#[]⟩, .string ⟨#[]⟩, .int .i64 0, .string ⟨#[]⟩, .bool false, .bool false, .slice none 0 0, .int .i64 4, .slice (some ⟨w.heap.size + 2, 0, none⟩) 2 2]] U fun e w' => ∃ x ov, e = .returned (.agg #[.int .i64 2, .string ⟨#[]⟩, .string ⟨#[]⟩, .string ⟨#[]⟩, .int .i64 0, .string ⟨#[]⟩, .bool false, .bool false, x, .int .i64 4, ov]) ∧ Hid (Calls Try.prog 23 #[.agg #[.int .i64 2, .string ⟨#[]⟩, .string ⟨#[]⟩, .string ⟨#[]⟩, .int .i64 0, .string ⟨#[]⟩, .bool false, .bool false, .slice none 0 0, .int .i64 4, .slice (some ⟨w.heap.size + 2, 0, none⟩) 2 2], .agg #[.int .i64 2, .string ⟨#[]⟩, .string ⟨#[]⟩, .string ⟨#[]⟩, .int .i64 0, .string ⟨#[]⟩, .bool false, .bool false, x, .int .i64 4, ov]] w' fun e w'' => e = .returned (.bool true) ∧ Below w'.heap.size w' w'') ∧ Below U.heap.size U w') := Lib.hid fun U h => (evown_calls U 2 4 (zeroO_S U) zeroO_small (HEV.out.below h) small7 (by decide)).mono fun e w' ⟨x, ov, ys, q1, q2, q3, q4, q5⟩ =>
    ⟨x, ov, q1, Lib.hid ((evsame_calls w' 2 2 4 4 (zeroO_S w') zeroO_small (HEV.out.below (bl_next h q5)) small7 (by decide) (o' := zeroO) ⟨q2.resS (by rintro p ⟨⟩), by decide, by decide⟩ zeroO_small (q3.objsS (oIn_of HEV.out q4)) (by rw [q4]; exact small7) (by rw [← oxs_len, q4]; decide)).mono fun e w'' z => ⟨z.1.trans (ret_bool (by rw [q4]; exact sameE_refl _)), z.2⟩), q5⟩
  have HS2 : Hid (∀ U, Below V.heap.size V U → Calls Try.prog 23 #[.agg #[.int .i64 2, .string ⟨#[]⟩, .string ⟨#[]⟩, .string ⟨#[]⟩, .int .i64 0, .string ⟨#[]⟩, .bool false, .bool false, .slice none 0 0, .int .i64 4, .slice (some ⟨w.heap.size + 2, 0, none⟩) 2 2], .agg #[.int .i64 2, .string ⟨#[]⟩, .string ⟨#[]⟩, .string ⟨#[]⟩, .int .i64 0, .string ⟨#[]⟩, .bool false, .bool false, .slice none 0 0, .int .i64 4, .slice (some ⟨g, 0, none⟩) 2 c]] U fun e w' => e = .returned (.bool false) ∧ Below U.heap.size U w') := Lib.hid fun U h => (evsame_calls U 2 2 4 4 (zeroO_S U) zeroO_small (HEV.out.below h) small7 (by decide) (zeroO_S U) zeroO_small (HLV.out.below h) small7' (by simp)).mono fun e w' q => ⟨q.1.trans (ret_bool s7), q.2⟩
  go_upto_region 12 with (go_at_call 14; ((first | (with_reducible refine (HV1.out _ hB).mono ?_) | (with_reducible refine (HV2.out _ hB).mono ?_) | (with_reducible refine (HV3.out _).mono ?_)); rintro e w' ⟨rfl, hb⟩; have hB := bl_next hB hb; have n2 := cb hb n2; have c0_0 := cb hb c0_0; have c0_1 := cb hb c0_1; have c0_2 := cb hb c0_2; have c0_3 := cb hb c0_3; have c0_4 := cb hb c0_4; have c0_5 := cb hb c0_5; have c0_6 := cb hb c0_6; have c0_7 := cb hb c0_7; have c1_0 := cb hb c1_0; have c1_1 := cb hb c1_1; have c1_2 := cb hb c1_2; have c1_3 := cb hb c1_3; have c1_4 := cb hb c1_4; have c1_5 := cb hb c1_5; have c1_6 := cb hb c1_6; have c1_7 := cb hb c1_7; have c3_0 := cb hb c3_0; have c3_1 := cb hb c3_1; have c3_2 := cb hb c3_2; have c3_3 := cb hb c3_3; have c3_4 := cb hb c3_4; have c3_5 := cb hb c3_5; have c3_6 := cb hb c3_6; have c3_7 := cb hb c3_7; have c3_8 := cb hb c3_8; have c3_9 := cb hb c3_9; have c3_10 := cb hb c3_10; have d0 := cb hb d0; have d1 := cb hb d1; have d2 := cb hb d2; have d3 := cb hb d3; have d4 := cb hb d4; have d5 := cb hb d5; have d6 := cb hb d6; have d7 := cb hb d7; have d8 := cb hb d8; have d9 := cb hb d9; have d10 := cb hb d10; clear hb))
  obtain ⟨V2, rfl⟩ : ∃ U : World, U = w' := ⟨_, rfl⟩
  have HBV2 := Lib.hid hB
  clear hB
  have hB := Below.refl V2.heap.size V2
  have h98 : (⟨#[98]⟩ : ByteArray).toList = [98] := by rw [Lib.toList_data]
  have hB := hB.drew
  refine region_seq (fun w' => Below V2.heap.size V2 w') [(0, true), (1, true), (2, true), (3, true), (4, true), (5, true), (6, true), (7, true), (8, false), (9, true), (10, true), (11, true), (12, true), (13, false), (14, true), (15, true), (16, true), (17, true), (18, true), (19, true), (20, true), (21, true), (22, true), (23, true), (24, true), (25, true), (26, true), (27, true), (28, true), (29, true), (30, true), (31, true), (32, true), (33, true), (34, true), (35, true), (36, true), (37, true), (38, false), (39, false), (40, true), (41, true), (42, true), (43, true), (44, false), (45, true), (46, true), (47, true), (48, true), (49, false), (50, true), (51, true), (52, true)] (by kernel_rfl) (by kernel_rfl) (fun _ _ _ _ h => h) hB ?_
  try generalize World.drew _ = wS at hB ⊢
  refine seq_take (v := ?_) (a' := ?_) (some 45) rfl rfl (by rfl) ?_ ?_ ?_
  rotate_left; rotate_left
  · intro w' hS; go_simp; with_reducible rfl
  · simp only [Act.put, List.setIfInBounds_toArray, List.set_cons_zero, List.set_cons_succ]; rfl
  refine seq_take (v := ?_) (a' := ?_) (some 46) rfl rfl (by rfl) ?_ ?_ ?_
  rotate_left; rotate_left
  · intro w' hS; go_simp; with_reducible rfl
  · simp only [Act.put, List.setIfInBounds_toArray, List.set_cons_zero, List.set_cons_succ]; rfl
  refine seq_take (v := ?_) (a' := ?_) (some 47) rfl rfl (by rfl) ?_ ?_ ?_
  rotate_left; rotate_left
  · intro w' hS; go_simp; with_reducible rfl
  · simp only [Act.put, List.setIfInBounds_toArray, List.set_cons_zero, List.set_cons_succ]; rfl
  refine seq_take (v := ?_) (a' := ?_) (some 48) rfl rfl (by rfl) ?_ ?_ ?_
  rotate_left; rotate_left
  · intro w' hS; go_simp; with_reducible rfl
  · simp only [Act.put, List.setIfInBounds_toArray, List.set_cons_zero, List.set_cons_succ]; rfl
  refine seq_take (v := ?_) (a' := ?_) (some 49) rfl rfl (by rfl) ?_ ?_ ?_
  rotate_left; rotate_left
  · intro w' hS; have a0 := cb hS c3_0; have b0 := cb hS d0; have a1 := cb hS c3_1; have b1 := cb hS d1; have a2 := cb hS c3_2; have b2 := cb hS d2; have a3 := cb hS c3_3; have b3 := cb hS d3; have a4 := cb hS c3_4; have b4 := cb hS d4; have a5 := cb hS c3_5; have b5 := cb hS d5; have a6 := cb hS c3_6; have b6 := cb hS d6; have a7 := cb hS c3_7; have b7 := cb hS d7; have a8 := cb hS c3_8; have b8 := cb hS d8; have a9 := cb hS c3_9; have b9 := cb hS d9; have a10 := cb hS c3_10; have b10 := cb hS d10; have nn := cb hS n2; go_simp; with_reducible rfl
  · simp only [Act.put, List.setIfInBounds_toArray, List.set_cons_zero, List.set_cons_succ]; rfl
  refine seq_take (v := ?_) (a' := ?_) (some 50) rfl rfl (by rfl) ?_ ?_ ?_
  rotate_left; rotate_left
  · intro w' hS; go_simp; with_reducible rfl
  · simp only [Act.put, List.setIfInBounds_toArray, List.set_cons_zero, List.set_cons_succ]; rfl
  refine seq_take (v := ?_) (a' := ?_) (some 51) rfl rfl (by rfl) ?_ ?_ ?_
  rotate_left; rotate_left
  · intro w' hS; go_simp; with_reducible rfl
  · simp only [Act.put, List.setIfInBounds_toArray, List.set_cons_zero, List.set_cons_succ]; rfl
  refine seq_take (v := ?_) (a' := ?_) (some 52) rfl rfl (by rfl) ?_ ?_ ?_
  rotate_left; rotate_left
  · intro w' hS; have a0 := cb hS c3_0; have b0 := cb hS d0; have a1 := cb hS c3_1; have b1 := cb hS d1; have a2 := cb hS c3_2; have b2 := cb hS d2; have a3 := cb hS c3_3; have b3 := cb hS d3; have a4 := cb hS c3_4; have b4 := cb hS d4; have a5 := cb hS c3_5; have b5 := cb hS d5; have a6 := cb hS c3_6; have b6 := cb hS d6; have a7 := cb hS c3_7; have b7 := cb hS d7; have a8 := cb hS c3_8; have b8 := cb hS d8; have a9 := cb hS c3_9; have b9 := cb hS d9; have a10 := cb hS c3_10; have b10 := cb hS d10; have nn := cb hS n2; go_simp; with_reducible rfl
  · simp only [Act.put, List.setIfInBounds_toArray, List.set_cons_zero, List.set_cons_succ]; rfl
  refine seq_call (args := ?_) Try.func21 (by kernel_rfl) rfl (some 53) rfl rfl (by rfl) rfl ?_ ?_
  rotate_left
  · simp only [List.map_toArray, List.map_cons, List.map_nil]; go_simp; rfl
  with_reducible refine (HR1.out _ (bl_next HBV2.out hB)).mono ?_
  rintro e w' ⟨rfl, hb⟩
  refine ⟨_, rfl, bl_next (by repeat (first | with_reducible exact hB | refine Below.alloc ?_ (by have := hB.size; simp; omega) _ | refine bl_dN ?_ _ | refine Below.drew ?_ | refine Below.setCell ?_ (by have := hB.size; simp; omega) _)) hb, ?_⟩
  have hB := bl_next (by repeat (first | with_reducible exact hB | refine Below.alloc ?_ (by have := hB.size; simp; omega) _ | refine bl_dN ?_ _ | refine Below.drew ?_ | refine Below.setCell ?_ (by have := hB.size; simp; omega) _)) hb; clear hb
  simp only [Act.put, List.setIfInBounds_toArray, List.set_cons_zero, List.set_cons_succ]
  refine seq_take (v := ?_) (a' := ?_) (some 54) rfl rfl (by rfl) ?_ ?_ ?_
  rotate_left; rotate_left
  · intro w' hS; go_simp; with_reducible rfl
  · simp only [Act.put, List.setIfInBounds_toArray, List.set_cons_zero, List.set_cons_succ]; rfl
  refine seq_take (v := ?_) (a' := ?_) (some 55) rfl rfl (by rfl) ?_ ?_ ?_
  rotate_left; rotate_left
  · intro w' hS; go_simp; with_reducible rfl
  · simp only [Act.put, List.setIfInBounds_toArray, List.set_cons_zero, List.set_cons_succ]; rfl
  refine seq_take (v := ?_) (a' := ?_) (some 56) rfl rfl (by rfl) ?_ ?_ ?_
  rotate_left; rotate_left
  · intro w' hS; go_simp; with_reducible rfl
  · simp only [Act.put, List.setIfInBounds_toArray, List.set_cons_zero, List.set_cons_succ]; rfl
  refine seq_take (v := ?_) (a' := ?_) (some 57) rfl rfl (by rfl) ?_ ?_ ?_
  rotate_left; rotate_left
  · intro w' hS; have a0 := cb hS c3_0; have b0 := cb hS d0; have a1 := cb hS c3_1; have b1 := cb hS d1; have a2 := cb hS c3_2; have b2 := cb hS d2; have a3 := cb hS c3_3; have b3 := cb hS d3; have a4 := cb hS c3_4; have b4 := cb hS d4; have a5 := cb hS c3_5; have b5 := cb hS d5; have a6 := cb hS c3_6; have b6 := cb hS d6; have a7 := cb hS c3_7; have b7 := cb hS d7; have a8 := cb hS c3_8; have b8 := cb hS d8; have a9 := cb hS c3_9; have b9 := cb hS d9; have a10 := cb hS c3_10; have b10 := cb hS d10; have nn := cb hS n2; go_simp; with_reducible rfl
  · simp only [Act.put, List.setIfInBounds_toArray, List.set_cons_zero, List.set_cons_succ]; rfl
  refine seq_call (args := ?_) Try.func21 (by kernel_rfl) rfl (some 58) rfl rfl (by rfl) rfl ?_ ?_
  rotate_left
  · simp only [List.map_toArray, List.map_cons, List.map_nil]; go_simp; rfl
  with_reducible refine (HR2.out _ (bl_next HBV2.out hB)).mono ?_
  rintro e w' ⟨rfl, hb⟩
  refine ⟨_, rfl, bl_next (by repeat (first | with_reducible exact hB | refine Below.alloc ?_ (by have := hB.size; simp; omega) _ | refine bl_dN ?_ _ | refine Below.drew ?_ | refine Below.setCell ?_ (by have := hB.size; simp; omega) _)) hb, ?_⟩
  have hB := bl_next (by repeat (first | with_reducible exact hB | refine Below.alloc ?_ (by have := hB.size; simp; omega) _ | refine bl_dN ?_ _ | refine Below.drew ?_ | refine Below.setCell ?_ (by have := hB.size; simp; omega) _)) hb; clear hb
  simp only [Act.put, List.setIfInBounds_toArray, List.set_cons_zero, List.set_cons_succ]
  refine seq_take (v := ?_) (a' := ?_) (some 59) rfl rfl (by rfl) ?_ ?_ ?_
  rotate_left; rotate_left
  · intro w' hS; go_simp; with_reducible rfl
  · simp only [Act.put, List.setIfInBounds_toArray, List.set_cons_zero, List.set_cons_succ]; rfl
  refine seq_take (v := ?_) (a' := ?_) (some 60) rfl rfl (by rfl) ?_ ?_ ?_
  rotate_left; rotate_left
  · intro w' hS; go_simp; with_reducible rfl
  · simp only [Act.put, List.setIfInBounds_toArray, List.set_cons_zero, List.set_cons_succ]; rfl
  refine seq_take (v := ?_) (a' := ?_) (some 61) rfl rfl (by rfl) ?_ ?_ ?_
  rotate_left; rotate_left
  · intro w' hS; go_simp; with_reducible rfl
  · simp only [Act.put, List.setIfInBounds_toArray, List.set_cons_zero, List.set_cons_succ]; rfl
  refine seq_take (v := ?_) (a' := ?_) (some 62) rfl rfl (by rfl) ?_ ?_ ?_
  rotate_left; rotate_left
  · intro w' hS; go_simp; with_reducible rfl
  · simp only [Act.put, List.setIfInBounds_toArray, List.set_cons_zero, List.set_cons_succ]; rfl
  refine seq_take (v := ?_) (a' := ?_) (some 63) rfl rfl (by rfl) ?_ ?_ ?_
  rotate_left; rotate_left
  · intro w' hS; go_simp; with_reducible rfl
  · simp only [Act.put, List.setIfInBounds_toArray, List.set_cons_zero, List.set_cons_succ]; rfl
  refine seq_take (v := ?_) (a' := ?_) (some 64) rfl rfl (by rfl) ?_ ?_ ?_
  rotate_left; rotate_left
  · intro w' hS; go_simp; with_reducible rfl
  · simp only [Act.put, List.setIfInBounds_toArray, List.set_cons_zero, List.set_cons_succ]; rfl
  refine seq_take (v := ?_) (a' := ?_) (some 65) rfl rfl (by rfl) ?_ ?_ ?_
  rotate_left; rotate_left
  · intro w' hS; go_simp; with_reducible rfl
  · simp only [Act.put, List.setIfInBounds_toArray, List.set_cons_zero, List.set_cons_succ]; rfl
  refine seq_take (v := ?_) (a' := ?_) (some 66) rfl rfl (by rfl) ?_ ?_ ?_
  rotate_left; rotate_left
  · intro w' hS; go_simp; with_reducible rfl
  · simp only [Act.put, List.setIfInBounds_toArray, List.set_cons_zero, List.set_cons_succ]; rfl
  refine seq_take (v := ?_) (a' := ?_) (some 67) rfl rfl (by rfl) ?_ ?_ ?_
  rotate_left; rotate_left
  · intro w' hS; go_simp; with_reducible rfl
  · simp only [Act.put, List.setIfInBounds_toArray, List.set_cons_zero, List.set_cons_succ]; rfl
  refine seq_take (v := ?_) (a' := ?_) (some 68) rfl rfl (by rfl) ?_ ?_ ?_
  rotate_left; rotate_left
  · intro w' hS; go_simp; with_reducible rfl
  · simp only [Act.put, List.setIfInBounds_toArray, List.set_cons_zero, List.set_cons_succ]; rfl
  refine seq_take (v := ?_) (a' := ?_) (some 69) rfl rfl (by rfl) ?_ ?_ ?_
  rotate_left; rotate_left
  · intro w' hS; go_simp; with_reducible rfl
  · simp only [Act.put, List.setIfInBounds_toArray, List.set_cons_zero, List.set_cons_succ]; rfl
  refine seq_take (v := ?_) (a' := ?_) (some 70) rfl rfl (by rfl) ?_ ?_ ?_
  rotate_left; rotate_left
  · intro w' hS; go_simp; with_reducible rfl
  · simp only [Act.put, List.setIfInBounds_toArray, List.set_cons_zero, List.set_cons_succ]; rfl
  refine seq_take (v := ?_) (a' := ?_) (some 71) rfl rfl (by rfl) ?_ ?_ ?_
  rotate_left; rotate_left
  · intro w' hS; go_simp; with_reducible rfl
  · simp only [Act.put, List.setIfInBounds_toArray, List.set_cons_zero, List.set_cons_succ]; rfl
  refine seq_take (v := ?_) (a' := ?_) (some 72) rfl rfl (by rfl) ?_ ?_ ?_
  rotate_left; rotate_left
  · intro w' hS; go_simp; with_reducible rfl
  · simp only [Act.put, List.setIfInBounds_toArray, List.set_cons_zero, List.set_cons_succ]; rfl
  refine seq_take (v := ?_) (a' := ?_) (some 73) rfl rfl (by rfl) ?_ ?_ ?_
  rotate_left; rotate_left
  · intro w' hS; go_simp; with_reducible rfl
  · simp only [Act.put, List.setIfInBounds_toArray, List.set_cons_zero, List.set_cons_succ]; rfl
  refine seq_take (v := ?_) (a' := ?_) (some 74) rfl rfl (by rfl) ?_ ?_ ?_
  rotate_left; rotate_left
  · intro w' hS; go_simp; with_reducible rfl
  · simp only [Act.put, List.setIfInBounds_toArray, List.set_cons_zero, List.set_cons_succ]; rfl
  refine seq_take (v := ?_) (a' := ?_) (some 75) rfl rfl (by rfl) ?_ ?_ ?_
  rotate_left; rotate_left
  · intro w' hS; go_simp; with_reducible rfl
  · simp only [Act.put, List.setIfInBounds_toArray, List.set_cons_zero, List.set_cons_succ]; rfl
  refine seq_take (v := ?_) (a' := ?_) (some 76) rfl rfl (by rfl) ?_ ?_ ?_
  rotate_left; rotate_left
  · intro w' hS; go_simp; with_reducible rfl
  · simp only [Act.put, List.setIfInBounds_toArray, List.set_cons_zero, List.set_cons_succ]; rfl
  refine seq_take (v := ?_) (a' := ?_) (some 77) rfl rfl (by rfl) ?_ ?_ ?_
  rotate_left; rotate_left
  · intro w' hS; go_simp; with_reducible rfl
  · simp only [Act.put, List.setIfInBounds_toArray, List.set_cons_zero, List.set_cons_succ]; rfl
  refine seq_take (v := ?_) (a' := ?_) (some 78) rfl rfl (by rfl) ?_ ?_ ?_
  rotate_left; rotate_left
  · intro w' hS; go_simp; with_reducible rfl
  · simp only [Act.put, List.setIfInBounds_toArray, List.set_cons_zero, List.set_cons_succ]; rfl
  refine seq_take (v := ?_) (a' := ?_) (some 79) rfl rfl (by rfl) ?_ ?_ ?_
  rotate_left; rotate_left
  · intro w' hS; go_simp; with_reducible rfl
  · simp only [Act.put, List.setIfInBounds_toArray, List.set_cons_zero, List.set_cons_succ]; rfl
  refine seq_take (v := ?_) (a' := ?_) (some 80) rfl rfl (by rfl) ?_ ?_ ?_
  rotate_left; rotate_left
  · intro w' hS; go_simp; with_reducible rfl
  · simp only [Act.put, List.setIfInBounds_toArray, List.set_cons_zero, List.set_cons_succ]; rfl
  refine seq_take (v := ?_) (a' := ?_) (some 81) rfl rfl (by rfl) ?_ ?_ ?_
  rotate_left; rotate_left
  · intro w' hS; have a0 := cb hS c3_0; have b0 := cb hS d0; have a1 := cb hS c3_1; have b1 := cb hS d1; have a2 := cb hS c3_2; have b2 := cb hS d2; have a3 := cb hS c3_3; have b3 := cb hS d3; have a4 := cb hS c3_4; have b4 := cb hS d4; have a5 := cb hS c3_5; have b5 := cb hS d5; have a6 := cb hS c3_6; have b6 := cb hS d6; have a7 := cb hS c3_7; have b7 := cb hS d7; have a8 := cb hS c3_8; have b8 := cb hS d8; have a9 := cb hS c3_9; have b9 := cb hS d9; have a10 := cb hS c3_10; have b10 := cb hS d10; have nn := cb hS n2; go_simp; with_reducible rfl
  · simp only [Act.put, List.setIfInBounds_toArray, List.set_cons_zero, List.set_cons_succ]; rfl
  refine seq_take (v := ?_) (a' := ?_) (some 82) rfl rfl (by rfl) ?_ ?_ ?_
  rotate_left; rotate_left
  · intro w' hS; have a0 := cb hS c3_0; have b0 := cb hS d0; have a1 := cb hS c3_1; have b1 := cb hS d1; have a2 := cb hS c3_2; have b2 := cb hS d2; have a3 := cb hS c3_3; have b3 := cb hS d3; have a4 := cb hS c3_4; have b4 := cb hS d4; have a5 := cb hS c3_5; have b5 := cb hS d5; have a6 := cb hS c3_6; have b6 := cb hS d6; have a7 := cb hS c3_7; have b7 := cb hS d7; have a8 := cb hS c3_8; have b8 := cb hS d8; have a9 := cb hS c3_9; have b9 := cb hS d9; have a10 := cb hS c3_10; have b10 := cb hS d10; have nn := cb hS n2; go_simp; with_reducible rfl
  · simp only [Act.put, List.setIfInBounds_toArray, List.set_cons_zero, List.set_cons_succ]; rfl
  refine seq_call (args := ?_) Try.func17 (by kernel_rfl) rfl (some 83) rfl rfl (by rfl) rfl ?_ ?_
  rotate_left
  · simp only [List.map_toArray, List.map_cons, List.map_nil]; go_simp; rfl
  with_reducible refine (HOW.out _ (bl_next HBV2.out hB)).mono ?_
  rintro e w' ⟨x, ov, rfl, HSM, hb⟩
  refine ⟨_, rfl, bl_next (by repeat (first | with_reducible exact hB | refine Below.alloc ?_ (by have := hB.size; simp; omega) _ | refine bl_dN ?_ _ | refine Below.drew ?_ | refine Below.setCell ?_ (by have := hB.size; simp; omega) _)) hb, ?_⟩
  have hB := bl_next (by repeat (first | with_reducible exact hB | refine Below.alloc ?_ (by have := hB.size; simp; omega) _ | refine bl_dN ?_ _ | refine Below.drew ?_ | refine Below.setCell ?_ (by have := hB.size; simp; omega) _)) hb; clear hb
  simp only [Act.put, List.setIfInBounds_toArray, List.set_cons_zero, List.set_cons_succ]
  refine seq_call (args := ?_) Try.func23 (by kernel_rfl) rfl (some 84) rfl rfl (by rfl) rfl ?_ ?_
  rotate_left
  · simp only [List.map_toArray, List.map_cons, List.map_nil]; go_simp; rfl
  with_reducible refine (HSM.out).mono ?_
  rintro e w' ⟨rfl, hb⟩
  refine ⟨_, rfl, bl_next (by repeat (first | with_reducible exact hB | refine Below.alloc ?_ (by have := hB.size; simp; omega) _ | refine bl_dN ?_ _ | refine Below.drew ?_ | refine Below.setCell ?_ (by have := hB.size; simp; omega) _)) hb, ?_⟩
  have hB := bl_next (by repeat (first | with_reducible exact hB | refine Below.alloc ?_ (by have := hB.size; simp; omega) _ | refine bl_dN ?_ _ | refine Below.drew ?_ | refine Below.setCell ?_ (by have := hB.size; simp; omega) _)) hb; clear hb
  simp only [Act.put, List.setIfInBounds_toArray, List.set_cons_zero, List.set_cons_succ]
  refine seq_take (v := ?_) (a' := ?_) (some 85) rfl rfl (by rfl) ?_ ?_ ?_
  rotate_left; rotate_left
  · intro w' hS; go_simp; with_reducible rfl
  · simp only [Act.put, List.setIfInBounds_toArray, List.set_cons_zero, List.set_cons_succ]; rfl
  refine seq_take (v := ?_) (a' := ?_) (some 86) rfl rfl (by rfl) ?_ ?_ ?_
  rotate_left; rotate_left
  · intro w' hS; go_simp; with_reducible rfl
  · simp only [Act.put, List.setIfInBounds_toArray, List.set_cons_zero, List.set_cons_succ]; rfl
  refine seq_take (v := ?_) (a' := ?_) (some 87) rfl rfl (by rfl) ?_ ?_ ?_
  rotate_left; rotate_left
  · intro w' hS; have a0 := cb hS c3_0; have b0 := cb hS d0; have a1 := cb hS c3_1; have b1 := cb hS d1; have a2 := cb hS c3_2; have b2 := cb hS d2; have a3 := cb hS c3_3; have b3 := cb hS d3; have a4 := cb hS c3_4; have b4 := cb hS d4; have a5 := cb hS c3_5; have b5 := cb hS d5; have a6 := cb hS c3_6; have b6 := cb hS d6; have a7 := cb hS c3_7; have b7 := cb hS d7; have a8 := cb hS c3_8; have b8 := cb hS d8; have a9 := cb hS c3_9; have b9 := cb hS d9; have a10 := cb hS c3_10; have b10 := cb hS d10; have nn := cb hS n2; go_simp; with_reducible rfl
  · simp only [Act.put, List.setIfInBounds_toArray, List.set_cons_zero, List.set_cons_succ]; rfl
  refine seq_take (v := ?_) (a' := ?_) (some 88) rfl rfl (by rfl) ?_ ?_ ?_
  rotate_left; rotate_left
  · intro w' hS; have a0 := cb hS c3_0; have b0 := cb hS d0; have a1 := cb hS c3_1; have b1 := cb hS d1; have a2 := cb hS c3_2; have b2 := cb hS d2; have a3 := cb hS c3_3; have b3 := cb hS d3; have a4 := cb hS c3_4; have b4 := cb hS d4; have a5 := cb hS c3_5; have b5 := cb hS d5; have a6 := cb hS c3_6; have b6 := cb hS d6; have a7 := cb hS c3_7; have b7 := cb hS d7; have a8 := cb hS c3_8; have b8 := cb hS d8; have a9 := cb hS c3_9; have b9 := cb hS d9; have a10 := cb hS c3_10; have b10 := cb hS d10; have nn := cb hS n2; go_simp; with_reducible rfl
  · simp only [Act.put, List.setIfInBounds_toArray, List.set_cons_zero, List.set_cons_succ]; rfl
  refine seq_call (args := ?_) Try.func23 (by kernel_rfl) rfl (some 89) rfl rfl (by rfl) rfl ?_ ?_
  rotate_left
  · simp only [List.map_toArray, List.map_cons, List.map_nil]; go_simp; rfl
  with_reducible refine (HS2.out _ (bl_next HBV2.out hB)).mono ?_
  rintro e w' ⟨rfl, hb⟩
  refine ⟨_, rfl, bl_next (by repeat (first | with_reducible exact hB | refine Below.alloc ?_ (by have := hB.size; simp; omega) _ | refine bl_dN ?_ _ | refine Below.drew ?_ | refine Below.setCell ?_ (by have := hB.size; simp; omega) _)) hb, ?_⟩
  have hB := bl_next (by repeat (first | with_reducible exact hB | refine Below.alloc ?_ (by have := hB.size; simp; omega) _ | refine bl_dN ?_ _ | refine Below.drew ?_ | refine Below.setCell ?_ (by have := hB.size; simp; omega) _)) hb; clear hb
  simp only [Act.put, List.setIfInBounds_toArray, List.set_cons_zero, List.set_cons_succ]
  refine seq_take (v := ?_) (a' := ?_) (some 90) rfl rfl (by rfl) ?_ ?_ ?_
  rotate_left; rotate_left
  · intro w' hS; go_simp; with_reducible rfl
  · simp only [Act.put, List.setIfInBounds_toArray, List.set_cons_zero, List.set_cons_succ]; rfl
  refine seq_take (v := ?_) (a' := ?_) (some 91) rfl rfl (by rfl) ?_ ?_ ?_
  rotate_left; rotate_left
  · intro w' hS; go_simp; with_reducible rfl
  · simp only [Act.put, List.setIfInBounds_toArray, List.set_cons_zero, List.set_cons_succ]; rfl
  refine seq_take (v := ?_) (a' := ?_) (some 92) rfl rfl (by rfl) ?_ ?_ ?_
  rotate_left; rotate_left
  · intro w' hS; go_simp; with_reducible rfl
  · simp only [Act.put, List.setIfInBounds_toArray, List.set_cons_zero, List.set_cons_succ]; rfl
  refine seq_take (v := ?_) (a' := ?_) (some 93) rfl rfl (by rfl) ?_ ?_ ?_
  rotate_left; rotate_left
  · intro w' hS; go_simp; with_reducible rfl
  · simp only [Act.put, List.setIfInBounds_toArray, List.set_cons_zero, List.set_cons_succ]; rfl
  refine seq_call (args := ?_) Try.func21 (by kernel_rfl) rfl (some 94) rfl rfl (by rfl) rfl ?_ ?_
  rotate_left
  · simp only [List.map_toArray, List.map_cons, List.map_nil]; go_simp; rfl
  with_reducible refine (HR3.out _).mono ?_
  rintro e w' ⟨rfl, hb⟩
  refine ⟨_, rfl, bl_next (by repeat (first | with_reducible exact hB | refine Below.alloc ?_ (by have := hB.size; simp; omega) _ | refine bl_dN ?_ _ | refine Below.drew ?_ | refine Below.setCell ?_ (by have := hB.size; simp; omega) _)) hb, ?_⟩
  have hB := bl_next (by repeat (first | with_reducible exact hB | refine Below.alloc ?_ (by have := hB.size; simp; omega) _ | refine bl_dN ?_ _ | refine Below.drew ?_ | refine Below.setCell ?_ (by have := hB.size; simp; omega) _)) hb; clear hb
  simp only [Act.put, List.setIfInBounds_toArray, List.set_cons_zero, List.set_cons_succ]
  refine seq_take (v := ?_) (a' := ?_) (some 95) rfl rfl (by rfl) ?_ ?_ ?_
  rotate_left; rotate_left
  · intro w' hS; go_simp; with_reducible rfl
  · simp only [Act.put, List.setIfInBounds_toArray, List.set_cons_zero, List.set_cons_succ]; rfl
  refine seq_take (v := ?_) (a' := ?_) (some 96) rfl rfl (by rfl) ?_ ?_ ?_
  rotate_left; rotate_left
  · intro w' hS; go_simp; with_reducible rfl
  · simp only [Act.put, List.setIfInBounds_toArray, List.set_cons_zero, List.set_cons_succ]; rfl
  refine seq_take (v := ?_) (a' := ?_) (some 0) rfl rfl (by rfl) ?_ ?_ ?_
  rotate_left; rotate_left
  · intro w' hS; go_simp; with_reducible rfl
  · simp only [Act.put, List.setIfInBounds_toArray, List.set_cons_zero, List.set_cons_succ]; rfl
  refine seq_done ?_
  go_wp2_with fail
  go_ret
  exact ⟨rfl, HBV.out.trans ((bl_next HBV2.out hB).mono HBV.out.size)⟩
end Go.Proofs.Ythhfcambdmdgfaa
