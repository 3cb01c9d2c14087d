import Derived.Test.YteomicjjaajblaaVcp
import Derived.Test.YteomicjjaajblaaObe
namespace Go.Proofs.Yteomicjjaajblaa
open Go.RowKit Go.Shelf Go.Maps
set_option linter.unusedVariables false
set_option linter.unusedSimpArgs false
theorem vsame_calls (w : World) {u v : Value} {l m : Vec} (hu : VecS w u l) (hv : VecS w v m) (hl : l.length ≤ 1000000) (hm : m.length ≤ 1000000) :
    Calls Try.prog 23 #[u, v] w fun e w' => e = .returned (.bool (decide (l = m))) ∧ Below w.heap.size w w' := by
  have hB := Below.refl w.heap.size w
  have HE := Lib.hid (veq_calls w hu hv hl hm)
  obtain ⟨au, cu, rfl⟩ := hu.form
  obtain ⟨av, cv, rfl⟩ := hv.form
  clear hu hv
  go_enter Try.func23, Try.ntmps23
  go_wp2_with (go_at_call 52; refine HE.out.mono ?_; rintro e w' ⟨rfl, hb⟩; have hB := bl_next hB hb; clear hb)
  go_ret
  exact ⟨rfl, hB⟩
def FitOut (w : World) (kk ks kn cls : ByteArray) (l : Res) (e : Ending) (w' : World) : Prop := ∃ f, e = .returned (.bool f) ∧ (f = true → (kk.size ≤ 200 ∧ ks.size ≤ 200 ∧ kn.size ≤ 200 ∧ cls.size ≤ 200 ∧ l.length ≤ 40 ∧ ∀ p ∈ l, p.1.size ≤ 200)) ∧ Below w.heap.size w w'
theorem fit_no {w w' : World} {kk ks kn cls : ByteArray} {l : Res} (h : Below w.heap.size w w') : FitOut w kk ks kn cls l (.returned (.bool false)) w' := ⟨false, rfl, (fun h => by cases h), h⟩
theorem fit_yes {w w' : World} {kk ks kn cls : ByteArray} {l : Res} (h : Below w.heap.size w w') (q : kk.size ≤ 200 ∧ ks.size ≤ 200 ∧ kn.size ≤ 200 ∧ cls.size ≤ 200 ∧ l.length ≤ 40 ∧ ∀ p ∈ l, p.1.size ≤ 200) : FitOut w kk ks kn cls l (.returned (.bool true)) w' := ⟨true, rfl, (fun _ => q), h⟩
set_option maxRecDepth 100000 in
set_option maxHeartbeats 8000000 in
theorem fits5_calls (w : World) {sl : Value} {o : ObjD} (h : ObjS w sl o) :
    Calls Try.prog 7 #[objV o sl] w (FitOut w o.key.kind o.key.space o.key.name o.cls o.charge) := by
  have H := Lib.hid h.1
  obtain ⟨al, cl, rfl⟩ := h.1.form
  clear h
  obtain ⟨l, hl⟩ : ∃ l, o.charge = l := ⟨_, rfl⟩
  unfold objV
  rw [hl] at H ⊢
  clear hl
  obtain ⟨⟨kk, ks, kn⟩, ver, cls, term, best, chg⟩ := o
  simp only
  go_enter Try.func7, Try.ntmps7
  go_upto_region 1 with fail
  first | with_reducible refine name_wp ?_ | with_reducible refine name_calls ?_
  intro W hWeq
  have g0 : W.heap[w.heap.size]? = some (.cells #[.string kk, .string ks, .string kn, .int .i64 ver, .string cls, .bool term, .bool best, .slice al l.length cl] 26) := by rw [hWeq]; repeat (first | (with_reducible exact blk_newAt _ _ (by simp)) | with_reducible refine blk_drew ?_ | with_reducible refine blk_dN ?_ _ | with_reducible refine blk_old ?_ _)
  have hw : Below w.heap.size w W := by rw [hWeq]; repeat (first | with_reducible exact Below.refl _ _ | with_reducible refine Below.drew ?_ | with_reducible refine bl_dN ?_ _ | with_reducible refine Below.alloc ?_ (by simp <;> omega) _)
  clear hWeq
  have hz : w.heap.size + 1 ≤ W.heap.size := by have := blk_lt g0; omega
  have c0_0 : W.cell? ⟨w.heap.size, 0, none⟩ = some (.string kk) := blk_cell g0 0
  have c0_1 : W.cell? ⟨w.heap.size, 1, none⟩ = some (.string ks) := blk_cell g0 1
  have c0_2 : W.cell? ⟨w.heap.size, 2, none⟩ = some (.string kn) := blk_cell g0 2
  have c0_3 : W.cell? ⟨w.heap.size, 3, none⟩ = some (.int .i64 ver) := blk_cell g0 3
  have c0_4 : W.cell? ⟨w.heap.size, 4, none⟩ = some (.string cls) := blk_cell g0 4
  have c0_5 : W.cell? ⟨w.heap.size, 5, none⟩ = some (.bool term) := blk_cell g0 5
  have c0_6 : W.cell? ⟨w.heap.size, 6, none⟩ = some (.bool best) := blk_cell g0 6
  have c0_7 : W.cell? ⟨w.heap.size, 7, none⟩ = some (.slice al l.length cl) := blk_cell g0 7
  have f0 : ∀ j, W.frozen? ⟨w.heap.size, j, none⟩ = false := blk_free g0
  have hB : Below W.heap.size W W := Below.refl _ _
  have G0 := Lib.hid g0; clear g0
  have F0 := Lib.hid f0; clear f0
  have Hw := Lib.hid hw; clear hw
  have HW := Lib.hid (H.out.below Hw.out)
  by_cases h_0 : kk.size ≤ 200
  · have i_0 : ¬ (200 : Int) < kk.size := by omega
    have j_0 : decide ((200 : Int) < kk.size) = false := decide_eq_false i_0
    by_cases h_1 : ks.size ≤ 200
    · have i_1 : ¬ (200 : Int) < ks.size := by omega
      have j_1 : decide ((200 : Int) < ks.size) = false := decide_eq_false i_1
      by_cases h_2 : kn.size ≤ 200
      · have i_2 : ¬ (200 : Int) < kn.size := by omega
        have j_2 : decide ((200 : Int) < kn.size) = false := decide_eq_false i_2
        by_cases h_3 : cls.size ≤ 200
        · have i_3 : ¬ (200 : Int) < cls.size := by omega
          have j_3 : decide ((200 : Int) < cls.size) = false := decide_eq_false i_3
          by_cases h_4 : l.length ≤ 40
          · have i_4 : ¬ (40 : Int) < l.length := by omega
            have j_4 : decide ((40 : Int) < l.length) = false := decide_eq_false i_4
            go_upto_region 3 with fail
            go_wp2_with fail
            go_loopw [3] (fun i wr => ∃ k : Nat, i = .int .i64 k ∧ k ≤ l.length ∧ Hid (∀ p ∈ l.take k, p.1.size ≤ 200) ∧ Below W.heap.size W wr) (fun i _ => l.length - (intOf i).toNat)
            case atStart => exact ⟨0, rfl, Nat.zero_le _, Lib.hid (by intro p hp; cases hp), hB⟩
            case round =>
              clear hB
              obtain ⟨k, rfl, hk, HR, hB⟩ := hrel
              have k7 := cb hB c0_7
              by_cases hkl : k < l.length
              · have hkI : (k : Int) < l.length := by omega
                obtain ⟨b, of, c, he, q0, q1, hin⟩ := HW.out.at' hkl
                cases he
                have q0 := cb hB q0
                have HSTEP := Lib.hid (show (l[k]'hkl).1.size ≤ 200 → ∀ p ∈ l.take (k + 1), p.1.size ≤ 200 from fun h p hp => by
                  rw [List.take_succ_eq_append_getElem hkl] at hp
                  rcases List.mem_append.1 hp with h9 | h9
                  · exact HR.out p h9
                  · obtain rfl := List.mem_singleton.1 h9; exact h)
                clear hin q1
                obtain ⟨p, hp⟩ : ∃ p, l[k]'hkl = p := ⟨_, rfl⟩
                rw [hp] at q0 HSTEP
                clear hp
                by_cases hz : p.1.size ≤ 200
                · have hzI : ¬ (200 : Int) < p.1.size := by omega
                  have hzJ : decide ((200 : Int) < p.1.size) = false := decide_eq_false hzI
                  have HOK := Lib.hid (HSTEP.out hz)
                  go_wp2_with fail
                  go_roundw
                  case rel => exact ⟨k + 1, by simp, by omega, HOK, hB⟩
                  case measure => simp [intOf]; omega
                · have hzI : (200 : Int) < p.1.size := by omega
                  have hzJ : decide ((200 : Int) < p.1.size) = true := decide_eq_true hzI
                  go_wp2_with fail
                  go_ret
                  exact fit_no (bl_from Hw.out hB)
              · obtain rfl : k = l.length := by omega
                have hR := HR.out
                rw [List.take_length] at hR
                have HR2 := Lib.hid hR
                clear hR
                go_wp2_with fail
                go_ret
                exact fit_yes (bl_from Hw.out hB) ⟨h_0, h_1, h_2, h_3, h_4, HR2.out⟩
          · have i_4 : (40 : Int) < l.length := by omega
            have j_4 : decide ((40 : Int) < l.length) = true := decide_eq_true i_4
            go_wp2_with fail
            go_ret
            exact fit_no Hw.out
        · have i_3 : (200 : Int) < cls.size := by omega
          have j_3 : decide ((200 : Int) < cls.size) = true := decide_eq_true i_3
          go_wp2_with fail
          go_ret
          exact fit_no Hw.out
      · have i_2 : (200 : Int) < kn.size := by omega
        have j_2 : decide ((200 : Int) < kn.size) = true := decide_eq_true i_2
        go_wp2_with fail
        go_ret
        exact fit_no Hw.out
    · have i_1 : (200 : Int) < ks.size := by omega
      have j_1 : decide ((200 : Int) < ks.size) = true := decide_eq_true i_1
      go_wp2_with fail
      go_ret
      exact fit_no Hw.out
  · have i_0 : (200 : Int) < kk.size := by omega
    have j_0 : decide ((200 : Int) < kk.size) = true := decide_eq_true i_0
    go_wp2_with fail
    go_ret
    exact fit_no Hw.out
/-! ### The live question -/
def aliveO : ObjD := ⟨⟨⟨#[112, 111, 100]⟩, ⟨#[97]⟩, ⟨#[120]⟩⟩, 1, ⟨#[]⟩, false, false, [(⟨#[99, 112, 117]⟩, 2), (⟨#[111, 98, 106, 101, 99, 116, 115]⟩, 3)]⟩
def aliveP : ObjD := ⟨⟨⟨#[112, 111, 100]⟩, ⟨#[97]⟩, ⟨#[120]⟩⟩, 0, ⟨#[]⟩, false, false, [(⟨#[99, 112, 117]⟩, 2), (⟨#[111, 98, 106, 101, 99, 116, 115]⟩, 3)]⟩
theorem alive_o : rightO aliveO = true := by kernel_rfl
theorem alive_p : rightO aliveP = false := by decide
theorem alive_same : sameO aliveO aliveP = false := by decide
theorem alive_alike : alikeO aliveO aliveP = true := by decide
theorem alive_charge : chargeR aliveO = (0, [(⟨#[99, 112, 117]⟩, 2), (⟨#[111, 98, 106, 101, 99, 116, 115]⟩, 4)]) := by kernel_rfl
theorem alive_text : textV [(⟨#[99, 112, 117]⟩, 2), (⟨#[111, 98, 106, 101, 99, 116, 115]⟩, 4)] = ⟨#[99, 112, 117, 61, 50, 44, 111, 98, 106, 101, 99, 116, 115, 61, 52]⟩ := by kernel_rfl
theorem vecOut_use {w w' : World} {r : Int × Vec} {e : Ending} (h : VecOut w r e w') (hi : ∀ p ∈ r.2, wIn p.2 = true) : ∃ ax cx, e = .returned (.tuple #[.slice ax r.2.length cx, .int .i64 r.1]) ∧ VecS w' (.slice ax r.2.length cx) r.2 ∧ Below w.heap.size w w' := by
  obtain ⟨x, rfl, hrow, hb⟩ := h
  obtain ⟨ax, cx, rfl⟩ := rw_form hrow
  exact ⟨ax, cx, rfl, ⟨sliS_of hrow, hi⟩, hb⟩
theorem aliveOut {w w' : World} {e : Ending} (h : VecOut w (0, [(⟨#[99, 112, 117]⟩, 2), (⟨#[111, 98, 106, 101, 99, 116, 115]⟩, 4)]) e w') : ∃ ax cx, e = .returned (.tuple #[.slice ax 2 cx, .int .i64 0]) ∧ VecS w' (.slice ax 2 cx) [(⟨#[99, 112, 117]⟩, 2), (⟨#[111, 98, 106, 101, 99, 116, 115]⟩, 4)] ∧ Below w.heap.size w w' := vecOut_use h (by decide)
theorem noneOut {w w' : World} {e : Ending} (h : VecOut w (1, []) e w') : ∃ ax cx, e = .returned (.tuple #[.slice ax 0 cx, .int .i64 1]) ∧ Below w.heap.size w w' := by
  obtain ⟨ax, cx, h1, _, h2⟩ := vecOut_use h (by intro p hp; cases hp)
  exact ⟨ax, cx, h1, h2⟩
theorem aliveO_small : objSmall aliveO := by refine ⟨⟨?_, ?_, ?_⟩, ?_, ?_, ?_⟩ <;> decide
theorem aliveP_small : objSmall aliveP := by refine ⟨⟨?_, ?_, ?_⟩, ?_, ?_, ?_⟩ <;> decide
theorem aliveO_in : ∀ p ∈ aliveO.charge, in64 p.2 := by
  intro p hp
  rcases List.mem_cons.1 hp with rfl | hp
  · exact ⟨by decide, by decide⟩
  · obtain rfl := List.mem_singleton.1 hp; exact ⟨by decide, by decide⟩
theorem aliveV_in : ∀ p ∈ ([(⟨#[99, 112, 117]⟩, 2), (⟨#[111, 98, 106, 101, 99, 116, 115]⟩, 4)] : Vec), wIn p.2 = true := by decide
set_option maxRecDepth 100000 in
set_option maxHeartbeats 2000000 in
theorem alive5_calls (w : World) :
    Calls Try.prog 8 #[] w fun e w' => e = .returned (.bool true) ∧ Below w.heap.size w w' := by
  go_enter Try.func8, Try.ntmps8
  go_upto_region 2 with fail
  first | with_reducible refine name_wp ?_ | with_reducible refine name_calls ?_
  intro W0 hWeq
  have g0 : W0.heap[w.heap.size]? = some (.cells #[.string ⟨#[99, 112, 117]⟩, .int .i64 2, .string ⟨#[111, 98, 106, 101, 99, 116, 115]⟩, .int .i64 3] 43) := by rw [hWeq]; repeat (first | (with_reducible exact blk_newAt _ _ (by simp)) | with_reducible refine blk_drew ?_ | with_reducible refine blk_dN ?_ _ | with_reducible refine blk_old ?_ _)
  have g1 : W0.heap[w.heap.size + 1]? = some (.cells #[.string ⟨#[112, 111, 100]⟩, .string ⟨#[97]⟩, .string ⟨#[120]⟩, .int .i64 1, .string ⟨#[]⟩, .bool false, .bool false, .slice (some ⟨w.heap.size, 0, none⟩) 2 2] 26) := by rw [hWeq]; repeat (first | (with_reducible exact blk_newAt _ _ (by simp)) | with_reducible refine blk_drew ?_ | with_reducible refine blk_dN ?_ _ | with_reducible refine blk_old ?_ _)
  have hw : Below w.heap.size w W0 := by rw [hWeq]; repeat (first | with_reducible exact Below.refl _ _ | with_reducible refine Below.drew ?_ | with_reducible refine bl_dN ?_ _ | with_reducible refine Below.alloc ?_ (by simp <;> omega) _)
  clear hWeq
  have hz : w.heap.size + 2 ≤ W0.heap.size := by have := blk_lt g1; omega
  have c0_0 : W0.cell? ⟨w.heap.size, 0, none⟩ = some (.string ⟨#[99, 112, 117]⟩) := blk_cell g0 0
  have c0_1 : W0.cell? ⟨w.heap.size, 1, none⟩ = some (.int .i64 2) := blk_cell g0 1
  have c0_2 : W0.cell? ⟨w.heap.size, 2, none⟩ = some (.string ⟨#[111, 98, 106, 101, 99, 116, 115]⟩) := blk_cell g0 2
  have c0_3 : W0.cell? ⟨w.heap.size, 3, none⟩ = some (.int .i64 3) := blk_cell g0 3
  have f0 : ∀ j, W0.frozen? ⟨w.heap.size, j, none⟩ = false := blk_free g0
  have c1_0 : W0.cell? ⟨w.heap.size + 1, 0, none⟩ = some (.string ⟨#[112, 111, 100]⟩) := blk_cell g1 0
  have c1_1 : W0.cell? ⟨w.heap.size + 1, 1, none⟩ = some (.string ⟨#[97]⟩) := blk_cell g1 1
  have c1_2 : W0.cell? ⟨w.heap.size + 1, 2, none⟩ = some (.string ⟨#[120]⟩) := blk_cell g1 2
  have c1_3 : W0.cell? ⟨w.heap.size + 1, 3, none⟩ = some (.int .i64 1) := blk_cell g1 3
  have c1_4 : W0.cell? ⟨w.heap.size + 1, 4, none⟩ = some (.string ⟨#[]⟩) := blk_cell g1 4
  have c1_5 : W0.cell? ⟨w.heap.size + 1, 5, none⟩ = some (.bool false) := blk_cell g1 5
  have c1_6 : W0.cell? ⟨w.heap.size + 1, 6, none⟩ = some (.bool false) := blk_cell g1 6
  have c1_7 : W0.cell? ⟨w.heap.size + 1, 7, none⟩ = some (.slice (some ⟨w.heap.size, 0, none⟩) 2 2) := blk_cell g1 7
  have f1 : ∀ j, W0.frozen? ⟨w.heap.size + 1, j, none⟩ = false := blk_free g1
  have hB : Below W0.heap.size W0 W0 := Below.refl _ _
  have G0 := Lib.hid g0; clear g0
  have F0 := Lib.hid f0; clear f0
  have G1 := Lib.hid g1; clear g1
  have F1 := Lib.hid f1; clear f1
  have Hw := Lib.hid hw; clear hw
  have GR := G0
  have Hw0 := Hw
  go_upto_region 3 with fail
  first | with_reducible refine name_wp ?_ | with_reducible refine name_calls ?_
  intro W hWeq
  have g0 : W.heap[W0.heap.size]? = some (.cells #[.string ⟨#[112, 111, 100]⟩, .string ⟨#[97]⟩, .string ⟨#[120]⟩, .int .i64 1, .string ⟨#[]⟩, .bool false, .bool false, .slice (some ⟨w.heap.size, 0, none⟩) 2 2] 26) := by rw [hWeq]; repeat (first | (with_reducible exact blk_newAt _ _ (by simp)) | with_reducible refine blk_drew ?_ | with_reducible refine blk_dN ?_ _ | with_reducible refine blk_old ?_ _)
  have hw : Below W0.heap.size W0 W := by rw [hWeq]; repeat (first | with_reducible exact Below.refl _ _ | with_reducible refine Below.drew ?_ | with_reducible refine bl_dN ?_ _ | with_reducible refine Below.alloc ?_ (by simp <;> omega) _)
  clear hWeq
  have hz : W0.heap.size + 1 ≤ W.heap.size := by have := blk_lt g0; omega
  have c0_0 : W.cell? ⟨W0.heap.size, 0, none⟩ = some (.string ⟨#[112, 111, 100]⟩) := blk_cell g0 0
  have c0_1 : W.cell? ⟨W0.heap.size, 1, none⟩ = some (.string ⟨#[97]⟩) := blk_cell g0 1
  have c0_2 : W.cell? ⟨W0.heap.size, 2, none⟩ = some (.string ⟨#[120]⟩) := blk_cell g0 2
  have c0_3 : W.cell? ⟨W0.heap.size, 3, none⟩ = some (.int .i64 1) := blk_cell g0 3
  have c0_4 : W.cell? ⟨W0.heap.size, 4, none⟩ = some (.string ⟨#[]⟩) := blk_cell g0 4
  have c0_5 : W.cell? ⟨W0.heap.size, 5, none⟩ = some (.bool false) := blk_cell g0 5
  have c0_6 : W.cell? ⟨W0.heap.size, 6, none⟩ = some (.bool false) := blk_cell g0 6
  have c0_7 : W.cell? ⟨W0.heap.size, 7, none⟩ = some (.slice (some ⟨w.heap.size, 0, none⟩) 2 2) := blk_cell g0 7
  have f0 : ∀ j, W.frozen? ⟨W0.heap.size, j, none⟩ = false := blk_free g0
  have hB : Below W.heap.size W W := Below.refl _ _
  have G0 := Lib.hid g0; clear g0
  have F0 := Lib.hid f0; clear f0
  have Hw := Lib.hid hw; clear hw
  have kf := F0.out 3
  go_upto_region 4 with fail
  first | with_reducible refine name_wp ?_ | with_reducible refine name_calls ?_
  intro X hX
  have gX : X.heap[W0.heap.size]? = some (.cells #[.string ⟨#[112, 111, 100]⟩, .string ⟨#[97]⟩, .string ⟨#[120]⟩, .int .i64 0, .string ⟨#[]⟩, .bool false, .bool false, .slice (some ⟨w.heap.size, 0, none⟩) 2 2] 26) := by rw [hX]; exact heap_setCell_same _ _ 3 _ _ _ G0.out
  have hX9 : Below W0.heap.size W0 X := by rw [hX]; exact Hw.out.setCell (Nat.le_refl _) _
  clear hX kf hB
  have d0 : X.cell? ⟨W0.heap.size, 0, none⟩ = some (.string ⟨#[112, 111, 100]⟩) := blk_cell gX 0; have d1 : X.cell? ⟨W0.heap.size, 1, none⟩ = some (.string ⟨#[97]⟩) := blk_cell gX 1; have d2 : X.cell? ⟨W0.heap.size, 2, none⟩ = some (.string ⟨#[120]⟩) := blk_cell gX 2; have d3 : X.cell? ⟨W0.heap.size, 3, none⟩ = some (.int .i64 0) := blk_cell gX 3; have d4 : X.cell? ⟨W0.heap.size, 4, none⟩ = some (.string ⟨#[]⟩) := blk_cell gX 4; have d5 : X.cell? ⟨W0.heap.size, 5, none⟩ = some (.bool false) := blk_cell gX 5; have d6 : X.cell? ⟨W0.heap.size, 6, none⟩ = some (.bool false) := blk_cell gX 6; have d7 : X.cell? ⟨W0.heap.size, 7, none⟩ = some (.slice (some ⟨w.heap.size, 0, none⟩) 2 2) := blk_cell gX 7
  have e0 := cb hX9 c1_0; have e1 := cb hX9 c1_1; have e2 := cb hX9 c1_2; have e3 := cb hX9 c1_3; have e4 := cb hX9 c1_4; have e5 := cb hX9 c1_5; have e6 := cb hX9 c1_6; have e7 := cb hX9 c1_7
  have HO : Hid (ObjS X (.slice (some ⟨w.heap.size, 0, none⟩) 2 2) aliveO) := Lib.hid ⟨⟨sliS_lit (cs := resC aliveO.charge) (n := 2) (blk_below GR.out hX9) rfl, aliveO_in⟩, by decide, by decide⟩
  have HP : Hid (ObjS X (.slice (some ⟨w.heap.size, 0, none⟩) 2 2) aliveP) := Lib.hid ⟨⟨sliS_lit (cs := resC aliveO.charge) (n := 2) (blk_below GR.out hX9) rfl, aliveO_in⟩, by decide, by decide⟩
  have HCO : Hid (∀ U, Below X.heap.size X U → Calls Try.prog 9 #[.agg #[.string ⟨#[112, 111, 100]⟩, .string ⟨#[97]⟩, .string ⟨#[120]⟩, .int .i64 1, .string ⟨#[]⟩, .bool false, .bool false, .slice (some ⟨w.heap.size, 0, none⟩) 2 2]] U (VecOut U (0, [(⟨#[99, 112, 117]⟩, 2), (⟨#[111, 98, 106, 101, 99, 116, 115]⟩, 4)]))) := Lib.hid fun U h => (ocharge_calls U (HO.out.below h) aliveO_small).mono fun e w' q => by rw [alive_charge] at q; exact q
  have HCP : Hid (∀ U, Below X.heap.size X U → Calls Try.prog 9 #[.agg #[.string ⟨#[112, 111, 100]⟩, .string ⟨#[97]⟩, .string ⟨#[120]⟩, .int .i64 0, .string ⟨#[]⟩, .bool false, .bool false, .slice (some ⟨w.heap.size, 0, none⟩) 2 2]] U (VecOut U (1, []))) := Lib.hid fun U h => (ocharge_calls U (HP.out.below h) aliveP_small).mono fun e w' q => by rw [chargeR_wrong alive_p] at q; exact q
  have HRO : Hid (∀ U, Below X.heap.size X U → Calls Try.prog 14 #[.agg #[.string ⟨#[112, 111, 100]⟩, .string ⟨#[97]⟩, .string ⟨#[120]⟩, .int .i64 1, .string ⟨#[]⟩, .bool false, .bool false, .slice (some ⟨w.heap.size, 0, none⟩) 2 2]] U fun e w' => e = .returned (.bool true) ∧ Below U.heap.size U w') := Lib.hid fun U h => (oright_calls U (HO.out.below h) aliveO_small).mono fun e w' q => ⟨by rw [q.1, alive_o], q.2⟩
  have HRP : Hid (∀ U, Below X.heap.size X U → Calls Try.prog 14 #[.agg #[.string ⟨#[112, 111, 100]⟩, .string ⟨#[97]⟩, .string ⟨#[120]⟩, .int .i64 0, .string ⟨#[]⟩, .bool false, .bool false, .slice (some ⟨w.heap.size, 0, none⟩) 2 2]] U fun e w' => e = .returned (.bool false) ∧ Below U.heap.size U w') := Lib.hid fun U h => (oright_calls U (HP.out.below h) aliveP_small).mono fun e w' q => ⟨by rw [q.1, alive_p], q.2⟩
  have HSS : Hid (∀ U, Below X.heap.size X U → Calls Try.prog 16 #[.agg #[.string ⟨#[112, 111, 100]⟩, .string ⟨#[97]⟩, .string ⟨#[120]⟩, .int .i64 1, .string ⟨#[]⟩, .bool false, .bool false, .slice (some ⟨w.heap.size, 0, none⟩) 2 2], .agg #[.string ⟨#[112, 111, 100]⟩, .string ⟨#[97]⟩, .string ⟨#[120]⟩, .int .i64 0, .string ⟨#[]⟩, .bool false, .bool false, .slice (some ⟨w.heap.size, 0, none⟩) 2 2]] U fun e w' => e = .returned (.bool false) ∧ Below U.heap.size U w') := Lib.hid fun U h => (osame_calls U (HO.out.below h) (HP.out.below h) (by decide)).mono fun e w' q => ⟨by rw [q.1, alive_same], q.2⟩
  have HAK : Hid (∀ U, Below X.heap.size X U → Calls Try.prog 17 #[.agg #[.string ⟨#[112, 111, 100]⟩, .string ⟨#[97]⟩, .string ⟨#[120]⟩, .int .i64 1, .string ⟨#[]⟩, .bool false, .bool false, .slice (some ⟨w.heap.size, 0, none⟩) 2 2], .agg #[.string ⟨#[112, 111, 100]⟩, .string ⟨#[97]⟩, .string ⟨#[120]⟩, .int .i64 0, .string ⟨#[]⟩, .bool false, .bool false, .slice (some ⟨w.heap.size, 0, none⟩) 2 2]] U fun e w' => e = .returned (.bool true) ∧ Below U.heap.size U w') := Lib.hid fun U h => (oalike_calls U (HO.out.below h) (HP.out.below h) (by decide)).mono fun e w' q => ⟨by rw [q.1, alive_alike], q.2⟩
  have HOW : Hid (∀ U, Below X.heap.size X U → Calls Try.prog 13 #[.agg #[.string ⟨#[112, 111, 100]⟩, .string ⟨#[97]⟩, .string ⟨#[120]⟩, .int .i64 1, .string ⟨#[]⟩, .bool false, .bool false, .slice (some ⟨w.heap.size, 0, none⟩) 2 2]] U fun e w' => ∃ x, e = .returned (objV aliveO x) ∧ ResF w' U.heap.size x aliveO.charge ∧ Below U.heap.size U w') := Lib.hid fun U h => own_calls U (HO.out.below h) (by decide)
  have HBX := Lib.hid (Hw0.out.trans (hX9.mono Hw0.out.size))
  clear hX9
  have hB := Below.refl X.heap.size X
  go_upto_region 6 with (go_at_call 9; (first | (with_reducible refine (HCO.out _ hB).mono ?_; intro e w' hv; obtain ⟨ax, cx, rfl, hvv, hb⟩ := aliveOut hv; have HV := Lib.hid hvv; clear hv hvv) | (with_reducible refine (HCP.out _ hB).mono ?_; intro e w' hv; obtain ⟨ay, cy, rfl, hb⟩ := noneOut hv; have HV := Lib.hid (HV.out.below hb); clear hv)); have hB := bl_next hB hb; have d0 := cb hb d0; have e0 := cb hb e0; have d1 := cb hb d1; have e1 := cb hb e1; have d2 := cb hb d2; have e2 := cb hb e2; have d3 := cb hb d3; have e3 := cb hb e3; have d4 := cb hb d4; have e4 := cb hb e4; have d5 := cb hb d5; have e5 := cb hb e5; have d6 := cb hb d6; have e6 := cb hb e6; have d7 := cb hb d7; have e7 := cb hb e7; clear hb)
  obtain ⟨V, rfl⟩ : ∃ V : World, V = w' := ⟨_, rfl⟩
  have HXV := Lib.hid hB
  clear hB
  have hB := Below.refl V.heap.size V
  have hB := hB.drew
  refine region_seq (fun w' => Below V.heap.size V w') [(0, true), (1, true), (2, true), (3, true), (4, false), (5, true), (6, true), (7, true), (8, true), (9, true), (10, true), (11, true), (12, true), (13, false), (14, true), (15, true), (16, true), (17, false), (18, true), (19, true), (20, true), (21, true), (22, true), (23, false), (24, false), (25, true), (26, true), (27, true), (28, true), (29, false), (30, true), (31, true), (32, true), (33, true), (34, true), (35, false), (36, true), (37, true)] (by kernel_rfl) (by kernel_rfl) (fun _ _ _ _ h => h) hB ?_
  try generalize World.drew _ = wS at hB ⊢
  refine seq_take (v := ?_) (a' := ?_) (some 24) rfl rfl (by rfl) ?_ ?_ ?_
  rotate_left; rotate_left
  · intro w' hS; go_simp; with_reducible rfl
  · simp only [Act.put, List.setIfInBounds_toArray, List.set_cons_zero, List.set_cons_succ]; rfl
  refine seq_take (v := ?_) (a' := ?_) (some 25) rfl rfl (by rfl) ?_ ?_ ?_
  rotate_left; rotate_left
  · intro w' hS; go_simp; with_reducible rfl
  · simp only [Act.put, List.setIfInBounds_toArray, List.set_cons_zero, List.set_cons_succ]; rfl
  refine seq_take (v := ?_) (a' := ?_) (some 26) rfl rfl (by rfl) ?_ ?_ ?_
  rotate_left; rotate_left
  · intro w' hS; go_simp; with_reducible rfl
  · simp only [Act.put, List.setIfInBounds_toArray, List.set_cons_zero, List.set_cons_succ]; rfl
  refine seq_take (v := ?_) (a' := ?_) (some 27) rfl rfl (by rfl) ?_ ?_ ?_
  rotate_left; rotate_left
  · intro w' hS; go_simp; with_reducible rfl
  · simp only [Act.put, List.setIfInBounds_toArray, List.set_cons_zero, List.set_cons_succ]; rfl
  refine seq_call (args := ?_) Try.func37 (by kernel_rfl) rfl (some 28) rfl rfl (by rfl) rfl ?_ ?_
  rotate_left
  · simp only [List.map_toArray, List.map_cons, List.map_nil]; go_simp; rfl
  with_reducible refine (vtext_calls _ (HV.out.below hB) (by decide) (by decide)).mono ?_
  rintro e w' ⟨rfl, hb⟩
  rw [alive_text]
  refine ⟨_, rfl, bl_next (by repeat (first | with_reducible exact hB | refine Below.alloc ?_ (by have := hB.size; simp; omega) _ | refine bl_dN ?_ _ | refine Below.drew ?_ | refine Below.setCell ?_ (by have := hB.size; simp; omega) _)) hb, ?_⟩
  have hB := bl_next (by repeat (first | with_reducible exact hB | refine Below.alloc ?_ (by have := hB.size; simp; omega) _ | refine bl_dN ?_ _ | refine Below.drew ?_ | refine Below.setCell ?_ (by have := hB.size; simp; omega) _)) hb; clear hb
  simp only [Act.put, List.setIfInBounds_toArray, List.set_cons_zero, List.set_cons_succ]
  refine seq_take (v := ?_) (a' := ?_) (some 29) rfl rfl (by rfl) ?_ ?_ ?_
  rotate_left; rotate_left
  · intro w' hS; go_simp; with_reducible rfl
  · simp only [Act.put, List.setIfInBounds_toArray, List.set_cons_zero, List.set_cons_succ]; rfl
  refine seq_take (v := ?_) (a' := ?_) (some 30) rfl rfl (by rfl) ?_ ?_ ?_
  rotate_left; rotate_left
  · intro w' hS; go_simp; with_reducible rfl
  · simp only [Act.put, List.setIfInBounds_toArray, List.set_cons_zero, List.set_cons_succ]; rfl
  refine seq_take (v := ?_) (a' := ?_) (some 31) rfl rfl (by rfl) ?_ ?_ ?_
  rotate_left; rotate_left
  · intro w' hS; go_simp; with_reducible rfl
  · simp only [Act.put, List.setIfInBounds_toArray, List.set_cons_zero, List.set_cons_succ]; rfl
  refine seq_take (v := ?_) (a' := ?_) (some 32) rfl rfl (by rfl) ?_ ?_ ?_
  rotate_left; rotate_left
  · intro w' hS; go_simp; with_reducible rfl
  · simp only [Act.put, List.setIfInBounds_toArray, List.set_cons_zero, List.set_cons_succ]; rfl
  refine seq_take (v := ?_) (a' := ?_) (some 33) rfl rfl (by rfl) ?_ ?_ ?_
  rotate_left; rotate_left
  · intro w' hS; go_simp; with_reducible rfl
  · simp only [Act.put, List.setIfInBounds_toArray, List.set_cons_zero, List.set_cons_succ]; rfl
  refine seq_take (v := ?_) (a' := ?_) (some 34) rfl rfl (by rfl) ?_ ?_ ?_
  rotate_left; rotate_left
  · intro w' hS; go_simp; with_reducible rfl
  · simp only [Act.put, List.setIfInBounds_toArray, List.set_cons_zero, List.set_cons_succ]; rfl
  refine seq_take (v := ?_) (a' := ?_) (some 35) rfl rfl (by rfl) ?_ ?_ ?_
  rotate_left; rotate_left
  · intro w' hS; go_simp; with_reducible rfl
  · simp only [Act.put, List.setIfInBounds_toArray, List.set_cons_zero, List.set_cons_succ]; rfl
  refine seq_take (v := ?_) (a' := ?_) (some 36) rfl rfl (by rfl) ?_ ?_ ?_
  rotate_left; rotate_left
  · intro w' hS; have p0 := cb hS d0; have r0 := cb hS e0; have p1 := cb hS d1; have r1 := cb hS e1; have p2 := cb hS d2; have r2 := cb hS e2; have p3 := cb hS d3; have r3 := cb hS e3; have p4 := cb hS d4; have r4 := cb hS e4; have p5 := cb hS d5; have r5 := cb hS e5; have p6 := cb hS d6; have r6 := cb hS e6; have p7 := cb hS d7; have r7 := cb hS e7; go_simp; with_reducible rfl
  · simp only [Act.put, List.setIfInBounds_toArray, List.set_cons_zero, List.set_cons_succ]; rfl
  refine seq_call (args := ?_) Try.func14 (by kernel_rfl) rfl (some 37) rfl rfl (by rfl) rfl ?_ ?_
  rotate_left
  · simp only [List.map_toArray, List.map_cons, List.map_nil]; go_simp; rfl
  with_reducible refine (HRO.out _ (bl_next HXV.out hB)).mono ?_
  rintro e w' ⟨rfl, hb⟩
  refine ⟨_, rfl, bl_next (by repeat (first | with_reducible exact hB | refine Below.alloc ?_ (by have := hB.size; simp; omega) _ | refine bl_dN ?_ _ | refine Below.drew ?_ | refine Below.setCell ?_ (by have := hB.size; simp; omega) _)) hb, ?_⟩
  have hB := bl_next (by repeat (first | with_reducible exact hB | refine Below.alloc ?_ (by have := hB.size; simp; omega) _ | refine bl_dN ?_ _ | refine Below.drew ?_ | refine Below.setCell ?_ (by have := hB.size; simp; omega) _)) hb; clear hb
  simp only [Act.put, List.setIfInBounds_toArray, List.set_cons_zero, List.set_cons_succ]
  refine seq_take (v := ?_) (a' := ?_) (some 38) rfl rfl (by rfl) ?_ ?_ ?_
  rotate_left; rotate_left
  · intro w' hS; go_simp; with_reducible rfl
  · simp only [Act.put, List.setIfInBounds_toArray, List.set_cons_zero, List.set_cons_succ]; rfl
  refine seq_take (v := ?_) (a' := ?_) (some 39) rfl rfl (by rfl) ?_ ?_ ?_
  rotate_left; rotate_left
  · intro w' hS; go_simp; with_reducible rfl
  · simp only [Act.put, List.setIfInBounds_toArray, List.set_cons_zero, List.set_cons_succ]; rfl
  refine seq_take (v := ?_) (a' := ?_) (some 40) rfl rfl (by rfl) ?_ ?_ ?_
  rotate_left; rotate_left
  · intro w' hS; have p0 := cb hS d0; have r0 := cb hS e0; have p1 := cb hS d1; have r1 := cb hS e1; have p2 := cb hS d2; have r2 := cb hS e2; have p3 := cb hS d3; have r3 := cb hS e3; have p4 := cb hS d4; have r4 := cb hS e4; have p5 := cb hS d5; have r5 := cb hS e5; have p6 := cb hS d6; have r6 := cb hS e6; have p7 := cb hS d7; have r7 := cb hS e7; go_simp; with_reducible rfl
  · simp only [Act.put, List.setIfInBounds_toArray, List.set_cons_zero, List.set_cons_succ]; rfl
  refine seq_call (args := ?_) Try.func14 (by kernel_rfl) rfl (some 41) rfl rfl (by rfl) rfl ?_ ?_
  rotate_left
  · simp only [List.map_toArray, List.map_cons, List.map_nil]; go_simp; rfl
  with_reducible refine (HRP.out _ (bl_next HXV.out hB)).mono ?_
  rintro e w' ⟨rfl, hb⟩
  refine ⟨_, rfl, bl_next (by repeat (first | with_reducible exact hB | refine Below.alloc ?_ (by have := hB.size; simp; omega) _ | refine bl_dN ?_ _ | refine Below.drew ?_ | refine Below.setCell ?_ (by have := hB.size; simp; omega) _)) hb, ?_⟩
  have hB := bl_next (by repeat (first | with_reducible exact hB | refine Below.alloc ?_ (by have := hB.size; simp; omega) _ | refine bl_dN ?_ _ | refine Below.drew ?_ | refine Below.setCell ?_ (by have := hB.size; simp; omega) _)) hb; clear hb
  simp only [Act.put, List.setIfInBounds_toArray, List.set_cons_zero, List.set_cons_succ]
  refine seq_take (v := ?_) (a' := ?_) (some 42) rfl rfl (by rfl) ?_ ?_ ?_
  rotate_left; rotate_left
  · intro w' hS; go_simp; with_reducible rfl
  · simp only [Act.put, List.setIfInBounds_toArray, List.set_cons_zero, List.set_cons_succ]; rfl
  refine seq_take (v := ?_) (a' := ?_) (some 43) rfl rfl (by rfl) ?_ ?_ ?_
  rotate_left; rotate_left
  · intro w' hS; go_simp; with_reducible rfl
  · simp only [Act.put, List.setIfInBounds_toArray, List.set_cons_zero, List.set_cons_succ]; rfl
  refine seq_take (v := ?_) (a' := ?_) (some 44) rfl rfl (by rfl) ?_ ?_ ?_
  rotate_left; rotate_left
  · intro w' hS; go_simp; with_reducible rfl
  · simp only [Act.put, List.setIfInBounds_toArray, List.set_cons_zero, List.set_cons_succ]; rfl
  refine seq_take (v := ?_) (a' := ?_) (some 45) rfl rfl (by rfl) ?_ ?_ ?_
  rotate_left; rotate_left
  · intro w' hS; have p0 := cb hS d0; have r0 := cb hS e0; have p1 := cb hS d1; have r1 := cb hS e1; have p2 := cb hS d2; have r2 := cb hS e2; have p3 := cb hS d3; have r3 := cb hS e3; have p4 := cb hS d4; have r4 := cb hS e4; have p5 := cb hS d5; have r5 := cb hS e5; have p6 := cb hS d6; have r6 := cb hS e6; have p7 := cb hS d7; have r7 := cb hS e7; go_simp; with_reducible rfl
  · simp only [Act.put, List.setIfInBounds_toArray, List.set_cons_zero, List.set_cons_succ]; rfl
  refine seq_take (v := ?_) (a' := ?_) (some 46) rfl rfl (by rfl) ?_ ?_ ?_
  rotate_left; rotate_left
  · intro w' hS; have p0 := cb hS d0; have r0 := cb hS e0; have p1 := cb hS d1; have r1 := cb hS e1; have p2 := cb hS d2; have r2 := cb hS e2; have p3 := cb hS d3; have r3 := cb hS e3; have p4 := cb hS d4; have r4 := cb hS e4; have p5 := cb hS d5; have r5 := cb hS e5; have p6 := cb hS d6; have r6 := cb hS e6; have p7 := cb hS d7; have r7 := cb hS e7; go_simp; with_reducible rfl
  · simp only [Act.put, List.setIfInBounds_toArray, List.set_cons_zero, List.set_cons_succ]; rfl
  refine seq_call (args := ?_) Try.func13 (by kernel_rfl) rfl (some 47) rfl rfl (by rfl) rfl ?_ ?_
  rotate_left
  · simp only [List.map_toArray, List.map_cons, List.map_nil]; go_simp; rfl
  with_reducible refine (HOW.out _ (bl_next HXV.out hB)).mono ?_
  rintro e w' ⟨x, rfl, hrf, hb⟩
  have HSX := Lib.hid (show Calls Try.prog 16 #[.agg #[.string ⟨#[112, 111, 100]⟩, .string ⟨#[97]⟩, .string ⟨#[120]⟩, .int .i64 1, .string ⟨#[]⟩, .bool false, .bool false, .slice (some ⟨w.heap.size, 0, none⟩) 2 2], objV aliveO x] w' fun e w2 => e = .returned (.bool true) ∧ Below w'.heap.size w' w2 from (osame_calls w' (HO.out.below (bl_next (bl_next HXV.out hB) hb)) ⟨hrf.resS aliveO_in, by decide, by decide⟩ (by decide)).mono fun e w2 q => ⟨by rw [q.1, sameO_refl], q.2⟩); clear hrf
  refine ⟨_, rfl, bl_next (by repeat (first | with_reducible exact hB | refine Below.alloc ?_ (by have := hB.size; simp; omega) _ | refine bl_dN ?_ _ | refine Below.drew ?_ | refine Below.setCell ?_ (by have := hB.size; simp; omega) _)) hb, ?_⟩
  have hB := bl_next (by repeat (first | with_reducible exact hB | refine Below.alloc ?_ (by have := hB.size; simp; omega) _ | refine bl_dN ?_ _ | refine Below.drew ?_ | refine Below.setCell ?_ (by have := hB.size; simp; omega) _)) hb; clear hb
  simp only [Act.put, List.setIfInBounds_toArray, List.set_cons_zero, List.set_cons_succ]
  refine seq_call (args := ?_) Try.func16 (by kernel_rfl) rfl (some 48) rfl rfl (by rfl) rfl ?_ ?_
  rotate_left
  · simp only [List.map_toArray, List.map_cons, List.map_nil]; go_simp; rfl
  with_reducible refine (HSX.out).mono ?_
  rintro e w' ⟨rfl, hb⟩
  refine ⟨_, rfl, bl_next (by repeat (first | with_reducible exact hB | refine Below.alloc ?_ (by have := hB.size; simp; omega) _ | refine bl_dN ?_ _ | refine Below.drew ?_ | refine Below.setCell ?_ (by have := hB.size; simp; omega) _)) hb, ?_⟩
  have hB := bl_next (by repeat (first | with_reducible exact hB | refine Below.alloc ?_ (by have := hB.size; simp; omega) _ | refine bl_dN ?_ _ | refine Below.drew ?_ | refine Below.setCell ?_ (by have := hB.size; simp; omega) _)) hb; clear hb
  simp only [Act.put, List.setIfInBounds_toArray, List.set_cons_zero, List.set_cons_succ]
  refine seq_take (v := ?_) (a' := ?_) (some 49) rfl rfl (by rfl) ?_ ?_ ?_
  rotate_left; rotate_left
  · intro w' hS; go_simp; with_reducible rfl
  · simp only [Act.put, List.setIfInBounds_toArray, List.set_cons_zero, List.set_cons_succ]; rfl
  refine seq_take (v := ?_) (a' := ?_) (some 50) rfl rfl (by rfl) ?_ ?_ ?_
  rotate_left; rotate_left
  · intro w' hS; go_simp; with_reducible rfl
  · simp only [Act.put, List.setIfInBounds_toArray, List.set_cons_zero, List.set_cons_succ]; rfl
  refine seq_take (v := ?_) (a' := ?_) (some 51) rfl rfl (by rfl) ?_ ?_ ?_
  rotate_left; rotate_left
  · intro w' hS; have p0 := cb hS d0; have r0 := cb hS e0; have p1 := cb hS d1; have r1 := cb hS e1; have p2 := cb hS d2; have r2 := cb hS e2; have p3 := cb hS d3; have r3 := cb hS e3; have p4 := cb hS d4; have r4 := cb hS e4; have p5 := cb hS d5; have r5 := cb hS e5; have p6 := cb hS d6; have r6 := cb hS e6; have p7 := cb hS d7; have r7 := cb hS e7; go_simp; with_reducible rfl
  · simp only [Act.put, List.setIfInBounds_toArray, List.set_cons_zero, List.set_cons_succ]; rfl
  refine seq_take (v := ?_) (a' := ?_) (some 52) rfl rfl (by rfl) ?_ ?_ ?_
  rotate_left; rotate_left
  · intro w' hS; have p0 := cb hS d0; have r0 := cb hS e0; have p1 := cb hS d1; have r1 := cb hS e1; have p2 := cb hS d2; have r2 := cb hS e2; have p3 := cb hS d3; have r3 := cb hS e3; have p4 := cb hS d4; have r4 := cb hS e4; have p5 := cb hS d5; have r5 := cb hS e5; have p6 := cb hS d6; have r6 := cb hS e6; have p7 := cb hS d7; have r7 := cb hS e7; go_simp; with_reducible rfl
  · simp only [Act.put, List.setIfInBounds_toArray, List.set_cons_zero, List.set_cons_succ]; rfl
  refine seq_call (args := ?_) Try.func16 (by kernel_rfl) rfl (some 53) rfl rfl (by rfl) rfl ?_ ?_
  rotate_left
  · simp only [List.map_toArray, List.map_cons, List.map_nil]; go_simp; rfl
  with_reducible refine (HSS.out _ (bl_next HXV.out hB)).mono ?_
  rintro e w' ⟨rfl, hb⟩
  refine ⟨_, rfl, bl_next (by repeat (first | with_reducible exact hB | refine Below.alloc ?_ (by have := hB.size; simp; omega) _ | refine bl_dN ?_ _ | refine Below.drew ?_ | refine Below.setCell ?_ (by have := hB.size; simp; omega) _)) hb, ?_⟩
  have hB := bl_next (by repeat (first | with_reducible exact hB | refine Below.alloc ?_ (by have := hB.size; simp; omega) _ | refine bl_dN ?_ _ | refine Below.drew ?_ | refine Below.setCell ?_ (by have := hB.size; simp; omega) _)) hb; clear hb
  simp only [Act.put, List.setIfInBounds_toArray, List.set_cons_zero, List.set_cons_succ]
  refine seq_take (v := ?_) (a' := ?_) (some 54) rfl rfl (by rfl) ?_ ?_ ?_
  rotate_left; rotate_left
  · intro w' hS; go_simp; with_reducible rfl
  · simp only [Act.put, List.setIfInBounds_toArray, List.set_cons_zero, List.set_cons_succ]; rfl
  refine seq_take (v := ?_) (a' := ?_) (some 55) rfl rfl (by rfl) ?_ ?_ ?_
  rotate_left; rotate_left
  · intro w' hS; go_simp; with_reducible rfl
  · simp only [Act.put, List.setIfInBounds_toArray, List.set_cons_zero, List.set_cons_succ]; rfl
  refine seq_take (v := ?_) (a' := ?_) (some 56) rfl rfl (by rfl) ?_ ?_ ?_
  rotate_left; rotate_left
  · intro w' hS; go_simp; with_reducible rfl
  · simp only [Act.put, List.setIfInBounds_toArray, List.set_cons_zero, List.set_cons_succ]; rfl
  refine seq_take (v := ?_) (a' := ?_) (some 57) rfl rfl (by rfl) ?_ ?_ ?_
  rotate_left; rotate_left
  · intro w' hS; have p0 := cb hS d0; have r0 := cb hS e0; have p1 := cb hS d1; have r1 := cb hS e1; have p2 := cb hS d2; have r2 := cb hS e2; have p3 := cb hS d3; have r3 := cb hS e3; have p4 := cb hS d4; have r4 := cb hS e4; have p5 := cb hS d5; have r5 := cb hS e5; have p6 := cb hS d6; have r6 := cb hS e6; have p7 := cb hS d7; have r7 := cb hS e7; go_simp; with_reducible rfl
  · simp only [Act.put, List.setIfInBounds_toArray, List.set_cons_zero, List.set_cons_succ]; rfl
  refine seq_take (v := ?_) (a' := ?_) (some 58) rfl rfl (by rfl) ?_ ?_ ?_
  rotate_left; rotate_left
  · intro w' hS; have p0 := cb hS d0; have r0 := cb hS e0; have p1 := cb hS d1; have r1 := cb hS e1; have p2 := cb hS d2; have r2 := cb hS e2; have p3 := cb hS d3; have r3 := cb hS e3; have p4 := cb hS d4; have r4 := cb hS e4; have p5 := cb hS d5; have r5 := cb hS e5; have p6 := cb hS d6; have r6 := cb hS e6; have p7 := cb hS d7; have r7 := cb hS e7; go_simp; with_reducible rfl
  · simp only [Act.put, List.setIfInBounds_toArray, List.set_cons_zero, List.set_cons_succ]; rfl
  refine seq_call (args := ?_) Try.func17 (by kernel_rfl) rfl (some 59) rfl rfl (by rfl) rfl ?_ ?_
  rotate_left
  · simp only [List.map_toArray, List.map_cons, List.map_nil]; go_simp; rfl
  with_reducible refine (HAK.out _ (bl_next HXV.out hB)).mono ?_
  rintro e w' ⟨rfl, hb⟩
  refine ⟨_, rfl, bl_next (by repeat (first | with_reducible exact hB | refine Below.alloc ?_ (by have := hB.size; simp; omega) _ | refine bl_dN ?_ _ | refine Below.drew ?_ | refine Below.setCell ?_ (by have := hB.size; simp; omega) _)) hb, ?_⟩
  have hB := bl_next (by repeat (first | with_reducible exact hB | refine Below.alloc ?_ (by have := hB.size; simp; omega) _ | refine bl_dN ?_ _ | refine Below.drew ?_ | refine Below.setCell ?_ (by have := hB.size; simp; omega) _)) hb; clear hb
  simp only [Act.put, List.setIfInBounds_toArray, List.set_cons_zero, List.set_cons_succ]
  refine seq_take (v := ?_) (a' := ?_) (some 60) rfl rfl (by rfl) ?_ ?_ ?_
  rotate_left; rotate_left
  · intro w' hS; go_simp; with_reducible rfl
  · simp only [Act.put, List.setIfInBounds_toArray, List.set_cons_zero, List.set_cons_succ]; rfl
  refine seq_take (v := ?_) (a' := ?_) (some 0) rfl rfl (by rfl) ?_ ?_ ?_
  rotate_left; rotate_left
  · intro w' hS; go_simp; with_reducible rfl
  · simp only [Act.put, List.setIfInBounds_toArray, List.set_cons_zero, List.set_cons_succ]; rfl
  refine seq_done ?_
  go_wp2_with fail
  go_ret
  exact ⟨rfl, (HBX.out.trans (HXV.out.mono HBX.out.size)).trans (hB.mono (Nat.le_trans HBX.out.size HXV.out.size))⟩
end Go.Proofs.Yteomicjjaajblaa
