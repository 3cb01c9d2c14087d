import Derived.Test.YthhfcambdmdgfaaObd
namespace Go.Proofs.Ythhfcambdmdgfaa
open Go.RowKit Go.Maps
set_option linter.unusedVariables false
set_option linter.unusedSimpArgs false
def FitOut (w : World) (kk ks kn cls : ByteArray) (l : Res) (e : Ending) (w' : World) : Prop := ∃ f, e = .returned (.bool f) ∧ (f = true → (kk.size ≤ 200 ∧ ks.size ≤ 200 ∧ kn.size ≤ 200 ∧ cls.size ≤ 200 ∧ l.length ≤ 40 ∧ ∀ p ∈ l, p.1.size ≤ 200)) ∧ Below w.heap.size w w'
theorem fit_no {w w' : World} {kk ks kn cls : ByteArray} {l : Res} (h : Below w.heap.size w w') : FitOut w kk ks kn cls l (.returned (.bool false)) w' := ⟨false, rfl, (fun h => by cases h), h⟩
theorem fit_yes {w w' : World} {kk ks kn cls : ByteArray} {l : Res} (h : Below w.heap.size w w') (q : kk.size ≤ 200 ∧ ks.size ≤ 200 ∧ kn.size ≤ 200 ∧ cls.size ≤ 200 ∧ l.length ≤ 40 ∧ ∀ p ∈ l, p.1.size ≤ 200) : FitOut w kk ks kn cls l (.returned (.bool true)) w' := ⟨true, rfl, (fun _ => q), h⟩
set_option maxRecDepth 100000 in
set_option maxHeartbeats 8000000 in
theorem fits5_calls (w : World) {sl : Value} {o : ObjD} (h : ObjS w sl o) :
    Calls Try.prog 55 #[objV o sl] w (FitOut w o.key.kind o.key.space o.key.name o.cls o.charge) := by
  have H := Lib.hid h.1
  obtain ⟨al, cl, rfl⟩ := h.1.form
  clear h
  obtain ⟨l, hl⟩ : ∃ l, o.charge = l := ⟨_, rfl⟩
  unfold objV
  rw [hl] at H ⊢
  clear hl
  obtain ⟨⟨kk, ks, kn⟩, ver, cls, term, best, chg⟩ := o
  simp only
  go_enter Try.func55, Try.ntmps55
  go_upto_region 1 with fail
  first | with_reducible refine name_wp ?_ | with_reducible refine name_calls ?_
  intro W hWeq
  have g0 : W.heap[w.heap.size]? = some (.cells #[.string kk, .string ks, .string kn, .int .i64 ver, .string cls, .bool term, .bool best, .slice al l.length cl] 27) := by rw [hWeq]; repeat (first | (with_reducible exact blk_newAt _ _ (by simp)) | with_reducible refine blk_drew ?_ | with_reducible refine blk_dN ?_ _ | with_reducible refine blk_old ?_ _)
  have hw : Below w.heap.size w W := by rw [hWeq]; repeat (first | with_reducible exact Below.refl _ _ | with_reducible refine Below.drew ?_ | with_reducible refine bl_dN ?_ _ | with_reducible refine Below.alloc ?_ (by simp <;> omega) _)
  clear hWeq
  have hz : w.heap.size + 1 ≤ W.heap.size := by have := blk_lt g0; omega
  have c0_0 : W.cell? ⟨w.heap.size, 0, none⟩ = some (.string kk) := blk_cell g0 0
  have c0_1 : W.cell? ⟨w.heap.size, 1, none⟩ = some (.string ks) := blk_cell g0 1
  have c0_2 : W.cell? ⟨w.heap.size, 2, none⟩ = some (.string kn) := blk_cell g0 2
  have c0_3 : W.cell? ⟨w.heap.size, 3, none⟩ = some (.int .i64 ver) := blk_cell g0 3
  have c0_4 : W.cell? ⟨w.heap.size, 4, none⟩ = some (.string cls) := blk_cell g0 4
  have c0_5 : W.cell? ⟨w.heap.size, 5, none⟩ = some (.bool term) := blk_cell g0 5
  have c0_6 : W.cell? ⟨w.heap.size, 6, none⟩ = some (.bool best) := blk_cell g0 6
  have c0_7 : W.cell? ⟨w.heap.size, 7, none⟩ = some (.slice al l.length cl) := blk_cell g0 7
  have f0 : ∀ j, W.frozen? ⟨w.heap.size, j, none⟩ = false := blk_free g0
  have hB : Below W.heap.size W W := Below.refl _ _
  have G0 := Lib.hid g0; clear g0
  have F0 := Lib.hid f0; clear f0
  have Hw := Lib.hid hw; clear hw
  have HW := Lib.hid (H.out.below Hw.out)
  by_cases h_0 : kk.size ≤ 200
  · have i_0 : ¬ (200 : Int) < kk.size := by omega
    have j_0 : decide ((200 : Int) < kk.size) = false := decide_eq_false i_0
    by_cases h_1 : ks.size ≤ 200
    · have i_1 : ¬ (200 : Int) < ks.size := by omega
      have j_1 : decide ((200 : Int) < ks.size) = false := decide_eq_false i_1
      by_cases h_2 : kn.size ≤ 200
      · have i_2 : ¬ (200 : Int) < kn.size := by omega
        have j_2 : decide ((200 : Int) < kn.size) = false := decide_eq_false i_2
        by_cases h_3 : cls.size ≤ 200
        · have i_3 : ¬ (200 : Int) < cls.size := by omega
          have j_3 : decide ((200 : Int) < cls.size) = false := decide_eq_false i_3
          by_cases h_4 : l.length ≤ 40
          · have i_4 : ¬ (40 : Int) < l.length := by omega
            have j_4 : decide ((40 : Int) < l.length) = false := decide_eq_false i_4
            go_upto_region 3 with fail
            go_wp2_with fail
            go_loopw [3] (fun i wr => ∃ k : Nat, i = .int .i64 k ∧ k ≤ l.length ∧ Hid (∀ p ∈ l.take k, p.1.size ≤ 200) ∧ Below W.heap.size W wr) (fun i _ => l.length - (intOf i).toNat)
            case atStart => exact ⟨0, rfl, Nat.zero_le _, Lib.hid (by intro p hp; cases hp), hB⟩
            case round =>
              clear hB
              obtain ⟨k, rfl, hk, HR, hB⟩ := hrel
              have k7 := cb hB c0_7
              by_cases hkl : k < l.length
              · have hkI : (k : Int) < l.length := by omega
                obtain ⟨b, of, c, he, q0, q1, hin⟩ := HW.out.at' hkl
                cases he
                have q0 := cb hB q0
                have HSTEP := Lib.hid (show (l[k]'hkl).1.size ≤ 200 → ∀ p ∈ l.take (k + 1), p.1.size ≤ 200 from fun h p hp => by
                  rw [List.take_succ_eq_append_getElem hkl] at hp
                  rcases List.mem_append.1 hp with h9 | h9
                  · exact HR.out p h9
                  · obtain rfl := List.mem_singleton.1 h9; exact h)
                clear hin q1
                obtain ⟨p, hp⟩ : ∃ p, l[k]'hkl = p := ⟨_, rfl⟩
                rw [hp] at q0 HSTEP
                clear hp
                by_cases hz : p.1.size ≤ 200
                · have hzI : ¬ (200 : Int) < p.1.size := by omega
                  have hzJ : decide ((200 : Int) < p.1.size) = false := decide_eq_false hzI
                  have HOK := Lib.hid (HSTEP.out hz)
                  go_wp2_with fail
                  go_roundw
                  case rel => exact ⟨k + 1, by simp, by omega, HOK, hB⟩
                  case measure => simp [intOf]; omega
                · have hzI : (200 : Int) < p.1.size := by omega
                  have hzJ : decide ((200 : Int) < p.1.size) = true := decide_eq_true hzI
                  go_wp2_with fail
                  go_ret
                  exact fit_no (bl_from Hw.out hB)
              · obtain rfl : k = l.length := by omega
                have hR := HR.out
                rw [List.take_length] at hR
                have HR2 := Lib.hid hR
                clear hR
                go_wp2_with fail
                go_ret
                exact fit_yes (bl_from Hw.out hB) ⟨h_0, h_1, h_2, h_3, h_4, HR2.out⟩
          · have i_4 : (40 : Int) < l.length := by omega
            have j_4 : decide ((40 : Int) < l.length) = true := decide_eq_true i_4
            go_wp2_with fail
            go_ret
            exact fit_no Hw.out
        · have i_3 : (200 : Int) < cls.size := by omega
          have j_3 : decide ((200 : Int) < cls.size) = true := decide_eq_true i_3
          go_wp2_with fail
          go_ret
          exact fit_no Hw.out
      · have i_2 : (200 : Int) < kn.size := by omega
        have j_2 : decide ((200 : Int) < kn.size) = true := decide_eq_true i_2
        go_wp2_with fail
        go_ret
        exact fit_no Hw.out
    · have i_1 : (200 : Int) < ks.size := by omega
      have j_1 : decide ((200 : Int) < ks.size) = true := decide_eq_true i_1
      go_wp2_with fail
      go_ret
      exact fit_no Hw.out
  · have i_0 : (200 : Int) < kk.size := by omega
    have j_0 : decide ((200 : Int) < kk.size) = true := decide_eq_true i_0
    go_wp2_with fail
    go_ret
    exact fit_no Hw.out
end Go.Proofs.Ythhfcambdmdgfaa
