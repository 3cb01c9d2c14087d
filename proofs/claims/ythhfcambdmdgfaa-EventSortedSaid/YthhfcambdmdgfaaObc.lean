import Derived.Test.YthhfcambdmdgfaaObb
import Derived.Test.YthhfcambdmdgfaaOb0
namespace Go.Proofs.Ythhfcambdmdgfaa
open Go.RowKit Go.Maps
set_option linter.unusedVariables false
set_option linter.unusedSimpArgs false
def alikeO (a b : ObjD) : Bool := decide (a.key.kind = b.key.kind) && decide (a.key.space = b.key.space) && decide (a.key.name = b.key.name) && decide (a.cls = b.cls) && (a.term == b.term) && (a.best == b.best) && decide (a.charge = b.charge)
def sameO (a b : ObjD) : Bool := alikeO a b && decide (a.ver = b.ver)
theorem objD_ext {a b : ObjD} (h : sameO a b = true) : a = b := by
  unfold sameO alikeO at h
  simp only [Bool.and_eq_true, decide_eq_true_eq, beq_iff_eq] at h
  obtain ⟨⟨⟨⟨⟨⟨⟨h1, h2⟩, h3⟩, h4⟩, h5⟩, h6⟩, h7⟩, h8⟩ := h
  obtain ⟨ka, va, ca, ta, ba, la⟩ := a
  obtain ⟨kb, vb, cb, tb, bb, lb⟩ := b
  simp only at h1 h2 h3 h4 h5 h6 h7 h8
  rw [keyD_ext h1 h2 h3, h4, h5, h6, h7, h8]
theorem sameO_refl (a : ObjD) : sameO a a = true := by unfold sameO alikeO; simp
set_option maxRecDepth 100000 in
set_option maxHeartbeats 16000000 in
theorem oalike_calls (w : World) {sa sb : Value} {a b : ObjD} (ha : ObjS w sa a) (hb : ObjS w sb b) (hl : a.charge.length ≤ 1000000 ∧ b.charge.length ≤ 1000000) :
    Calls Try.prog 87 #[objV a sa, objV b sb] w fun e w' => e = .returned (.bool (alikeO a b)) ∧ Below w.heap.size w w' := by
  have HA := Lib.hid ha.1; have HB := Lib.hid hb.1
  obtain ⟨aa, ca, rfl⟩ := ha.1.form
  obtain ⟨ab, cb', rfl⟩ := hb.1.form
  obtain ⟨hl1, hl2⟩ := hl
  obtain ⟨la, hla⟩ : ∃ l, a.charge = l := ⟨_, rfl⟩
  obtain ⟨lb, hlb⟩ : ∃ l, b.charge = l := ⟨_, rfl⟩
  obtain ⟨kka, hka⟩ : ∃ s, a.key.kind = s := ⟨_, rfl⟩
  obtain ⟨kkb, hkb⟩ : ∃ s, b.key.kind = s := ⟨_, rfl⟩
  obtain ⟨ksa, hsa⟩ : ∃ s, a.key.space = s := ⟨_, rfl⟩
  obtain ⟨ksb, hsb⟩ : ∃ s, b.key.space = s := ⟨_, rfl⟩
  obtain ⟨kna, hna⟩ : ∃ s, a.key.name = s := ⟨_, rfl⟩
  obtain ⟨knb, hnb⟩ : ∃ s, b.key.name = s := ⟨_, rfl⟩
  obtain ⟨clsa, hca⟩ : ∃ s, a.cls = s := ⟨_, rfl⟩
  obtain ⟨clsb, hcb⟩ : ∃ s, b.cls = s := ⟨_, rfl⟩
  obtain ⟨terma, hta⟩ : ∃ s, a.term = s := ⟨_, rfl⟩
  obtain ⟨termb, htb⟩ : ∃ s, b.term = s := ⟨_, rfl⟩
  obtain ⟨besta, hba⟩ : ∃ s, a.best = s := ⟨_, rfl⟩
  obtain ⟨bestb, hbb⟩ : ∃ s, b.best = s := ⟨_, rfl⟩
  obtain ⟨vera, hva⟩ : ∃ s, a.ver = s := ⟨_, rfl⟩
  obtain ⟨verb, hvb⟩ : ∃ s, b.ver = s := ⟨_, rfl⟩
  have HAL : Hid (alikeO a b = (decide (kka = kkb) && decide (ksa = ksb) && decide (kna = knb) && decide (clsa = clsb) && (terma == termb) && (besta == bestb) && decide (la = lb))) := Lib.hid (by unfold alikeO; rw [hla, hlb, hka, hkb, hsa, hsb, hna, hnb, hca, hcb, hta, htb, hba, hbb])
  unfold objV
  rw [hla] at HA hl1
  rw [hlb] at HB hl2
  rw [hla, hlb, hka, hkb, hsa, hsb, hna, hnb, hca, hcb, hta, htb, hba, hbb, hva, hvb]
  clear ha hb hla hlb hka hkb hsa hsb hna hnb hca hcb hta htb hba hbb hva hvb
  go_enter Try.func87, Try.ntmps87
  go_upto_region 1 with fail
  first | with_reducible refine name_wp ?_ | with_reducible refine name_calls ?_
  intro W hWeq
  have g0 : W.heap[w.heap.size]? = some (.cells #[.string kka, .string ksa, .string kna, .int .i64 vera, .string clsa, .bool terma, .bool besta, .slice aa la.length ca] 27) := by rw [hWeq]; repeat (first | (with_reducible exact blk_newAt _ _ (by simp)) | with_reducible refine blk_drew ?_ | with_reducible refine blk_dN ?_ _ | with_reducible refine blk_old ?_ _)
  have g1 : W.heap[w.heap.size + 1]? = some (.cells #[.string kkb, .string ksb, .string knb, .int .i64 verb, .string clsb, .bool termb, .bool bestb, .slice ab lb.length cb'] 27) := by rw [hWeq]; repeat (first | (with_reducible exact blk_newAt _ _ (by simp)) | with_reducible refine blk_drew ?_ | with_reducible refine blk_dN ?_ _ | with_reducible refine blk_old ?_ _)
  have hw : Below w.heap.size w W := by rw [hWeq]; repeat (first | with_reducible exact Below.refl _ _ | with_reducible refine Below.drew ?_ | with_reducible refine bl_dN ?_ _ | with_reducible refine Below.alloc ?_ (by simp <;> omega) _)
  clear hWeq
  have hz : w.heap.size + 2 ≤ W.heap.size := by have := blk_lt g1; omega
  have c0_0 : W.cell? ⟨w.heap.size, 0, none⟩ = some (.string kka) := blk_cell g0 0
  have c0_1 : W.cell? ⟨w.heap.size, 1, none⟩ = some (.string ksa) := blk_cell g0 1
  have c0_2 : W.cell? ⟨w.heap.size, 2, none⟩ = some (.string kna) := blk_cell g0 2
  have c0_3 : W.cell? ⟨w.heap.size, 3, none⟩ = some (.int .i64 vera) := blk_cell g0 3
  have c0_4 : W.cell? ⟨w.heap.size, 4, none⟩ = some (.string clsa) := blk_cell g0 4
  have c0_5 : W.cell? ⟨w.heap.size, 5, none⟩ = some (.bool terma) := blk_cell g0 5
  have c0_6 : W.cell? ⟨w.heap.size, 6, none⟩ = some (.bool besta) := blk_cell g0 6
  have c0_7 : W.cell? ⟨w.heap.size, 7, none⟩ = some (.slice aa la.length ca) := blk_cell g0 7
  have f0 : ∀ j, W.frozen? ⟨w.heap.size, j, none⟩ = false := blk_free g0
  have c1_0 : W.cell? ⟨w.heap.size + 1, 0, none⟩ = some (.string kkb) := blk_cell g1 0
  have c1_1 : W.cell? ⟨w.heap.size + 1, 1, none⟩ = some (.string ksb) := blk_cell g1 1
  have c1_2 : W.cell? ⟨w.heap.size + 1, 2, none⟩ = some (.string knb) := blk_cell g1 2
  have c1_3 : W.cell? ⟨w.heap.size + 1, 3, none⟩ = some (.int .i64 verb) := blk_cell g1 3
  have c1_4 : W.cell? ⟨w.heap.size + 1, 4, none⟩ = some (.string clsb) := blk_cell g1 4
  have c1_5 : W.cell? ⟨w.heap.size + 1, 5, none⟩ = some (.bool termb) := blk_cell g1 5
  have c1_6 : W.cell? ⟨w.heap.size + 1, 6, none⟩ = some (.bool bestb) := blk_cell g1 6
  have c1_7 : W.cell? ⟨w.heap.size + 1, 7, none⟩ = some (.slice ab lb.length cb') := blk_cell g1 7
  have f1 : ∀ j, W.frozen? ⟨w.heap.size + 1, j, none⟩ = false := blk_free g1
  have hB : Below W.heap.size W W := Below.refl _ _
  have G0 := Lib.hid g0; clear g0
  have F0 := Lib.hid f0; clear f0
  have G1 := Lib.hid g1; clear g1
  have F1 := Lib.hid f1; clear f1
  have Hw := Lib.hid hw; clear hw
  have HWa := Lib.hid (HA.out.below Hw.out); have HWb := Lib.hid (HB.out.below Hw.out)
  by_cases h_kk : kka = kkb
  · subst h_kk
    by_cases h_ks : ksa = ksb
    · subst h_ks
      by_cases h_kn : kna = knb
      · subst h_kn
        by_cases h_cls : clsa = clsb
        · subst h_cls
          cases terma with
          | true =>
            cases termb with
            | true =>
              cases besta with
              | true =>
                cases bestb with
                | true =>
                  have HE := Lib.hid (show alikeO a b = decide (la = lb) by rw [HAL.out]; simp)
                  go_wp2_with (go_at_call 106; refine (req_calls _ (HWa.out.below hB) (HWb.out.below hB) (by omega) (by omega)).mono ?_; rintro e w' ⟨rfl, hb⟩; have hB := bl_next hB hb; clear hb; have k0_0 := cb hB c0_0; have k0_1 := cb hB c0_1; have k0_2 := cb hB c0_2; have k0_3 := cb hB c0_3; have k0_4 := cb hB c0_4; have k0_5 := cb hB c0_5; have k0_6 := cb hB c0_6; have k0_7 := cb hB c0_7; have k1_0 := cb hB c1_0; have k1_1 := cb hB c1_1; have k1_2 := cb hB c1_2; have k1_3 := cb hB c1_3; have k1_4 := cb hB c1_4; have k1_5 := cb hB c1_5; have k1_6 := cb hB c1_6; have k1_7 := cb hB c1_7)
                  go_ret
                  exact ⟨ret_bool HE.out.symm, bl_from Hw.out hB⟩
                | false =>
                  have HE := Lib.hid (show alikeO a b = false by rw [HAL.out]; simp)
                  go_wp2_with (go_at_call 106; refine (req_calls _ (HWa.out.below hB) (HWb.out.below hB) (by omega) (by omega)).mono ?_; rintro e w' ⟨rfl, hb⟩; have hB := bl_next hB hb; clear hb; have k0_0 := cb hB c0_0; have k0_1 := cb hB c0_1; have k0_2 := cb hB c0_2; have k0_3 := cb hB c0_3; have k0_4 := cb hB c0_4; have k0_5 := cb hB c0_5; have k0_6 := cb hB c0_6; have k0_7 := cb hB c0_7; have k1_0 := cb hB c1_0; have k1_1 := cb hB c1_1; have k1_2 := cb hB c1_2; have k1_3 := cb hB c1_3; have k1_4 := cb hB c1_4; have k1_5 := cb hB c1_5; have k1_6 := cb hB c1_6; have k1_7 := cb hB c1_7)
                  go_ret
                  exact ⟨ret_bool HE.out.symm, bl_from Hw.out hB⟩
              | false =>
                cases bestb with
                | true =>
                  have HE := Lib.hid (show alikeO a b = false by rw [HAL.out]; simp)
                  go_wp2_with (go_at_call 106; refine (req_calls _ (HWa.out.below hB) (HWb.out.below hB) (by omega) (by omega)).mono ?_; rintro e w' ⟨rfl, hb⟩; have hB := bl_next hB hb; clear hb; have k0_0 := cb hB c0_0; have k0_1 := cb hB c0_1; have k0_2 := cb hB c0_2; have k0_3 := cb hB c0_3; have k0_4 := cb hB c0_4; have k0_5 := cb hB c0_5; have k0_6 := cb hB c0_6; have k0_7 := cb hB c0_7; have k1_0 := cb hB c1_0; have k1_1 := cb hB c1_1; have k1_2 := cb hB c1_2; have k1_3 := cb hB c1_3; have k1_4 := cb hB c1_4; have k1_5 := cb hB c1_5; have k1_6 := cb hB c1_6; have k1_7 := cb hB c1_7)
                  go_ret
                  exact ⟨ret_bool HE.out.symm, bl_from Hw.out hB⟩
                | false =>
                  have HE := Lib.hid (show alikeO a b = decide (la = lb) by rw [HAL.out]; simp)
                  go_wp2_with (go_at_call 106; refine (req_calls _ (HWa.out.below hB) (HWb.out.below hB) (by omega) (by omega)).mono ?_; rintro e w' ⟨rfl, hb⟩; have hB := bl_next hB hb; clear hb; have k0_0 := cb hB c0_0; have k0_1 := cb hB c0_1; have k0_2 := cb hB c0_2; have k0_3 := cb hB c0_3; have k0_4 := cb hB c0_4; have k0_5 := cb hB c0_5; have k0_6 := cb hB c0_6; have k0_7 := cb hB c0_7; have k1_0 := cb hB c1_0; have k1_1 := cb hB c1_1; have k1_2 := cb hB c1_2; have k1_3 := cb hB c1_3; have k1_4 := cb hB c1_4; have k1_5 := cb hB c1_5; have k1_6 := cb hB c1_6; have k1_7 := cb hB c1_7)
                  go_ret
                  exact ⟨ret_bool HE.out.symm, bl_from Hw.out hB⟩
            | false =>
              have HE := Lib.hid (show alikeO a b = false by rw [HAL.out]; simp)
              go_wp2_with (go_at_call 106; refine (req_calls _ (HWa.out.below hB) (HWb.out.below hB) (by omega) (by omega)).mono ?_; rintro e w' ⟨rfl, hb⟩; have hB := bl_next hB hb; clear hb; have k0_0 := cb hB c0_0; have k0_1 := cb hB c0_1; have k0_2 := cb hB c0_2; have k0_3 := cb hB c0_3; have k0_4 := cb hB c0_4; have k0_5 := cb hB c0_5; have k0_6 := cb hB c0_6; have k0_7 := cb hB c0_7; have k1_0 := cb hB c1_0; have k1_1 := cb hB c1_1; have k1_2 := cb hB c1_2; have k1_3 := cb hB c1_3; have k1_4 := cb hB c1_4; have k1_5 := cb hB c1_5; have k1_6 := cb hB c1_6; have k1_7 := cb hB c1_7)
              go_ret
              exact ⟨ret_bool HE.out.symm, bl_from Hw.out hB⟩
          | false =>
            cases termb with
            | true =>
              have HE := Lib.hid (show alikeO a b = false by rw [HAL.out]; simp)
              go_wp2_with (go_at_call 106; refine (req_calls _ (HWa.out.below hB) (HWb.out.below hB) (by omega) (by omega)).mono ?_; rintro e w' ⟨rfl, hb⟩; have hB := bl_next hB hb; clear hb; have k0_0 := cb hB c0_0; have k0_1 := cb hB c0_1; have k0_2 := cb hB c0_2; have k0_3 := cb hB c0_3; have k0_4 := cb hB c0_4; have k0_5 := cb hB c0_5; have k0_6 := cb hB c0_6; have k0_7 := cb hB c0_7; have k1_0 := cb hB c1_0; have k1_1 := cb hB c1_1; have k1_2 := cb hB c1_2; have k1_3 := cb hB c1_3; have k1_4 := cb hB c1_4; have k1_5 := cb hB c1_5; have k1_6 := cb hB c1_6; have k1_7 := cb hB c1_7)
              go_ret
              exact ⟨ret_bool HE.out.symm, bl_from Hw.out hB⟩
            | false =>
              cases besta with
              | true =>
                cases bestb with
                | true =>
                  have HE := Lib.hid (show alikeO a b = decide (la = lb) by rw [HAL.out]; simp)
                  go_wp2_with (go_at_call 106; refine (req_calls _ (HWa.out.below hB) (HWb.out.below hB) (by omega) (by omega)).mono ?_; rintro e w' ⟨rfl, hb⟩; have hB := bl_next hB hb; clear hb; have k0_0 := cb hB c0_0; have k0_1 := cb hB c0_1; have k0_2 := cb hB c0_2; have k0_3 := cb hB c0_3; have k0_4 := cb hB c0_4; have k0_5 := cb hB c0_5; have k0_6 := cb hB c0_6; have k0_7 := cb hB c0_7; have k1_0 := cb hB c1_0; have k1_1 := cb hB c1_1; have k1_2 := cb hB c1_2; have k1_3 := cb hB c1_3; have k1_4 := cb hB c1_4; have k1_5 := cb hB c1_5; have k1_6 := cb hB c1_6; have k1_7 := cb hB c1_7)
                  go_ret
                  exact ⟨ret_bool HE.out.symm, bl_from Hw.out hB⟩
                | false =>
                  have HE := Lib.hid (show alikeO a b = false by rw [HAL.out]; simp)
                  go_wp2_with (go_at_call 106; refine (req_calls _ (HWa.out.below hB) (HWb.out.below hB) (by omega) (by omega)).mono ?_; rintro e w' ⟨rfl, hb⟩; have hB := bl_next hB hb; clear hb; have k0_0 := cb hB c0_0; have k0_1 := cb hB c0_1; have k0_2 := cb hB c0_2; have k0_3 := cb hB c0_3; have k0_4 := cb hB c0_4; have k0_5 := cb hB c0_5; have k0_6 := cb hB c0_6; have k0_7 := cb hB c0_7; have k1_0 := cb hB c1_0; have k1_1 := cb hB c1_1; have k1_2 := cb hB c1_2; have k1_3 := cb hB c1_3; have k1_4 := cb hB c1_4; have k1_5 := cb hB c1_5; have k1_6 := cb hB c1_6; have k1_7 := cb hB c1_7)
                  go_ret
                  exact ⟨ret_bool HE.out.symm, bl_from Hw.out hB⟩
              | false =>
                cases bestb with
                | true =>
                  have HE := Lib.hid (show alikeO a b = false by rw [HAL.out]; simp)
                  go_wp2_with (go_at_call 106; refine (req_calls _ (HWa.out.below hB) (HWb.out.below hB) (by omega) (by omega)).mono ?_; rintro e w' ⟨rfl, hb⟩; have hB := bl_next hB hb; clear hb; have k0_0 := cb hB c0_0; have k0_1 := cb hB c0_1; have k0_2 := cb hB c0_2; have k0_3 := cb hB c0_3; have k0_4 := cb hB c0_4; have k0_5 := cb hB c0_5; have k0_6 := cb hB c0_6; have k0_7 := cb hB c0_7; have k1_0 := cb hB c1_0; have k1_1 := cb hB c1_1; have k1_2 := cb hB c1_2; have k1_3 := cb hB c1_3; have k1_4 := cb hB c1_4; have k1_5 := cb hB c1_5; have k1_6 := cb hB c1_6; have k1_7 := cb hB c1_7)
                  go_ret
                  exact ⟨ret_bool HE.out.symm, bl_from Hw.out hB⟩
                | false =>
                  have HE := Lib.hid (show alikeO a b = decide (la = lb) by rw [HAL.out]; simp)
                  go_wp2_with (go_at_call 106; refine (req_calls _ (HWa.out.below hB) (HWb.out.below hB) (by omega) (by omega)).mono ?_; rintro e w' ⟨rfl, hb⟩; have hB := bl_next hB hb; clear hb; have k0_0 := cb hB c0_0; have k0_1 := cb hB c0_1; have k0_2 := cb hB c0_2; have k0_3 := cb hB c0_3; have k0_4 := cb hB c0_4; have k0_5 := cb hB c0_5; have k0_6 := cb hB c0_6; have k0_7 := cb hB c0_7; have k1_0 := cb hB c1_0; have k1_1 := cb hB c1_1; have k1_2 := cb hB c1_2; have k1_3 := cb hB c1_3; have k1_4 := cb hB c1_4; have k1_5 := cb hB c1_5; have k1_6 := cb hB c1_6; have k1_7 := cb hB c1_7)
                  go_ret
                  exact ⟨ret_bool HE.out.symm, bl_from Hw.out hB⟩
        · have HE := Lib.hid (show alikeO a b = false by rw [HAL.out]; simp [h_cls])
          have hbf := beqF h_cls
          have hbn := neF h_cls
          clear h_cls
          go_wp2_with (go_at_call 106; refine (req_calls _ (HWa.out.below hB) (HWb.out.below hB) (by omega) (by omega)).mono ?_; rintro e w' ⟨rfl, hb⟩; have hB := bl_next hB hb; clear hb; have k0_0 := cb hB c0_0; have k0_1 := cb hB c0_1; have k0_2 := cb hB c0_2; have k0_3 := cb hB c0_3; have k0_4 := cb hB c0_4; have k0_5 := cb hB c0_5; have k0_6 := cb hB c0_6; have k0_7 := cb hB c0_7; have k1_0 := cb hB c1_0; have k1_1 := cb hB c1_1; have k1_2 := cb hB c1_2; have k1_3 := cb hB c1_3; have k1_4 := cb hB c1_4; have k1_5 := cb hB c1_5; have k1_6 := cb hB c1_6; have k1_7 := cb hB c1_7)
          go_ret
          exact ⟨ret_bool HE.out.symm, bl_from Hw.out hB⟩
      · have HE := Lib.hid (show alikeO a b = false by rw [HAL.out]; simp [h_kn])
        have hbf := beqF h_kn
        have hbn := neF h_kn
        clear h_kn
        go_wp2_with (go_at_call 106; refine (req_calls _ (HWa.out.below hB) (HWb.out.below hB) (by omega) (by omega)).mono ?_; rintro e w' ⟨rfl, hb⟩; have hB := bl_next hB hb; clear hb; have k0_0 := cb hB c0_0; have k0_1 := cb hB c0_1; have k0_2 := cb hB c0_2; have k0_3 := cb hB c0_3; have k0_4 := cb hB c0_4; have k0_5 := cb hB c0_5; have k0_6 := cb hB c0_6; have k0_7 := cb hB c0_7; have k1_0 := cb hB c1_0; have k1_1 := cb hB c1_1; have k1_2 := cb hB c1_2; have k1_3 := cb hB c1_3; have k1_4 := cb hB c1_4; have k1_5 := cb hB c1_5; have k1_6 := cb hB c1_6; have k1_7 := cb hB c1_7)
        go_ret
        exact ⟨ret_bool HE.out.symm, bl_from Hw.out hB⟩
    · have HE := Lib.hid (show alikeO a b = false by rw [HAL.out]; simp [h_ks])
      have hbf := beqF h_ks
      have hbn := neF h_ks
      clear h_ks
      go_wp2_with (go_at_call 106; refine (req_calls _ (HWa.out.below hB) (HWb.out.below hB) (by omega) (by omega)).mono ?_; rintro e w' ⟨rfl, hb⟩; have hB := bl_next hB hb; clear hb; have k0_0 := cb hB c0_0; have k0_1 := cb hB c0_1; have k0_2 := cb hB c0_2; have k0_3 := cb hB c0_3; have k0_4 := cb hB c0_4; have k0_5 := cb hB c0_5; have k0_6 := cb hB c0_6; have k0_7 := cb hB c0_7; have k1_0 := cb hB c1_0; have k1_1 := cb hB c1_1; have k1_2 := cb hB c1_2; have k1_3 := cb hB c1_3; have k1_4 := cb hB c1_4; have k1_5 := cb hB c1_5; have k1_6 := cb hB c1_6; have k1_7 := cb hB c1_7)
      go_ret
      exact ⟨ret_bool HE.out.symm, bl_from Hw.out hB⟩
  · have HE := Lib.hid (show alikeO a b = false by rw [HAL.out]; simp [h_kk])
    have hbf := beqF h_kk
    have hbn := neF h_kk
    clear h_kk
    go_wp2_with (go_at_call 106; refine (req_calls _ (HWa.out.below hB) (HWb.out.below hB) (by omega) (by omega)).mono ?_; rintro e w' ⟨rfl, hb⟩; have hB := bl_next hB hb; clear hb; have k0_0 := cb hB c0_0; have k0_1 := cb hB c0_1; have k0_2 := cb hB c0_2; have k0_3 := cb hB c0_3; have k0_4 := cb hB c0_4; have k0_5 := cb hB c0_5; have k0_6 := cb hB c0_6; have k0_7 := cb hB c0_7; have k1_0 := cb hB c1_0; have k1_1 := cb hB c1_1; have k1_2 := cb hB c1_2; have k1_3 := cb hB c1_3; have k1_4 := cb hB c1_4; have k1_5 := cb hB c1_5; have k1_6 := cb hB c1_6; have k1_7 := cb hB c1_7)
    go_ret
    exact ⟨ret_bool HE.out.symm, bl_from Hw.out hB⟩
set_option maxRecDepth 100000 in
set_option maxHeartbeats 16000000 in
theorem roalike_calls (w : World) {sa sb : Value} {a b : ObjD} (ha : ObjS w sa a) (hb : ObjS w sb b) (hl : a.charge.length ≤ 1000000 ∧ b.charge.length ≤ 1000000) :
    Calls Try.prog 65 #[objV a sa, objV b sb] w fun e w' => e = .returned (.bool (alikeO a b)) ∧ Below w.heap.size w w' := by
  have HA := Lib.hid ha.1; have HB := Lib.hid hb.1
  obtain ⟨aa, ca, rfl⟩ := ha.1.form
  obtain ⟨ab, cb', rfl⟩ := hb.1.form
  obtain ⟨hl1, hl2⟩ := hl
  obtain ⟨la, hla⟩ : ∃ l, a.charge = l := ⟨_, rfl⟩
  obtain ⟨lb, hlb⟩ : ∃ l, b.charge = l := ⟨_, rfl⟩
  obtain ⟨kka, hka⟩ : ∃ s, a.key.kind = s := ⟨_, rfl⟩
  obtain ⟨kkb, hkb⟩ : ∃ s, b.key.kind = s := ⟨_, rfl⟩
  obtain ⟨ksa, hsa⟩ : ∃ s, a.key.space = s := ⟨_, rfl⟩
  obtain ⟨ksb, hsb⟩ : ∃ s, b.key.space = s := ⟨_, rfl⟩
  obtain ⟨kna, hna⟩ : ∃ s, a.key.name = s := ⟨_, rfl⟩
  obtain ⟨knb, hnb⟩ : ∃ s, b.key.name = s := ⟨_, rfl⟩
  obtain ⟨clsa, hca⟩ : ∃ s, a.cls = s := ⟨_, rfl⟩
  obtain ⟨clsb, hcb⟩ : ∃ s, b.cls = s := ⟨_, rfl⟩
  obtain ⟨terma, hta⟩ : ∃ s, a.term = s := ⟨_, rfl⟩
  obtain ⟨termb, htb⟩ : ∃ s, b.term = s := ⟨_, rfl⟩
  obtain ⟨besta, hba⟩ : ∃ s, a.best = s := ⟨_, rfl⟩
  obtain ⟨bestb, hbb⟩ : ∃ s, b.best = s := ⟨_, rfl⟩
  obtain ⟨vera, hva⟩ : ∃ s, a.ver = s := ⟨_, rfl⟩
  obtain ⟨verb, hvb⟩ : ∃ s, b.ver = s := ⟨_, rfl⟩
  have HAL : Hid (alikeO a b = (decide (kka = kkb) && decide (ksa = ksb) && decide (kna = knb) && decide (clsa = clsb) && (terma == termb) && (besta == bestb) && decide (la = lb))) := Lib.hid (by unfold alikeO; rw [hla, hlb, hka, hkb, hsa, hsb, hna, hnb, hca, hcb, hta, htb, hba, hbb])
  unfold objV
  rw [hla] at HA hl1
  rw [hlb] at HB hl2
  rw [hla, hlb, hka, hkb, hsa, hsb, hna, hnb, hca, hcb, hta, htb, hba, hbb, hva, hvb]
  clear ha hb hla hlb hka hkb hsa hsb hna hnb hca hcb hta htb hba hbb hva hvb
  go_enter Try.func65, Try.ntmps65
  go_upto_region 1 with fail
  first | with_reducible refine name_wp ?_ | with_reducible refine name_calls ?_
  intro W hWeq
  have g0 : W.heap[w.heap.size]? = some (.cells #[.string kka, .string ksa, .string kna, .int .i64 vera, .string clsa, .bool terma, .bool besta, .slice aa la.length ca] 27) := by rw [hWeq]; repeat (first | (with_reducible exact blk_newAt _ _ (by simp)) | with_reducible refine blk_drew ?_ | with_reducible refine blk_dN ?_ _ | with_reducible refine blk_old ?_ _)
  have g1 : W.heap[w.heap.size + 1]? = some (.cells #[.string kkb, .string ksb, .string knb, .int .i64 verb, .string clsb, .bool termb, .bool bestb, .slice ab lb.length cb'] 27) := by rw [hWeq]; repeat (first | (with_reducible exact blk_newAt _ _ (by simp)) | with_reducible refine blk_drew ?_ | with_reducible refine blk_dN ?_ _ | with_reducible refine blk_old ?_ _)
  have hw : Below w.heap.size w W := by rw [hWeq]; repeat (first | with_reducible exact Below.refl _ _ | with_reducible refine Below.drew ?_ | with_reducible refine bl_dN ?_ _ | with_reducible refine Below.alloc ?_ (by simp <;> omega) _)
  clear hWeq
  have hz : w.heap.size + 2 ≤ W.heap.size := by have := blk_lt g1; omega
  have c0_0 : W.cell? ⟨w.heap.size, 0, none⟩ = some (.string kka) := blk_cell g0 0
  have c0_1 : W.cell? ⟨w.heap.size, 1, none⟩ = some (.string ksa) := blk_cell g0 1
  have c0_2 : W.cell? ⟨w.heap.size, 2, none⟩ = some (.string kna) := blk_cell g0 2
  have c0_3 : W.cell? ⟨w.heap.size, 3, none⟩ = some (.int .i64 vera) := blk_cell g0 3
  have c0_4 : W.cell? ⟨w.heap.size, 4, none⟩ = some (.string clsa) := blk_cell g0 4
  have c0_5 : W.cell? ⟨w.heap.size, 5, none⟩ = some (.bool terma) := blk_cell g0 5
  have c0_6 : W.cell? ⟨w.heap.size, 6, none⟩ = some (.bool besta) := blk_cell g0 6
  have c0_7 : W.cell? ⟨w.heap.size, 7, none⟩ = some (.slice aa la.length ca) := blk_cell g0 7
  have f0 : ∀ j, W.frozen? ⟨w.heap.size, j, none⟩ = false := blk_free g0
  have c1_0 : W.cell? ⟨w.heap.size + 1, 0, none⟩ = some (.string kkb) := blk_cell g1 0
  have c1_1 : W.cell? ⟨w.heap.size + 1, 1, none⟩ = some (.string ksb) := blk_cell g1 1
  have c1_2 : W.cell? ⟨w.heap.size + 1, 2, none⟩ = some (.string knb) := blk_cell g1 2
  have c1_3 : W.cell? ⟨w.heap.size + 1, 3, none⟩ = some (.int .i64 verb) := blk_cell g1 3
  have c1_4 : W.cell? ⟨w.heap.size + 1, 4, none⟩ = some (.string clsb) := blk_cell g1 4
  have c1_5 : W.cell? ⟨w.heap.size + 1, 5, none⟩ = some (.bool termb) := blk_cell g1 5
  have c1_6 : W.cell? ⟨w.heap.size + 1, 6, none⟩ = some (.bool bestb) := blk_cell g1 6
  have c1_7 : W.cell? ⟨w.heap.size + 1, 7, none⟩ = some (.slice ab lb.length cb') := blk_cell g1 7
  have f1 : ∀ j, W.frozen? ⟨w.heap.size + 1, j, none⟩ = false := blk_free g1
  have hB : Below W.heap.size W W := Below.refl _ _
  have G0 := Lib.hid g0; clear g0
  have F0 := Lib.hid f0; clear f0
  have G1 := Lib.hid g1; clear g1
  have F1 := Lib.hid f1; clear f1
  have Hw := Lib.hid hw; clear hw
  have HWa := Lib.hid (HA.out.below Hw.out); have HWb := Lib.hid (HB.out.below Hw.out)
  by_cases hch : la = lb
  · have HCH := Lib.hid (show decide (la = lb) = true from decide_eq_true hch)
    clear hch
    by_cases h_kk : kka = kkb
    · subst h_kk
      by_cases h_ks : ksa = ksb
      · subst h_ks
        by_cases h_kn : kna = knb
        · subst h_kn
          by_cases h_cls : clsa = clsb
          · subst h_cls
            cases terma with
            | true =>
              cases termb with
              | true =>
                cases besta with
                | true =>
                  cases bestb with
                  | true =>
                    have HE := Lib.hid (show alikeO a b = true by rw [HAL.out, HCH.out]; simp)
                    go_wp2_with (go_at_call 88; refine (rres_calls _ (HWa.out.below hB) (HWb.out.below hB) (by omega) (by omega)).mono ?_; rintro e w' ⟨rfl, hb⟩; rw [HCH.out]; have hB := bl_next hB hb; clear hb; have k0_0 := cb hB c0_0; have k0_1 := cb hB c0_1; have k0_2 := cb hB c0_2; have k0_3 := cb hB c0_3; have k0_4 := cb hB c0_4; have k0_5 := cb hB c0_5; have k0_6 := cb hB c0_6; have k0_7 := cb hB c0_7; have k1_0 := cb hB c1_0; have k1_1 := cb hB c1_1; have k1_2 := cb hB c1_2; have k1_3 := cb hB c1_3; have k1_4 := cb hB c1_4; have k1_5 := cb hB c1_5; have k1_6 := cb hB c1_6; have k1_7 := cb hB c1_7)
                    go_ret
                    exact ⟨ret_bool HE.out.symm, bl_from Hw.out hB⟩
                  | false =>
                    have HE := Lib.hid (show alikeO a b = false by rw [HAL.out]; simp)
                    go_wp2_with (go_at_call 88; refine (rres_calls _ (HWa.out.below hB) (HWb.out.below hB) (by omega) (by omega)).mono ?_; rintro e w' ⟨rfl, hb⟩; rw [HCH.out]; have hB := bl_next hB hb; clear hb; have k0_0 := cb hB c0_0; have k0_1 := cb hB c0_1; have k0_2 := cb hB c0_2; have k0_3 := cb hB c0_3; have k0_4 := cb hB c0_4; have k0_5 := cb hB c0_5; have k0_6 := cb hB c0_6; have k0_7 := cb hB c0_7; have k1_0 := cb hB c1_0; have k1_1 := cb hB c1_1; have k1_2 := cb hB c1_2; have k1_3 := cb hB c1_3; have k1_4 := cb hB c1_4; have k1_5 := cb hB c1_5; have k1_6 := cb hB c1_6; have k1_7 := cb hB c1_7)
                    go_ret
                    exact ⟨ret_bool HE.out.symm, bl_from Hw.out hB⟩
                | false =>
                  cases bestb with
                  | true =>
                    have HE := Lib.hid (show alikeO a b = false by rw [HAL.out]; simp)
                    go_wp2_with (go_at_call 88; refine (rres_calls _ (HWa.out.below hB) (HWb.out.below hB) (by omega) (by omega)).mono ?_; rintro e w' ⟨rfl, hb⟩; rw [HCH.out]; have hB := bl_next hB hb; clear hb; have k0_0 := cb hB c0_0; have k0_1 := cb hB c0_1; have k0_2 := cb hB c0_2; have k0_3 := cb hB c0_3; have k0_4 := cb hB c0_4; have k0_5 := cb hB c0_5; have k0_6 := cb hB c0_6; have k0_7 := cb hB c0_7; have k1_0 := cb hB c1_0; have k1_1 := cb hB c1_1; have k1_2 := cb hB c1_2; have k1_3 := cb hB c1_3; have k1_4 := cb hB c1_4; have k1_5 := cb hB c1_5; have k1_6 := cb hB c1_6; have k1_7 := cb hB c1_7)
                    go_ret
                    exact ⟨ret_bool HE.out.symm, bl_from Hw.out hB⟩
                  | false =>
                    have HE := Lib.hid (show alikeO a b = true by rw [HAL.out, HCH.out]; simp)
                    go_wp2_with (go_at_call 88; refine (rres_calls _ (HWa.out.below hB) (HWb.out.below hB) (by omega) (by omega)).mono ?_; rintro e w' ⟨rfl, hb⟩; rw [HCH.out]; have hB := bl_next hB hb; clear hb; have k0_0 := cb hB c0_0; have k0_1 := cb hB c0_1; have k0_2 := cb hB c0_2; have k0_3 := cb hB c0_3; have k0_4 := cb hB c0_4; have k0_5 := cb hB c0_5; have k0_6 := cb hB c0_6; have k0_7 := cb hB c0_7; have k1_0 := cb hB c1_0; have k1_1 := cb hB c1_1; have k1_2 := cb hB c1_2; have k1_3 := cb hB c1_3; have k1_4 := cb hB c1_4; have k1_5 := cb hB c1_5; have k1_6 := cb hB c1_6; have k1_7 := cb hB c1_7)
                    go_ret
                    exact ⟨ret_bool HE.out.symm, bl_from Hw.out hB⟩
              | false =>
                have HE := Lib.hid (show alikeO a b = false by rw [HAL.out]; simp)
                go_wp2_with (go_at_call 88; refine (rres_calls _ (HWa.out.below hB) (HWb.out.below hB) (by omega) (by omega)).mono ?_; rintro e w' ⟨rfl, hb⟩; rw [HCH.out]; have hB := bl_next hB hb; clear hb; have k0_0 := cb hB c0_0; have k0_1 := cb hB c0_1; have k0_2 := cb hB c0_2; have k0_3 := cb hB c0_3; have k0_4 := cb hB c0_4; have k0_5 := cb hB c0_5; have k0_6 := cb hB c0_6; have k0_7 := cb hB c0_7; have k1_0 := cb hB c1_0; have k1_1 := cb hB c1_1; have k1_2 := cb hB c1_2; have k1_3 := cb hB c1_3; have k1_4 := cb hB c1_4; have k1_5 := cb hB c1_5; have k1_6 := cb hB c1_6; have k1_7 := cb hB c1_7)
                go_ret
                exact ⟨ret_bool HE.out.symm, bl_from Hw.out hB⟩
            | false =>
              cases termb with
              | true =>
                have HE := Lib.hid (show alikeO a b = false by rw [HAL.out]; simp)
                go_wp2_with (go_at_call 88; refine (rres_calls _ (HWa.out.below hB) (HWb.out.below hB) (by omega) (by omega)).mono ?_; rintro e w' ⟨rfl, hb⟩; rw [HCH.out]; have hB := bl_next hB hb; clear hb; have k0_0 := cb hB c0_0; have k0_1 := cb hB c0_1; have k0_2 := cb hB c0_2; have k0_3 := cb hB c0_3; have k0_4 := cb hB c0_4; have k0_5 := cb hB c0_5; have k0_6 := cb hB c0_6; have k0_7 := cb hB c0_7; have k1_0 := cb hB c1_0; have k1_1 := cb hB c1_1; have k1_2 := cb hB c1_2; have k1_3 := cb hB c1_3; have k1_4 := cb hB c1_4; have k1_5 := cb hB c1_5; have k1_6 := cb hB c1_6; have k1_7 := cb hB c1_7)
                go_ret
                exact ⟨ret_bool HE.out.symm, bl_from Hw.out hB⟩
              | false =>
                cases besta with
                | true =>
                  cases bestb with
                  | true =>
                    have HE := Lib.hid (show alikeO a b = true by rw [HAL.out, HCH.out]; simp)
                    go_wp2_with (go_at_call 88; refine (rres_calls _ (HWa.out.below hB) (HWb.out.below hB) (by omega) (by omega)).mono ?_; rintro e w' ⟨rfl, hb⟩; rw [HCH.out]; have hB := bl_next hB hb; clear hb; have k0_0 := cb hB c0_0; have k0_1 := cb hB c0_1; have k0_2 := cb hB c0_2; have k0_3 := cb hB c0_3; have k0_4 := cb hB c0_4; have k0_5 := cb hB c0_5; have k0_6 := cb hB c0_6; have k0_7 := cb hB c0_7; have k1_0 := cb hB c1_0; have k1_1 := cb hB c1_1; have k1_2 := cb hB c1_2; have k1_3 := cb hB c1_3; have k1_4 := cb hB c1_4; have k1_5 := cb hB c1_5; have k1_6 := cb hB c1_6; have k1_7 := cb hB c1_7)
                    go_ret
                    exact ⟨ret_bool HE.out.symm, bl_from Hw.out hB⟩
                  | false =>
                    have HE := Lib.hid (show alikeO a b = false by rw [HAL.out]; simp)
                    go_wp2_with (go_at_call 88; refine (rres_calls _ (HWa.out.below hB) (HWb.out.below hB) (by omega) (by omega)).mono ?_; rintro e w' ⟨rfl, hb⟩; rw [HCH.out]; have hB := bl_next hB hb; clear hb; have k0_0 := cb hB c0_0; have k0_1 := cb hB c0_1; have k0_2 := cb hB c0_2; have k0_3 := cb hB c0_3; have k0_4 := cb hB c0_4; have k0_5 := cb hB c0_5; have k0_6 := cb hB c0_6; have k0_7 := cb hB c0_7; have k1_0 := cb hB c1_0; have k1_1 := cb hB c1_1; have k1_2 := cb hB c1_2; have k1_3 := cb hB c1_3; have k1_4 := cb hB c1_4; have k1_5 := cb hB c1_5; have k1_6 := cb hB c1_6; have k1_7 := cb hB c1_7)
                    go_ret
                    exact ⟨ret_bool HE.out.symm, bl_from Hw.out hB⟩
                | false =>
                  cases bestb with
                  | true =>
                    have HE := Lib.hid (show alikeO a b = false by rw [HAL.out]; simp)
                    go_wp2_with (go_at_call 88; refine (rres_calls _ (HWa.out.below hB) (HWb.out.below hB) (by omega) (by omega)).mono ?_; rintro e w' ⟨rfl, hb⟩; rw [HCH.out]; have hB := bl_next hB hb; clear hb; have k0_0 := cb hB c0_0; have k0_1 := cb hB c0_1; have k0_2 := cb hB c0_2; have k0_3 := cb hB c0_3; have k0_4 := cb hB c0_4; have k0_5 := cb hB c0_5; have k0_6 := cb hB c0_6; have k0_7 := cb hB c0_7; have k1_0 := cb hB c1_0; have k1_1 := cb hB c1_1; have k1_2 := cb hB c1_2; have k1_3 := cb hB c1_3; have k1_4 := cb hB c1_4; have k1_5 := cb hB c1_5; have k1_6 := cb hB c1_6; have k1_7 := cb hB c1_7)
                    go_ret
                    exact ⟨ret_bool HE.out.symm, bl_from Hw.out hB⟩
                  | false =>
                    have HE := Lib.hid (show alikeO a b = true by rw [HAL.out, HCH.out]; simp)
                    go_wp2_with (go_at_call 88; refine (rres_calls _ (HWa.out.below hB) (HWb.out.below hB) (by omega) (by omega)).mono ?_; rintro e w' ⟨rfl, hb⟩; rw [HCH.out]; have hB := bl_next hB hb; clear hb; have k0_0 := cb hB c0_0; have k0_1 := cb hB c0_1; have k0_2 := cb hB c0_2; have k0_3 := cb hB c0_3; have k0_4 := cb hB c0_4; have k0_5 := cb hB c0_5; have k0_6 := cb hB c0_6; have k0_7 := cb hB c0_7; have k1_0 := cb hB c1_0; have k1_1 := cb hB c1_1; have k1_2 := cb hB c1_2; have k1_3 := cb hB c1_3; have k1_4 := cb hB c1_4; have k1_5 := cb hB c1_5; have k1_6 := cb hB c1_6; have k1_7 := cb hB c1_7)
                    go_ret
                    exact ⟨ret_bool HE.out.symm, bl_from Hw.out hB⟩
          · have HE := Lib.hid (show alikeO a b = false by rw [HAL.out]; simp [h_cls])
            have hbf := beqF h_cls
            have hbn := neF h_cls
            clear h_cls
            go_wp2_with (go_at_call 88; refine (rres_calls _ (HWa.out.below hB) (HWb.out.below hB) (by omega) (by omega)).mono ?_; rintro e w' ⟨rfl, hb⟩; rw [HCH.out]; have hB := bl_next hB hb; clear hb; have k0_0 := cb hB c0_0; have k0_1 := cb hB c0_1; have k0_2 := cb hB c0_2; have k0_3 := cb hB c0_3; have k0_4 := cb hB c0_4; have k0_5 := cb hB c0_5; have k0_6 := cb hB c0_6; have k0_7 := cb hB c0_7; have k1_0 := cb hB c1_0; have k1_1 := cb hB c1_1; have k1_2 := cb hB c1_2; have k1_3 := cb hB c1_3; have k1_4 := cb hB c1_4; have k1_5 := cb hB c1_5; have k1_6 := cb hB c1_6; have k1_7 := cb hB c1_7)
            go_ret
            exact ⟨ret_bool HE.out.symm, bl_from Hw.out hB⟩
        · have HE := Lib.hid (show alikeO a b = false by rw [HAL.out]; simp [h_kn])
          have hbf := beqF h_kn
          have hbn := neF h_kn
          clear h_kn
          go_wp2_with (go_at_call 88; refine (rres_calls _ (HWa.out.below hB) (HWb.out.below hB) (by omega) (by omega)).mono ?_; rintro e w' ⟨rfl, hb⟩; rw [HCH.out]; have hB := bl_next hB hb; clear hb; have k0_0 := cb hB c0_0; have k0_1 := cb hB c0_1; have k0_2 := cb hB c0_2; have k0_3 := cb hB c0_3; have k0_4 := cb hB c0_4; have k0_5 := cb hB c0_5; have k0_6 := cb hB c0_6; have k0_7 := cb hB c0_7; have k1_0 := cb hB c1_0; have k1_1 := cb hB c1_1; have k1_2 := cb hB c1_2; have k1_3 := cb hB c1_3; have k1_4 := cb hB c1_4; have k1_5 := cb hB c1_5; have k1_6 := cb hB c1_6; have k1_7 := cb hB c1_7)
          go_ret
          exact ⟨ret_bool HE.out.symm, bl_from Hw.out hB⟩
      · have HE := Lib.hid (show alikeO a b = false by rw [HAL.out]; simp [h_ks])
        have hbf := beqF h_ks
        have hbn := neF h_ks
        clear h_ks
        go_wp2_with (go_at_call 88; refine (rres_calls _ (HWa.out.below hB) (HWb.out.below hB) (by omega) (by omega)).mono ?_; rintro e w' ⟨rfl, hb⟩; rw [HCH.out]; have hB := bl_next hB hb; clear hb; have k0_0 := cb hB c0_0; have k0_1 := cb hB c0_1; have k0_2 := cb hB c0_2; have k0_3 := cb hB c0_3; have k0_4 := cb hB c0_4; have k0_5 := cb hB c0_5; have k0_6 := cb hB c0_6; have k0_7 := cb hB c0_7; have k1_0 := cb hB c1_0; have k1_1 := cb hB c1_1; have k1_2 := cb hB c1_2; have k1_3 := cb hB c1_3; have k1_4 := cb hB c1_4; have k1_5 := cb hB c1_5; have k1_6 := cb hB c1_6; have k1_7 := cb hB c1_7)
        go_ret
        exact ⟨ret_bool HE.out.symm, bl_from Hw.out hB⟩
    · have HE := Lib.hid (show alikeO a b = false by rw [HAL.out]; simp [h_kk])
      have hbf := beqF h_kk
      have hbn := neF h_kk
      clear h_kk
      go_wp2_with (go_at_call 88; refine (rres_calls _ (HWa.out.below hB) (HWb.out.below hB) (by omega) (by omega)).mono ?_; rintro e w' ⟨rfl, hb⟩; rw [HCH.out]; have hB := bl_next hB hb; clear hb; have k0_0 := cb hB c0_0; have k0_1 := cb hB c0_1; have k0_2 := cb hB c0_2; have k0_3 := cb hB c0_3; have k0_4 := cb hB c0_4; have k0_5 := cb hB c0_5; have k0_6 := cb hB c0_6; have k0_7 := cb hB c0_7; have k1_0 := cb hB c1_0; have k1_1 := cb hB c1_1; have k1_2 := cb hB c1_2; have k1_3 := cb hB c1_3; have k1_4 := cb hB c1_4; have k1_5 := cb hB c1_5; have k1_6 := cb hB c1_6; have k1_7 := cb hB c1_7)
      go_ret
      exact ⟨ret_bool HE.out.symm, bl_from Hw.out hB⟩
  · have HCH := Lib.hid (show decide (la = lb) = false from decide_eq_false hch)
    have HE := Lib.hid (show alikeO a b = false by rw [HAL.out, HCH.out]; simp)
    clear hch
    go_wp2_with (go_at_call 88; refine (rres_calls _ (HWa.out.below hB) (HWb.out.below hB) (by omega) (by omega)).mono ?_; rintro e w' ⟨rfl, hb⟩; rw [HCH.out]; have hB := bl_next hB hb; clear hb; have k0_0 := cb hB c0_0; have k0_1 := cb hB c0_1; have k0_2 := cb hB c0_2; have k0_3 := cb hB c0_3; have k0_4 := cb hB c0_4; have k0_5 := cb hB c0_5; have k0_6 := cb hB c0_6; have k0_7 := cb hB c0_7; have k1_0 := cb hB c1_0; have k1_1 := cb hB c1_1; have k1_2 := cb hB c1_2; have k1_3 := cb hB c1_3; have k1_4 := cb hB c1_4; have k1_5 := cb hB c1_5; have k1_6 := cb hB c1_6; have k1_7 := cb hB c1_7)
    go_ret
    exact ⟨ret_bool HE.out.symm, bl_from Hw.out hB⟩
set_option maxRecDepth 100000 in
set_option maxHeartbeats 8000000 in
theorem osame_calls (w : World) {sa sb : Value} {a b : ObjD} (ha : ObjS w sa a) (hb : ObjS w sb b) (hl : a.charge.length ≤ 1000000 ∧ b.charge.length ≤ 1000000) :
    Calls Try.prog 63 #[objV a sa, objV b sb] w fun e w' => e = .returned (.bool (sameO a b)) ∧ Below w.heap.size w w' := by
  have HA := Lib.hid ha; have HB := Lib.hid hb
  have HAL := Lib.hid (fun (W : World) (h : Below w.heap.size w W) => oalike_calls W (ha.below h) (hb.below h) hl)
  obtain ⟨aa, ca, rfl⟩ := ha.1.form
  obtain ⟨ab, cb', rfl⟩ := hb.1.form
  clear ha hb hl
  unfold objV at HAL
  unfold objV
  go_enter Try.func63, Try.ntmps63
  go_upto_region 1 with fail
  first | with_reducible refine name_wp ?_ | with_reducible refine name_calls ?_
  intro W hWeq
  have g0 : W.heap[w.heap.size]? = some (.cells #[.string a.key.kind, .string a.key.space, .string a.key.name, .int .i64 a.ver, .string a.cls, .bool a.term, .bool a.best, .slice aa a.charge.length ca] 27) := by rw [hWeq]; repeat (first | (with_reducible exact blk_newAt _ _ (by simp)) | with_reducible refine blk_drew ?_ | with_reducible refine blk_dN ?_ _ | with_reducible refine blk_old ?_ _)
  have g1 : W.heap[w.heap.size + 1]? = some (.cells #[.string b.key.kind, .string b.key.space, .string b.key.name, .int .i64 b.ver, .string b.cls, .bool b.term, .bool b.best, .slice ab b.charge.length cb'] 27) := by rw [hWeq]; repeat (first | (with_reducible exact blk_newAt _ _ (by simp)) | with_reducible refine blk_drew ?_ | with_reducible refine blk_dN ?_ _ | with_reducible refine blk_old ?_ _)
  have hw : Below w.heap.size w W := by rw [hWeq]; repeat (first | with_reducible exact Below.refl _ _ | with_reducible refine Below.drew ?_ | with_reducible refine bl_dN ?_ _ | with_reducible refine Below.alloc ?_ (by simp <;> omega) _)
  clear hWeq
  have hz : w.heap.size + 2 ≤ W.heap.size := by have := blk_lt g1; omega
  have c0_0 : W.cell? ⟨w.heap.size, 0, none⟩ = some (.string a.key.kind) := blk_cell g0 0
  have c0_1 : W.cell? ⟨w.heap.size, 1, none⟩ = some (.string a.key.space) := blk_cell g0 1
  have c0_2 : W.cell? ⟨w.heap.size, 2, none⟩ = some (.string a.key.name) := blk_cell g0 2
  have c0_3 : W.cell? ⟨w.heap.size, 3, none⟩ = some (.int .i64 a.ver) := blk_cell g0 3
  have c0_4 : W.cell? ⟨w.heap.size, 4, none⟩ = some (.string a.cls) := blk_cell g0 4
  have c0_5 : W.cell? ⟨w.heap.size, 5, none⟩ = some (.bool a.term) := blk_cell g0 5
  have c0_6 : W.cell? ⟨w.heap.size, 6, none⟩ = some (.bool a.best) := blk_cell g0 6
  have c0_7 : W.cell? ⟨w.heap.size, 7, none⟩ = some (.slice aa a.charge.length ca) := blk_cell g0 7
  have f0 : ∀ j, W.frozen? ⟨w.heap.size, j, none⟩ = false := blk_free g0
  have c1_0 : W.cell? ⟨w.heap.size + 1, 0, none⟩ = some (.string b.key.kind) := blk_cell g1 0
  have c1_1 : W.cell? ⟨w.heap.size + 1, 1, none⟩ = some (.string b.key.space) := blk_cell g1 1
  have c1_2 : W.cell? ⟨w.heap.size + 1, 2, none⟩ = some (.string b.key.name) := blk_cell g1 2
  have c1_3 : W.cell? ⟨w.heap.size + 1, 3, none⟩ = some (.int .i64 b.ver) := blk_cell g1 3
  have c1_4 : W.cell? ⟨w.heap.size + 1, 4, none⟩ = some (.string b.cls) := blk_cell g1 4
  have c1_5 : W.cell? ⟨w.heap.size + 1, 5, none⟩ = some (.bool b.term) := blk_cell g1 5
  have c1_6 : W.cell? ⟨w.heap.size + 1, 6, none⟩ = some (.bool b.best) := blk_cell g1 6
  have c1_7 : W.cell? ⟨w.heap.size + 1, 7, none⟩ = some (.slice ab b.charge.length cb') := blk_cell g1 7
  have f1 : ∀ j, W.frozen? ⟨w.heap.size + 1, j, none⟩ = false := blk_free g1
  have hB : Below W.heap.size W W := Below.refl _ _
  have G0 := Lib.hid g0; clear g0
  have F0 := Lib.hid f0; clear f0
  have G1 := Lib.hid g1; clear g1
  have F1 := Lib.hid f1; clear f1
  have Hw := Lib.hid hw; clear hw
  have HS : Hid (sameO a b = (alikeO a b && decide (a.ver = b.ver))) := Lib.hid rfl
  obtain ⟨al, hal⟩ : ∃ x, alikeO a b = x := ⟨_, rfl⟩
  have HALE := Lib.hid hal
  rw [hal] at HS
  clear hal
  cases al with
  | false =>
    go_wp2_with (go_at_call 87; refine (HAL.out _ Hw.out).mono ?_; rintro e w' ⟨rfl, hb⟩; rw [HALE.out]; have hB := bl_next hB hb; clear hb)
    go_ret
    exact ⟨ret_bool (by rw [HS.out]; rfl), bl_from Hw.out hB⟩
  | true =>
    go_wp2_with (go_at_call 87; refine (HAL.out _ Hw.out).mono ?_; rintro e w' ⟨rfl, hb⟩; rw [HALE.out]; have hB := bl_next hB hb; have k0 := cb hb c0_3; have k1 := cb hb c1_3; clear hb)
    go_ret
    exact ⟨ret_bool (by rw [HS.out]; first | rfl | (simp; done) | (rw [Bool.true_and]; exact (beq_eq_decide _ _)) | (rw [Bool.true_and]; exact (beq_eq_decide _ _).symm)), bl_from Hw.out hB⟩
set_option maxRecDepth 100000 in
set_option maxHeartbeats 8000000 in
theorem rosame_calls (w : World) {sa sb : Value} {a b : ObjD} (ha : ObjS w sa a) (hb : ObjS w sb b) (hl : a.charge.length ≤ 1000000 ∧ b.charge.length ≤ 1000000) :
    Calls Try.prog 24 #[objV a sa, objV b sb] w fun e w' => e = .returned (.bool (sameO a b)) ∧ Below w.heap.size w w' := by
  have HA := Lib.hid ha; have HB := Lib.hid hb
  have HAL := Lib.hid (fun (W : World) (h : Below w.heap.size w W) => roalike_calls W (ha.below h) (hb.below h) hl)
  obtain ⟨aa, ca, rfl⟩ := ha.1.form
  obtain ⟨ab, cb', rfl⟩ := hb.1.form
  clear ha hb hl
  unfold objV at HAL
  unfold objV
  go_enter Try.func24, Try.ntmps24
  go_upto_region 1 with fail
  first | with_reducible refine name_wp ?_ | with_reducible refine name_calls ?_
  intro W hWeq
  have g0 : W.heap[w.heap.size]? = some (.cells #[.string a.key.kind, .string a.key.space, .string a.key.name, .int .i64 a.ver, .string a.cls, .bool a.term, .bool a.best, .slice aa a.charge.length ca] 27) := by rw [hWeq]; repeat (first | (with_reducible exact blk_newAt _ _ (by simp)) | with_reducible refine blk_drew ?_ | with_reducible refine blk_dN ?_ _ | with_reducible refine blk_old ?_ _)
  have g1 : W.heap[w.heap.size + 1]? = some (.cells #[.string b.key.kind, .string b.key.space, .string b.key.name, .int .i64 b.ver, .string b.cls, .bool b.term, .bool b.best, .slice ab b.charge.length cb'] 27) := by rw [hWeq]; repeat (first | (with_reducible exact blk_newAt _ _ (by simp)) | with_reducible refine blk_drew ?_ | with_reducible refine blk_dN ?_ _ | with_reducible refine blk_old ?_ _)
  have hw : Below w.heap.size w W := by rw [hWeq]; repeat (first | with_reducible exact Below.refl _ _ | with_reducible refine Below.drew ?_ | with_reducible refine bl_dN ?_ _ | with_reducible refine Below.alloc ?_ (by simp <;> omega) _)
  clear hWeq
  have hz : w.heap.size + 2 ≤ W.heap.size := by have := blk_lt g1; omega
  have c0_0 : W.cell? ⟨w.heap.size, 0, none⟩ = some (.string a.key.kind) := blk_cell g0 0
  have c0_1 : W.cell? ⟨w.heap.size, 1, none⟩ = some (.string a.key.space) := blk_cell g0 1
  have c0_2 : W.cell? ⟨w.heap.size, 2, none⟩ = some (.string a.key.name) := blk_cell g0 2
  have c0_3 : W.cell? ⟨w.heap.size, 3, none⟩ = some (.int .i64 a.ver) := blk_cell g0 3
  have c0_4 : W.cell? ⟨w.heap.size, 4, none⟩ = some (.string a.cls) := blk_cell g0 4
  have c0_5 : W.cell? ⟨w.heap.size, 5, none⟩ = some (.bool a.term) := blk_cell g0 5
  have c0_6 : W.cell? ⟨w.heap.size, 6, none⟩ = some (.bool a.best) := blk_cell g0 6
  have c0_7 : W.cell? ⟨w.heap.size, 7, none⟩ = some (.slice aa a.charge.length ca) := blk_cell g0 7
  have f0 : ∀ j, W.frozen? ⟨w.heap.size, j, none⟩ = false := blk_free g0
  have c1_0 : W.cell? ⟨w.heap.size + 1, 0, none⟩ = some (.string b.key.kind) := blk_cell g1 0
  have c1_1 : W.cell? ⟨w.heap.size + 1, 1, none⟩ = some (.string b.key.space) := blk_cell g1 1
  have c1_2 : W.cell? ⟨w.heap.size + 1, 2, none⟩ = some (.string b.key.name) := blk_cell g1 2
  have c1_3 : W.cell? ⟨w.heap.size + 1, 3, none⟩ = some (.int .i64 b.ver) := blk_cell g1 3
  have c1_4 : W.cell? ⟨w.heap.size + 1, 4, none⟩ = some (.string b.cls) := blk_cell g1 4
  have c1_5 : W.cell? ⟨w.heap.size + 1, 5, none⟩ = some (.bool b.term) := blk_cell g1 5
  have c1_6 : W.cell? ⟨w.heap.size + 1, 6, none⟩ = some (.bool b.best) := blk_cell g1 6
  have c1_7 : W.cell? ⟨w.heap.size + 1, 7, none⟩ = some (.slice ab b.charge.length cb') := blk_cell g1 7
  have f1 : ∀ j, W.frozen? ⟨w.heap.size + 1, j, none⟩ = false := blk_free g1
  have hB : Below W.heap.size W W := Below.refl _ _
  have G0 := Lib.hid g0; clear g0
  have F0 := Lib.hid f0; clear f0
  have G1 := Lib.hid g1; clear g1
  have F1 := Lib.hid f1; clear f1
  have Hw := Lib.hid hw; clear hw
  have HS : Hid (sameO a b = (alikeO a b && decide (a.ver = b.ver))) := Lib.hid rfl
  obtain ⟨al, hal⟩ : ∃ x, alikeO a b = x := ⟨_, rfl⟩
  have HALE := Lib.hid hal
  rw [hal] at HS
  clear hal
  cases al with
  | false =>
    go_wp2_with (go_at_call 65; refine (HAL.out _ Hw.out).mono ?_; rintro e w' ⟨rfl, hb⟩; rw [HALE.out]; have hB := bl_next hB hb; clear hb)
    go_ret
    exact ⟨ret_bool (by rw [HS.out]; rfl), bl_from Hw.out hB⟩
  | true =>
    go_wp2_with (go_at_call 65; refine (HAL.out _ Hw.out).mono ?_; rintro e w' ⟨rfl, hb⟩; rw [HALE.out]; have hB := bl_next hB hb; have k0 := cb hb c0_3; have k1 := cb hb c1_3; clear hb)
    go_ret
    exact ⟨ret_bool (by rw [HS.out]; first | rfl | (simp; done) | (rw [Bool.true_and]; exact (beq_eq_decide _ _)) | (rw [Bool.true_and]; exact (beq_eq_decide _ _).symm)), bl_from Hw.out hB⟩
end Go.Proofs.Ythhfcambdmdgfaa
