import Derived.Test.YthhfcambdmdgfaaKspab
import Derived.Test.YthhfcambdmdgfaaKspaa
import Derived.IntWalk
import Derived.ProofKit
import Derived.OpenShut
import Derived.ShutString
import Derived.ChangeOld
import Derived.Deep.Slices
import Derived.Test.YthhfcambdmdgfaaProg
namespace Go.Proofs.Ythhfcambdmdgfaa
open Go.RowKit Go.Maps
set_option linter.unusedVariables false
set_option linter.unusedSimpArgs false
def alikeO (a b : ObjD) : Bool := decide (a.key.kind = b.key.kind) && decide (a.key.space = b.key.space) && decide (a.key.name = b.key.name) && decide (a.cls = b.cls) && (a.term == b.term) && (a.best == b.best) && decide (a.charge = b.charge)
def sameO (a b : ObjD) : Bool := alikeO a b && decide (a.ver = b.ver)
theorem objD_ext {a b : ObjD} (h : sameO a b = true) : a = b := by
  unfold sameO alikeO at h
  simp only [Bool.and_eq_true, decide_eq_true_eq, beq_iff_eq] at h
  obtain ⟨⟨⟨⟨⟨⟨⟨h1, h2⟩, h3⟩, h4⟩, h5⟩, h6⟩, h7⟩, h8⟩ := h
  obtain ⟨ka, va, ca, ta, ba, la⟩ := a
  obtain ⟨kb, vb, cb, tb, bb, lb⟩ := b
  simp only at h1 h2 h3 h4 h5 h6 h7 h8
  rw [keyD_ext h1 h2 h3, h4, h5, h6, h7, h8]
theorem sameO_refl (a : ObjD) : sameO a a = true := by unfold sameO alikeO; simp
set_option maxRecDepth 100000 in
set_option maxHeartbeats 16000000 in
theorem roalike_calls (w : World) {sa sb : Value} {a b : ObjD} (ha : ObjS w sa a) (hb : ObjS w sb b) (hl : a.charge.length ≤ 1000000 ∧ b.charge.length ≤ 1000000) :
    Calls Try.prog 65 #[objV a sa, objV b sb] w fun e w' => e = .returned (.bool (alikeO a b)) ∧ Below w.heap.size w w' := by
  have HA := Lib.hid ha.1; have HB := Lib.hid hb.1
  obtain ⟨aa, ca, rfl⟩ := ha.1.form
  obtain ⟨ab, cb', rfl⟩ := hb.1.form
  obtain ⟨hl1, hl2⟩ := hl
  obtain ⟨la, hla⟩ : ∃ l, a.charge = l := ⟨_, rfl⟩
  obtain ⟨lb, hlb⟩ : ∃ l, b.charge = l := ⟨_, rfl⟩
  obtain ⟨kka, hka⟩ : ∃ s, a.key.kind = s := ⟨_, rfl⟩
  obtain ⟨kkb, hkb⟩ : ∃ s, b.key.kind = s := ⟨_, rfl⟩
  obtain ⟨ksa, hsa⟩ : ∃ s, a.key.space = s := ⟨_, rfl⟩
  obtain ⟨ksb, hsb⟩ : ∃ s, b.key.space = s := ⟨_, rfl⟩
  obtain ⟨kna, hna⟩ : ∃ s, a.key.name = s := ⟨_, rfl⟩
  obtain ⟨knb, hnb⟩ : ∃ s, b.key.name = s := ⟨_, rfl⟩
  obtain ⟨clsa, hca⟩ : ∃ s, a.cls = s := ⟨_, rfl⟩
  obtain ⟨clsb, hcb⟩ : ∃ s, b.cls = s := ⟨_, rfl⟩
  obtain ⟨terma, hta⟩ : ∃ s, a.term = s := ⟨_, rfl⟩
  obtain ⟨termb, htb⟩ : ∃ s, b.term = s := ⟨_, rfl⟩
  obtain ⟨besta, hba⟩ : ∃ s, a.best = s := ⟨_, rfl⟩
  obtain ⟨bestb, hbb⟩ : ∃ s, b.best = s := ⟨_, rfl⟩
  obtain ⟨vera, hva⟩ : ∃ s, a.ver = s := ⟨_, rfl⟩
  obtain ⟨verb, hvb⟩ : ∃ s, b.ver = s := ⟨_, rfl⟩
  have HAL : Hid (alikeO a b = (decide (kka = kkb) && decide (ksa = ksb) && decide (kna = knb) && decide (clsa = clsb) && (terma == termb) && (besta == bestb) && decide (la = lb))) := Lib.hid (by unfold alikeO; rw [hla, hlb, hka, hkb, hsa, hsb, hna, hnb, hca, hcb, hta, htb, hba, hbb])
  unfold objV
  rw [hla] at HA hl1
  rw [hlb] at HB hl2
  rw [hla, hlb, hka, hkb, hsa, hsb, hna, hnb, hca, hcb, hta, htb, hba, hbb, hva, hvb]
  clear ha hb hla hlb hka hkb hsa hsb hna hnb hca hcb hta htb hba hbb hva hvb
  go_enter Try.func65, Try.ntmps65
  go_upto_region 1 with fail
  first | with_reducible refine name_wp ?_ | with_reducible refine name_calls ?_
  intro W hWeq
  have g0 : W.heap[w.heap.size]? = some (.cells #[.string kka, .string ksa, .string kna, .int .i64 vera, .string clsa, .bool terma, .bool besta, .slice aa la.length ca] 27) := by rw [hWeq]; repeat (first | (with_reducible exact blk_newAt _ _ (by simp)) | with_reducible refine blk_drew ?_ | with_reducible refine blk_dN ?_ _ | with_reducible refine blk_old ?_ _)
  have g1 : W.heap[w.heap.size + 1]? = some (.cells #[.string kkb, .string ksb, .string knb, .int .i64 verb, .string clsb, .bool termb, .bool bestb, .slice ab lb.length cb'] 27) := by rw [hWeq]; repeat (first | (with_reducible exact blk_newAt _ _ (by simp)) | with_reducible refine blk_drew ?_ | with_reducible refine blk_dN ?_ _ | with_reducible refine blk_old ?_ _)
  have hw : Below w.heap.size w W := by rw [hWeq]; repeat (first | with_reducible exact Below.refl _ _ | with_reducible refine Below.drew ?_ | with_reducible refine bl_dN ?_ _ | with_reducible refine Below.alloc ?_ (by simp <;> omega) _)
  clear hWeq
  have hz : w.heap.size + 2 ≤ W.heap.size := by have := blk_lt g1; omega
  have c0_0 : W.cell? ⟨w.heap.size, 0, none⟩ = some (.string kka) := blk_cell g0 0
  have c0_1 : W.cell? ⟨w.heap.size, 1, none⟩ = some (.string ksa) := blk_cell g0 1
  have c0_2 : W.cell? ⟨w.heap.size, 2, none⟩ = some (.string kna) := blk_cell g0 2
  have c0_3 : W.cell? ⟨w.heap.size, 3, none⟩ = some (.int .i64 vera) := blk_cell g0 3
  have c0_4 : W.cell? ⟨w.heap.size, 4, none⟩ = some (.string clsa) := blk_cell g0 4
  have c0_5 : W.cell? ⟨w.heap.size, 5, none⟩ = some (.bool terma) := blk_cell g0 5
  have c0_6 : W.cell? ⟨w.heap.size, 6, none⟩ = some (.bool besta) := blk_cell g0 6
  have c0_7 : W.cell? ⟨w.heap.size, 7, none⟩ = some (.slice aa la.length ca) := blk_cell g0 7
  have f0 : ∀ j, W.frozen? ⟨w.heap.size, j, none⟩ = false := blk_free g0
  have c1_0 : W.cell? ⟨w.heap.size + 1, 0, none⟩ = some (.string kkb) := blk_cell g1 0
  have c1_1 : W.cell? ⟨w.heap.size + 1, 1, none⟩ = some (.string ksb) := blk_cell g1 1
  have c1_2 : W.cell? ⟨w.heap.size + 1, 2, none⟩ = some (.string knb) := blk_cell g1 2
  have c1_3 : W.cell? ⟨w.heap.size + 1, 3, none⟩ = some (.int .i64 verb) := blk_cell g1 3
  have c1_4 : W.cell? ⟨w.heap.size + 1, 4, none⟩ = some (.string clsb) := blk_cell g1 4
  have c1_5 : W.cell? ⟨w.heap.size + 1, 5, none⟩ = some (.bool termb) := blk_cell g1 5
  have c1_6 : W.cell? ⟨w.heap.size + 1, 6, none⟩ = some (.bool bestb) := blk_cell g1 6
  have c1_7 : W.cell? ⟨w.heap.size + 1, 7, none⟩ = some (.slice ab lb.length cb') := blk_cell g1 7
  have f1 : ∀ j, W.frozen? ⟨w.heap.size + 1, j, none⟩ = false := blk_free g1
  have hB : Below W.heap.size W W := Below.refl _ _
  have G0 := Lib.hid g0; clear g0
  have F0 := Lib.hid f0; clear f0
  have G1 := Lib.hid g1; clear g1
  have F1 := Lib.hid f1; clear f1
  have Hw := Lib.hid hw; clear hw
  have HWa := Lib.hid (HA.out.below Hw.out); have HWb := Lib.hid (HB.out.below Hw.out)
  by_cases hch : la = lb
  · have HCH := Lib.hid (show decide (la = lb) = true from decide_eq_true hch)
    clear hch
    by_cases h_kk : kka = kkb
    · subst h_kk
      by_cases h_ks : ksa = ksb
      · subst h_ks
        by_cases h_kn : kna = knb
        · subst h_kn
          by_cases h_cls : clsa = clsb
          · subst h_cls
            cases terma with
            | true =>
              cases termb with
              | true =>
                cases besta with
                | true =>
                  cases bestb with
                  | true =>
                    have HE := Lib.hid (show alikeO a b = true by rw [HAL.out, HCH.out]; simp)
                    go_wp2_with (go_at_call 88; refine (rres_calls _ (HWa.out.below hB) (HWb.out.below hB) (by omega) (by omega)).mono ?_; rintro e w' ⟨rfl, hb⟩; rw [HCH.out]; have hB := bl_next hB hb; clear hb; have k0_0 := cb hB c0_0; have k0_1 := cb hB c0_1; have k0_2 := cb hB c0_2; have k0_3 := cb hB c0_3; have k0_4 := cb hB c0_4; have k0_5 := cb hB c0_5; have k0_6 := cb hB c0_6; have k0_7 := cb hB c0_7; have k1_0 := cb hB c1_0; have k1_1 := cb hB c1_1; have k1_2 := cb hB c1_2; have k1_3 := cb hB c1_3; have k1_4 := cb hB c1_4; have k1_5 := cb hB c1_5; have k1_6 := cb hB c1_6; have k1_7 := cb hB c1_7)
                    go_ret
                    exact ⟨ret_bool HE.out.symm, bl_from Hw.out hB⟩
                  | false =>
                    have HE := Lib.hid (show alikeO a b = false by rw [HAL.out]; simp)
                    go_wp2_with (go_at_call 88; refine (rres_calls _ (HWa.out.below hB) (HWb.out.below hB) (by omega) (by omega)).mono ?_; rintro e w' ⟨rfl, hb⟩; rw [HCH.out]; have hB := bl_next hB hb; clear hb; have k0_0 := cb hB c0_0; have k0_1 := cb hB c0_1; have k0_2 := cb hB c0_2; have k0_3 := cb hB c0_3; have k0_4 := cb hB c0_4; have k0_5 := cb hB c0_5; have k0_6 := cb hB c0_6; have k0_7 := cb hB c0_7; have k1_0 := cb hB c1_0; have k1_1 := cb hB c1_1; have k1_2 := cb hB c1_2; have k1_3 := cb hB c1_3; have k1_4 := cb hB c1_4; have k1_5 := cb hB c1_5; have k1_6 := cb hB c1_6; have k1_7 := cb hB c1_7)
                    go_ret
                    exact ⟨ret_bool HE.out.symm, bl_from Hw.out hB⟩
                | false =>
                  cases bestb with
                  | true =>
                    have HE := Lib.hid (show alikeO a b = false by rw [HAL.out]; simp)
                    go_wp2_with (go_at_call 88; refine (rres_calls _ (HWa.out.below hB) (HWb.out.below hB) (by omega) (by omega)).mono ?_; rintro e w' ⟨rfl, hb⟩; rw [HCH.out]; have hB := bl_next hB hb; clear hb; have k0_0 := cb hB c0_0; have k0_1 := cb hB c0_1; have k0_2 := cb hB c0_2; have k0_3 := cb hB c0_3; have k0_4 := cb hB c0_4; have k0_5 := cb hB c0_5; have k0_6 := cb hB c0_6; have k0_7 := cb hB c0_7; have k1_0 := cb hB c1_0; have k1_1 := cb hB c1_1; have k1_2 := cb hB c1_2; have k1_3 := cb hB c1_3; have k1_4 := cb hB c1_4; have k1_5 := cb hB c1_5; have k1_6 := cb hB c1_6; have k1_7 := cb hB c1_7)
                    go_ret
                    exact ⟨ret_bool HE.out.symm, bl_from Hw.out hB⟩
                  | false =>
                    have HE := Lib.hid (show alikeO a b = true by rw [HAL.out, HCH.out]; simp)
                    go_wp2_with (go_at_call 88; refine (rres_calls _ (HWa.out.below hB) (HWb.out.below hB) (by omega) (by omega)).mono ?_; rintro e w' ⟨rfl, hb⟩; rw [HCH.out]; have hB := bl_next hB hb; clear hb; have k0_0 := cb hB c0_0; have k0_1 := cb hB c0_1; have k0_2 := cb hB c0_2; have k0_3 := cb hB c0_3; have k0_4 := cb hB c0_4; have k0_5 := cb hB c0_5; have k0_6 := cb hB c0_6; have k0_7 := cb hB c0_7; have k1_0 := cb hB c1_0; have k1_1 := cb hB c1_1; have k1_2 := cb hB c1_2; have k1_3 := cb hB c1_3; have k1_4 := cb hB c1_4; have k1_5 := cb hB c1_5; have k1_6 := cb hB c1_6; have k1_7 := cb hB c1_7)
                    go_ret
                    exact ⟨ret_bool HE.out.symm, bl_from Hw.out hB⟩
              | false =>
                have HE := Lib.hid (show alikeO a b = false by rw [HAL.out]; simp)
                go_wp2_with (go_at_call 88; refine (rres_calls _ (HWa.out.below hB) (HWb.out.below hB) (by omega) (by omega)).mono ?_; rintro e w' ⟨rfl, hb⟩; rw [HCH.out]; have hB := bl_next hB hb; clear hb; have k0_0 := cb hB c0_0; have k0_1 := cb hB c0_1; have k0_2 := cb hB c0_2; have k0_3 := cb hB c0_3; have k0_4 := cb hB c0_4; have k0_5 := cb hB c0_5; have k0_6 := cb hB c0_6; have k0_7 := cb hB c0_7; have k1_0 := cb hB c1_0; have k1_1 := cb hB c1_1; have k1_2 := cb hB c1_2; have k1_3 := cb hB c1_3; have k1_4 := cb hB c1_4; have k1_5 := cb hB c1_5; have k1_6 := cb hB c1_6; have k1_7 := cb hB c1_7)
                go_ret
                exact ⟨ret_bool HE.out.symm, bl_from Hw.out hB⟩
            | false =>
              cases termb with
              | true =>
                have HE := Lib.hid (show alikeO a b = false by rw [HAL.out]; simp)
                go_wp2_with (go_at_call 88; refine (rres_calls _ (HWa.out.below hB) (HWb.out.below hB) (by omega) (by omega)).mono ?_; rintro e w' ⟨rfl, hb⟩; rw [HCH.out]; have hB := bl_next hB hb; clear hb; have k0_0 := cb hB c0_0; have k0_1 := cb hB c0_1; have k0_2 := cb hB c0_2; have k0_3 := cb hB c0_3; have k0_4 := cb hB c0_4; have k0_5 := cb hB c0_5; have k0_6 := cb hB c0_6; have k0_7 := cb hB c0_7; have k1_0 := cb hB c1_0; have k1_1 := cb hB c1_1; have k1_2 := cb hB c1_2; have k1_3 := cb hB c1_3; have k1_4 := cb hB c1_4; have k1_5 := cb hB c1_5; have k1_6 := cb hB c1_6; have k1_7 := cb hB c1_7)
                go_ret
                exact ⟨ret_bool HE.out.symm, bl_from Hw.out hB⟩
              | false =>
                cases besta with
                | true =>
                  cases bestb with
                  | true =>
                    have HE := Lib.hid (show alikeO a b = true by rw [HAL.out, HCH.out]; simp)
                    go_wp2_with (go_at_call 88; refine (rres_calls _ (HWa.out.below hB) (HWb.out.below hB) (by omega) (by omega)).mono ?_; rintro e w' ⟨rfl, hb⟩; rw [HCH.out]; have hB := bl_next hB hb; clear hb; have k0_0 := cb hB c0_0; have k0_1 := cb hB c0_1; have k0_2 := cb hB c0_2; have k0_3 := cb hB c0_3; have k0_4 := cb hB c0_4; have k0_5 := cb hB c0_5; have k0_6 := cb hB c0_6; have k0_7 := cb hB c0_7; have k1_0 := cb hB c1_0; have k1_1 := cb hB c1_1; have k1_2 := cb hB c1_2; have k1_3 := cb hB c1_3; have k1_4 := cb hB c1_4; have k1_5 := cb hB c1_5; have k1_6 := cb hB c1_6; have k1_7 := cb hB c1_7)
                    go_ret
                    exact ⟨ret_bool HE.out.symm, bl_from Hw.out hB⟩
                  | false =>
                    have HE := Lib.hid (show alikeO a b = false by rw [HAL.out]; simp)
                    go_wp2_with (go_at_call 88; refine (rres_calls _ (HWa.out.below hB) (HWb.out.below hB) (by omega) (by omega)).mono ?_; rintro e w' ⟨rfl, hb⟩; rw [HCH.out]; have hB := bl_next hB hb; clear hb; have k0_0 := cb hB c0_0; have k0_1 := cb hB c0_1; have k0_2 := cb hB c0_2; have k0_3 := cb hB c0_3; have k0_4 := cb hB c0_4; have k0_5 := cb hB c0_5; have k0_6 := cb hB c0_6; have k0_7 := cb hB c0_7; have k1_0 := cb hB c1_0; have k1_1 := cb hB c1_1; have k1_2 := cb hB c1_2; have k1_3 := cb hB c1_3; have k1_4 := cb hB c1_4; have k1_5 := cb hB c1_5; have k1_6 := cb hB c1_6; have k1_7 := cb hB c1_7)
                    go_ret
                    exact ⟨ret_bool HE.out.symm, bl_from Hw.out hB⟩
                | false =>
                  cases bestb with
                  | true =>
                    have HE := Lib.hid (show alikeO a b = false by rw [HAL.out]; simp)
                    go_wp2_with (go_at_call 88; refine (rres_calls _ (HWa.out.below hB) (HWb.out.below hB) (by omega) (by omega)).mono ?_; rintro e w' ⟨rfl, hb⟩; rw [HCH.out]; have hB := bl_next hB hb; clear hb; have k0_0 := cb hB c0_0; have k0_1 := cb hB c0_1; have k0_2 := cb hB c0_2; have k0_3 := cb hB c0_3; have k0_4 := cb hB c0_4; have k0_5 := cb hB c0_5; have k0_6 := cb hB c0_6; have k0_7 := cb hB c0_7; have k1_0 := cb hB c1_0; have k1_1 := cb hB c1_1; have k1_2 := cb hB c1_2; have k1_3 := cb hB c1_3; have k1_4 := cb hB c1_4; have k1_5 := cb hB c1_5; have k1_6 := cb hB c1_6; have k1_7 := cb hB c1_7)
                    go_ret
                    exact ⟨ret_bool HE.out.symm, bl_from Hw.out hB⟩
                  | false =>
                    have HE := Lib.hid (show alikeO a b = true by rw [HAL.out, HCH.out]; simp)
                    go_wp2_with (go_at_call 88; refine (rres_calls _ (HWa.out.below hB) (HWb.out.below hB) (by omega) (by omega)).mono ?_; rintro e w' ⟨rfl, hb⟩; rw [HCH.out]; have hB := bl_next hB hb; clear hb; have k0_0 := cb hB c0_0; have k0_1 := cb hB c0_1; have k0_2 := cb hB c0_2; have k0_3 := cb hB c0_3; have k0_4 := cb hB c0_4; have k0_5 := cb hB c0_5; have k0_6 := cb hB c0_6; have k0_7 := cb hB c0_7; have k1_0 := cb hB c1_0; have k1_1 := cb hB c1_1; have k1_2 := cb hB c1_2; have k1_3 := cb hB c1_3; have k1_4 := cb hB c1_4; have k1_5 := cb hB c1_5; have k1_6 := cb hB c1_6; have k1_7 := cb hB c1_7)
                    go_ret
                    exact ⟨ret_bool HE.out.symm, bl_from Hw.out hB⟩
          · have HE := Lib.hid (show alikeO a b = false by rw [HAL.out]; simp [h_cls])
            have hbf := beqF h_cls
            have hbn := neF h_cls
            clear h_cls
            go_wp2_with (go_at_call 88; refine (rres_calls _ (HWa.out.below hB) (HWb.out.below hB) (by omega) (by omega)).mono ?_; rintro e w' ⟨rfl, hb⟩; rw [HCH.out]; have hB := bl_next hB hb; clear hb; have k0_0 := cb hB c0_0; have k0_1 := cb hB c0_1; have k0_2 := cb hB c0_2; have k0_3 := cb hB c0_3; have k0_4 := cb hB c0_4; have k0_5 := cb hB c0_5; have k0_6 := cb hB c0_6; have k0_7 := cb hB c0_7; have k1_0 := cb hB c1_0; have k1_1 := cb hB c1_1; have k1_2 := cb hB c1_2; have k1_3 := cb hB c1_3; have k1_4 := cb hB c1_4; have k1_5 := cb hB c1_5; have k1_6 := cb hB c1_6; have k1_7 := cb hB c1_7)
            go_ret
            exact ⟨ret_bool HE.out.symm, bl_from Hw.out hB⟩
        · have HE := Lib.hid (show alikeO a b = false by rw [HAL.out]; simp [h_kn])
          have hbf := beqF h_kn
          have hbn := neF h_kn
          clear h_kn
          go_wp2_with (go_at_call 88; refine (rres_calls _ (HWa.out.below hB) (HWb.out.below hB) (by omega) (by omega)).mono ?_; rintro e w' ⟨rfl, hb⟩; rw [HCH.out]; have hB := bl_next hB hb; clear hb; have k0_0 := cb hB c0_0; have k0_1 := cb hB c0_1; have k0_2 := cb hB c0_2; have k0_3 := cb hB c0_3; have k0_4 := cb hB c0_4; have k0_5 := cb hB c0_5; have k0_6 := cb hB c0_6; have k0_7 := cb hB c0_7; have k1_0 := cb hB c1_0; have k1_1 := cb hB c1_1; have k1_2 := cb hB c1_2; have k1_3 := cb hB c1_3; have k1_4 := cb hB c1_4; have k1_5 := cb hB c1_5; have k1_6 := cb hB c1_6; have k1_7 := cb hB c1_7)
          go_ret
          exact ⟨ret_bool HE.out.symm, bl_from Hw.out hB⟩
      · have HE := Lib.hid (show alikeO a b = false by rw [HAL.out]; simp [h_ks])
        have hbf := beqF h_ks
        have hbn := neF h_ks
        clear h_ks
        go_wp2_with (go_at_call 88; refine (rres_calls _ (HWa.out.below hB) (HWb.out.below hB) (by omega) (by omega)).mono ?_; rintro e w' ⟨rfl, hb⟩; rw [HCH.out]; have hB := bl_next hB hb; clear hb; have k0_0 := cb hB c0_0; have k0_1 := cb hB c0_1; have k0_2 := cb hB c0_2; have k0_3 := cb hB c0_3; have k0_4 := cb hB c0_4; have k0_5 := cb hB c0_5; have k0_6 := cb hB c0_6; have k0_7 := cb hB c0_7; have k1_0 := cb hB c1_0; have k1_1 := cb hB c1_1; have k1_2 := cb hB c1_2; have k1_3 := cb hB c1_3; have k1_4 := cb hB c1_4; have k1_5 := cb hB c1_5; have k1_6 := cb hB c1_6; have k1_7 := cb hB c1_7)
        go_ret
        exact ⟨ret_bool HE.out.symm, bl_from Hw.out hB⟩
    · have HE := Lib.hid (show alikeO a b = false by rw [HAL.out]; simp [h_kk])
      have hbf := beqF h_kk
      have hbn := neF h_kk
      clear h_kk
      go_wp2_with (go_at_call 88; refine (rres_calls _ (HWa.out.below hB) (HWb.out.below hB) (by omega) (by omega)).mono ?_; rintro e w' ⟨rfl, hb⟩; rw [HCH.out]; have hB := bl_next hB hb; clear hb; have k0_0 := cb hB c0_0; have k0_1 := cb hB c0_1; have k0_2 := cb hB c0_2; have k0_3 := cb hB c0_3; have k0_4 := cb hB c0_4; have k0_5 := cb hB c0_5; have k0_6 := cb hB c0_6; have k0_7 := cb hB c0_7; have k1_0 := cb hB c1_0; have k1_1 := cb hB c1_1; have k1_2 := cb hB c1_2; have k1_3 := cb hB c1_3; have k1_4 := cb hB c1_4; have k1_5 := cb hB c1_5; have k1_6 := cb hB c1_6; have k1_7 := cb hB c1_7)
      go_ret
      exact ⟨ret_bool HE.out.symm, bl_from Hw.out hB⟩
  · have HCH := Lib.hid (show decide (la = lb) = false from decide_eq_false hch)
    have HE := Lib.hid (show alikeO a b = false by rw [HAL.out, HCH.out]; simp)
    clear hch
    go_wp2_with (go_at_call 88; refine (rres_calls _ (HWa.out.below hB) (HWb.out.below hB) (by omega) (by omega)).mono ?_; rintro e w' ⟨rfl, hb⟩; rw [HCH.out]; have hB := bl_next hB hb; clear hb; have k0_0 := cb hB c0_0; have k0_1 := cb hB c0_1; have k0_2 := cb hB c0_2; have k0_3 := cb hB c0_3; have k0_4 := cb hB c0_4; have k0_5 := cb hB c0_5; have k0_6 := cb hB c0_6; have k0_7 := cb hB c0_7; have k1_0 := cb hB c1_0; have k1_1 := cb hB c1_1; have k1_2 := cb hB c1_2; have k1_3 := cb hB c1_3; have k1_4 := cb hB c1_4; have k1_5 := cb hB c1_5; have k1_6 := cb hB c1_6; have k1_7 := cb hB c1_7)
    go_ret
    exact ⟨ret_bool HE.out.symm, bl_from Hw.out hB⟩
set_option maxRecDepth 100000 in
set_option maxHeartbeats 8000000 in
theorem rosame_calls (w : World) {sa sb : Value} {a b : ObjD} (ha : ObjS w sa a) (hb : ObjS w sb b) (hl : a.charge.length ≤ 1000000 ∧ b.charge.length ≤ 1000000) :
    Calls Try.prog 24 #[objV a sa, objV b sb] w fun e w' => e = .returned (.bool (sameO a b)) ∧ Below w.heap.size w w' := by
  have HA := Lib.hid ha; have HB := Lib.hid hb
  have HAL := Lib.hid (fun (W : World) (h : Below w.heap.size w W) => roalike_calls W (ha.below h) (hb.below h) hl)
  obtain ⟨aa, ca, rfl⟩ := ha.1.form
  obtain ⟨ab, cb', rfl⟩ := hb.1.form
  clear ha hb hl
  unfold objV at HAL
  unfold objV
  go_enter Try.func24, Try.ntmps24
  go_upto_region 1 with fail
  first | with_reducible refine name_wp ?_ | with_reducible refine name_calls ?_
  intro W hWeq
  have g0 : W.heap[w.heap.size]? = some (.cells #[.string a.key.kind, .string a.key.space, .string a.key.name, .int .i64 a.ver, .string a.cls, .bool a.term, .bool a.best, .slice aa a.charge.length ca] 27) := by rw [hWeq]; repeat (first | (with_reducible exact blk_newAt _ _ (by simp)) | with_reducible refine blk_drew ?_ | with_reducible refine blk_dN ?_ _ | with_reducible refine blk_old ?_ _)
  have g1 : W.heap[w.heap.size + 1]? = some (.cells #[.string b.key.kind, .string b.key.space, .string b.key.name, .int .i64 b.ver, .string b.cls, .bool b.term, .bool b.best, .slice ab b.charge.length cb'] 27) := by rw [hWeq]; repeat (first | (with_reducible exact blk_newAt _ _ (by simp)) | with_reducible refine blk_drew ?_ | with_reducible refine blk_dN ?_ _ | with_reducible refine blk_old ?_ _)
  have hw : Below w.heap.size w W := by rw [hWeq]; repeat (first | with_reducible exact Below.refl _ _ | with_reducible refine Below.drew ?_ | with_reducible refine bl_dN ?_ _ | with_reducible refine Below.alloc ?_ (by simp <;> omega) _)
  clear hWeq
  have hz : w.heap.size + 2 ≤ W.heap.size := by have := blk_lt g1; omega
  have c0_0 : W.cell? ⟨w.heap.size, 0, none⟩ = some (.string a.key.kind) := blk_cell g0 0
  have c0_1 : W.cell? ⟨w.heap.size, 1, none⟩ = some (.string a.key.space) := blk_cell g0 1
  have c0_2 : W.cell? ⟨w.heap.size, 2, none⟩ = some (.string a.key.name) := blk_cell g0 2
  have c0_3 : W.cell? ⟨w.heap.size, 3, none⟩ = some (.int .i64 a.ver) := blk_cell g0 3
  have c0_4 : W.cell? ⟨w.heap.size, 4, none⟩ = some (.string a.cls) := blk_cell g0 4
  have c0_5 : W.cell? ⟨w.heap.size, 5, none⟩ = some (.bool a.term) := blk_cell g0 5
  have c0_6 : W.cell? ⟨w.heap.size, 6, none⟩ = some (.bool a.best) := blk_cell g0 6
  have c0_7 : W.cell? ⟨w.heap.size, 7, none⟩ = some (.slice aa a.charge.length ca) := blk_cell g0 7
  have f0 : ∀ j, W.frozen? ⟨w.heap.size, j, none⟩ = false := blk_free g0
  have c1_0 : W.cell? ⟨w.heap.size + 1, 0, none⟩ = some (.string b.key.kind) := blk_cell g1 0
  have c1_1 : W.cell? ⟨w.heap.size + 1, 1, none⟩ = some (.string b.key.space) := blk_cell g1 1
  have c1_2 : W.cell? ⟨w.heap.size + 1, 2, none⟩ = some (.string b.key.name) := blk_cell g1 2
  have c1_3 : W.cell? ⟨w.heap.size + 1, 3, none⟩ = some (.int .i64 b.ver) := blk_cell g1 3
  have c1_4 : W.cell? ⟨w.heap.size + 1, 4, none⟩ = some (.string b.cls) := blk_cell g1 4
  have c1_5 : W.cell? ⟨w.heap.size + 1, 5, none⟩ = some (.bool b.term) := blk_cell g1 5
  have c1_6 : W.cell? ⟨w.heap.size + 1, 6, none⟩ = some (.bool b.best) := blk_cell g1 6
  have c1_7 : W.cell? ⟨w.heap.size + 1, 7, none⟩ = some (.slice ab b.charge.length cb') := blk_cell g1 7
  have f1 : ∀ j, W.frozen? ⟨w.heap.size + 1, j, none⟩ = false := blk_free g1
  have hB : Below W.heap.size W W := Below.refl _ _
  have G0 := Lib.hid g0; clear g0
  have F0 := Lib.hid f0; clear f0
  have G1 := Lib.hid g1; clear g1
  have F1 := Lib.hid f1; clear f1
  have Hw := Lib.hid hw; clear hw
  have HS : Hid (sameO a b = (alikeO a b && decide (a.ver = b.ver))) := Lib.hid rfl
  obtain ⟨al, hal⟩ : ∃ x, alikeO a b = x := ⟨_, rfl⟩
  have HALE := Lib.hid hal
  rw [hal] at HS
  clear hal
  cases al with
  | false =>
    go_wp2_with (go_at_call 65; refine (HAL.out _ Hw.out).mono ?_; rintro e w' ⟨rfl, hb⟩; rw [HALE.out]; have hB := bl_next hB hb; clear hb)
    go_ret
    exact ⟨ret_bool (by rw [HS.out]; rfl), bl_from Hw.out hB⟩
  | true =>
    go_wp2_with (go_at_call 65; refine (HAL.out _ Hw.out).mono ?_; rintro e w' ⟨rfl, hb⟩; rw [HALE.out]; have hB := bl_next hB hb; have k0 := cb hb c0_3; have k1 := cb hb c1_3; clear hb)
    go_ret
    exact ⟨ret_bool (by rw [HS.out]; first | rfl | (simp; done) | (rw [Bool.true_and]; exact (beq_eq_decide _ _)) | (rw [Bool.true_and]; exact (beq_eq_decide _ _).symm)), bl_from Hw.out hB⟩
end Go.Proofs.Ythhfcambdmdgfaa
namespace Go.Proofs.Ythhfcambdmdgfaa
open Go.RowKit Go.Maps
set_option linter.unusedVariables false
set_option linter.unusedSimpArgs false
theorem refKeyB_calls (a b c : ByteArray) (w : World) (ha : a.size ≤ 1000) (hb : b.size ≤ 1000) (hc : c.size ≤ 1000) :
    Calls Try.prog 62 #[.agg #[.string a, .string b, .string c]] w fun e w' => e = .returned (.bool (keyB a b c)) ∧ Below w.heap.size w w' :=
  (refKey_calls a b c w (by omega) (by omega) (by omega)).mono fun e w' h => ⟨h.1, h.2⟩
set_option maxRecDepth 100000 in
set_option maxHeartbeats 32000000 in
theorem roright_calls (w : World) {sl : Value} {o : ObjD} (h : ObjS w sl o) (hs : objSmall o) :
    Calls Try.prog 61 #[objV o sl] w fun e w' => e = .returned (.bool (rightO o)) ∧ Below w.heap.size w w' := by
  have hB := Below.refl w.heap.size w
  have H := Lib.hid h.1
  have HS := Lib.hid hs
  obtain ⟨al, cl, rfl⟩ := h.1.form
  obtain ⟨⟨hs1, hs2, hs3⟩, hs4, hs5, hs6⟩ := hs
  have HSZ := Lib.hid hs6
  have hv := h.2
  unfold in64 at hv
  obtain ⟨hv1, hv2⟩ := hv
  clear h hs6
  obtain ⟨l, hl⟩ : ∃ l, o.charge = l := ⟨_, rfl⟩
  have HO := Lib.hid (show rightO o = (keyOk o.key && decide (1 ≤ o.ver) && clsB o.cls && decide (l.length ≤ 16) && chargeB l) by rw [← hl]; rfl)
  unfold objV
  rw [hl] at H HSZ hs5 ⊢
  clear hl
  obtain ⟨⟨kk, ks, kn⟩, ver, cls, term, best, chg⟩ := o
  simp only at HO hs1 hs2 hs3 hs4 hv1 hv2 ⊢
  clear HS
  go_enter Try.func61, Try.ntmps61
  go_upto_region 1 with fail
  first | with_reducible refine name_wp ?_ | with_reducible refine name_calls ?_
  intro W hWeq
  have g0 : W.heap[w.heap.size]? = some (.cells #[.string kk, .string ks, .string kn, .int .i64 ver, .string cls, .bool term, .bool best, .slice al l.length cl] 27) := by rw [hWeq]; repeat (first | (with_reducible exact blk_newAt _ _ (by simp)) | with_reducible refine blk_drew ?_ | with_reducible refine blk_dN ?_ _ | with_reducible refine blk_old ?_ _)
  have hw : Below w.heap.size w W := by rw [hWeq]; repeat (first | with_reducible exact Below.refl _ _ | with_reducible refine Below.drew ?_ | with_reducible refine bl_dN ?_ _ | with_reducible refine Below.alloc ?_ (by simp <;> omega) _)
  clear hWeq
  have hz : w.heap.size + 1 ≤ W.heap.size := by have := blk_lt g0; omega
  have c0_0 : W.cell? ⟨w.heap.size, 0, none⟩ = some (.string kk) := blk_cell g0 0
  have c0_1 : W.cell? ⟨w.heap.size, 1, none⟩ = some (.string ks) := blk_cell g0 1
  have c0_2 : W.cell? ⟨w.heap.size, 2, none⟩ = some (.string kn) := blk_cell g0 2
  have c0_3 : W.cell? ⟨w.heap.size, 3, none⟩ = some (.int .i64 ver) := blk_cell g0 3
  have c0_4 : W.cell? ⟨w.heap.size, 4, none⟩ = some (.string cls) := blk_cell g0 4
  have c0_5 : W.cell? ⟨w.heap.size, 5, none⟩ = some (.bool term) := blk_cell g0 5
  have c0_6 : W.cell? ⟨w.heap.size, 6, none⟩ = some (.bool best) := blk_cell g0 6
  have c0_7 : W.cell? ⟨w.heap.size, 7, none⟩ = some (.slice al l.length cl) := blk_cell g0 7
  have f0 : ∀ j, W.frozen? ⟨w.heap.size, j, none⟩ = false := blk_free g0
  have hB : Below W.heap.size W W := Below.refl _ _
  have G0 := Lib.hid g0; clear g0
  have F0 := Lib.hid f0; clear f0
  have Hw := Lib.hid hw; clear hw
  have HW := Lib.hid (H.out.below Hw.out)
  have hWw := Hw.out.size
  have HKO := Lib.hid (show keyB kk ks kn = keyOk ⟨kk, ks, kn⟩ from rfl)
  obtain ⟨ko, hko⟩ : ∃ b, keyOk ⟨kk, ks, kn⟩ = b := ⟨_, rfl⟩
  have HKOE := Lib.hid hko
  rw [hko] at HKO
  obtain ⟨rc, hrc⟩ : ∃ b, rightB cls = b := ⟨_, rfl⟩
  have HRC := Lib.hid hrc
  have HCE : Hid (cls.toList = [] ↔ cls = ⟨#[]⟩) := Lib.hid ⟨fun e => ba_eq.1 (by rw [e, empty_list]), fun e => by rw [e, empty_list]⟩
  clear hko hrc
  cases ko with
  | false =>
    have HN := Lib.hid (show rightO ⟨⟨kk, ks, kn⟩, ver, cls, term, best, chg⟩ = false by rw [HO.out]; rw [HKOE.out]; simp)
    go_wp2_with (first | (go_at_call 62; refine (refKeyB_calls _ _ _ _ (by omega) (by omega) (by omega)).mono ?_; rintro e w' ⟨rfl, hb⟩; rw [HKO.out]; have hB := bl_next hB hb; have c0_0 := cb hb c0_0; have c0_1 := cb hb c0_1; have c0_2 := cb hb c0_2; have c0_3 := cb hb c0_3; have c0_4 := cb hb c0_4; have c0_5 := cb hb c0_5; have c0_6 := cb hb c0_6; have c0_7 := cb hb c0_7; clear hb) | (go_at_call 86; refine (rightR_calls _ _ (by omega)).mono ?_; rintro e w' ⟨rfl, hb⟩; rw [HRC.out]; have hB := bl_next hB hb; have c0_0 := cb hb c0_0; have c0_1 := cb hb c0_1; have c0_2 := cb hb c0_2; have c0_3 := cb hb c0_3; have c0_4 := cb hb c0_4; have c0_5 := cb hb c0_5; have c0_6 := cb hb c0_6; have c0_7 := cb hb c0_7; clear hb))
    go_ret
    exact ⟨ret_bool HN.out.symm, bl_from Hw.out hB⟩
  | true =>
    have HKO' := HKOE.out
    clear HKOE
    have HKOX := Lib.hid HKO'
    by_cases hcls : cls = ⟨#[]⟩
    · have hc1 : cls.toList = [] := HCE.out.2 hcls
      have HCB := Lib.hid (show clsB cls = true by unfold clsB; rw [decide_eq_true hcls]; rfl)
      have HRF : Hid (rightB cls = false) := Lib.hid (by rw [hcls]; rfl)
      obtain rfl : rc = false := HRC.out.symm.trans HRF.out
      clear HCE hcls HRF
      clear HKO'
      by_cases hver : 1 ≤ ver
      · have hv0 : ¬ ver < 1 := by omega
        have hv1 : decide (ver < 1) = false := decide_eq_false hv0
        by_cases h16 : l.length ≤ 16
        · have h16I : ¬ (16 : Int) < l.length := by omega
          have h16J : decide ((16 : Int) < l.length) = false := decide_eq_false h16I
          have HHD := Lib.hid (show (keyOk ⟨kk, ks, kn⟩ && decide (1 ≤ ver) && clsB cls && decide (l.length ≤ 16)) = true by rw [HKOX.out, HCB.out, decide_eq_true hver, decide_eq_true h16]; rfl)
          go_upto_region 5 with (first | (go_at_call 62; refine (refKeyB_calls _ _ _ _ (by omega) (by omega) (by omega)).mono ?_; rintro e w' ⟨rfl, hb⟩; rw [HKO.out]; have hB := bl_next hB hb; have c0_0 := cb hb c0_0; have c0_1 := cb hb c0_1; have c0_2 := cb hb c0_2; have c0_3 := cb hb c0_3; have c0_4 := cb hb c0_4; have c0_5 := cb hb c0_5; have c0_6 := cb hb c0_6; have c0_7 := cb hb c0_7; clear hb) | (go_at_call 86; refine (rightR_calls _ _ (by omega)).mono ?_; rintro e w' ⟨rfl, hb⟩; rw [HRC.out]; have hB := bl_next hB hb; have c0_0 := cb hb c0_0; have c0_1 := cb hb c0_1; have c0_2 := cb hb c0_2; have c0_3 := cb hb c0_3; have c0_4 := cb hb c0_4; have c0_5 := cb hb c0_5; have c0_6 := cb hb c0_6; have c0_7 := cb hb c0_7; clear hb))
          obtain ⟨W2, rfl⟩ : ∃ W2 : World, W2 = w' := ⟨_, rfl⟩
          have HW2 := Lib.hid (HW.out.below hB)
          have HB2 := Lib.hid (bl_from Hw.out hB)
          clear hB
          have hB := Below.refl W2.heap.size W2
          go_wp2_with fail
          go_loopw [5] (fun i wr => ∃ k : Nat, i = .int .i64 k ∧ k ≤ l.length ∧ Hid (chargeB (l.take k) = true) ∧ Below W2.heap.size W2 wr) (fun i _ => l.length - (intOf i).toNat)
          case atStart => exact ⟨0, rfl, Nat.zero_le _, Lib.hid rfl, hB⟩
          case round =>
            clear hB
            obtain ⟨k, rfl, hk, HR, hB⟩ := hrel
            have k7 := cb hB c0_7
            by_cases hkl : k < l.length
            · have hkI : (k : Int) < l.length := by omega
              obtain ⟨b, of, c, he, q0, q1, hin⟩ := HW2.out.at' hkl
              cases he
              have q0 := cb hB q0; have q1 := cb hB q1
              have hsz := HSZ.out _ (List.getElem_mem hkl)
              have NOT := Lib.hid (show chargeB (l.take (k + 1)) = false → rightO ⟨⟨kk, ks, kn⟩, ver, cls, term, best, chg⟩ = false from fun e => by rw [HO.out, chargeB_take e]; simp)
              have STEP := Lib.hid (chargeB_at hkl HR.out)
              have PREV : Hid (∀ h0 : 0 < k, ∃ s, (l[k - 1]'(by omega)).1 = s ∧ wr.cell? ⟨b, of + (k - 1) * 2, none⟩ = some (.string s) ∧ s.size ≤ 1000) := Lib.hid fun h0 => by
                obtain ⟨b', o', c', he', q0', _⟩ := HW2.out.at' (show k - 1 < l.length by omega)
                cases he'
                exact ⟨_, rfl, cb hB q0', HSZ.out _ (List.getElem_mem _)⟩
              clear hin
              obtain ⟨p, hp⟩ : ∃ p, l[k]'hkl = p := ⟨_, rfl⟩
              rw [hp] at q0 q1 hsz STEP
              clear hp
              obtain ⟨V, rfl⟩ : ∃ V : World, V = wr := ⟨_, rfl⟩
              have HBV := Lib.hid hB
              have hVw : W2.heap.size ≤ V.heap.size := hB.size
              clear hB
              have hB := Below.refl V.heap.size V
              by_cases hrt : rightB p.1 = true
              · by_cases hz : p.2 < 0
                · have HN := Lib.hid (NOT.out (by rw [STEP.out]; unfold resB; rw [show decide (0 ≤ p.2) = false by simpa using hz]; simp))
                  have hzd : decide (p.2 < 0) = true := by simpa using hz
                  go_wp2_with (go_at_call 86; refine (rightR_calls _ _ (by omega)).mono ?_; rintro e w' ⟨rfl, hb⟩; rw [hrt]; have hB := bl_next hB hb; have q0 := cb hb q0; have q1 := cb hb q1; have k7 := cb hb k7; clear hb)
                  go_ret
                  exact ⟨ret_bool HN.out.symm, bl_next HB2.out (bl_next HBV.out hB)⟩
                · have hzI : 0 ≤ p.2 := by omega
                  have hzd : decide (p.2 < 0) = false := by simpa using hzI
                  have HE := Lib.hid (show resB p = true by unfold resB; rw [hrt]; simpa using hzI)
                  by_cases h0 : k = 0
                  · subst h0
                    simp only [Nat.zero_mul, Nat.add_zero] at q0 q1
                    have HOK := Lib.hid (show chargeB (l.take 1) = true by have := STEP.out; rw [HE.out] at this; simpa using this)
                    go_wp2_with (go_at_call 86; refine (rightR_calls _ _ (by omega)).mono ?_; rintro e w' ⟨rfl, hb⟩; rw [hrt]; have hB := bl_next hB hb; have q0 := cb hb q0; have q1 := cb hb q1; have k7 := cb hb k7; clear hb)
                    go_roundw
                    case rel => exact ⟨1, rfl, by omega, HOK, bl_next HBV.out hB⟩
                    case measure => simp [intOf]; omega
                  · obtain ⟨s, hs, hc, hssz⟩ := PREV.out (by omega)
                    have hk0 : (0 : Int) < k := by omega
                    have hk1 : ((k : Int) - 1).toNat = k - 1 := by omega
                    have hk2 : (0 : Int) ≤ (k : Int) - 1 := by omega
                    have hk3 : (k : Int) - 1 < l.length := by omega
                    have hk4 : (1 : Int) ≤ k := by omega
                    have hk5 : 0 < k := by omega
                    have hk6 : decide (0 < k) = true := decide_eq_true hk5
                    have hk7 : IntKind.i64.wrap ((k : Int) - 1) = (k : Int) - 1 := IntWalk.i64_in _ (by omega)
                    have hk8 : 1 ≤ k := hk5
                    go_upto_region 12 with (go_at_call 86; refine (rightR_calls _ _ (by omega)).mono ?_; rintro e w' ⟨rfl, hb⟩; rw [hrt]; have hB := bl_next hB hb; have q0 := cb hb q0; have q1 := cb hb q1; have k7 := cb hb k7; clear hb)
                    obtain ⟨V2, rfl⟩ : ∃ V2 : World, V2 = w' := ⟨_, rfl⟩
                    have r0 := cb hB hc
                    have HBV2 := Lib.hid (bl_next HBV.out hB)
                    clear hB
                    have hB := Below.refl V2.heap.size V2
                    cases hlt : ltB s p.1 with
                    | true =>
                      have HLT := Lib.hid hlt
                      have HOK := Lib.hid (show chargeB (l.take (k + 1)) = true by have := STEP.out; rw [HE.out, dif_pos (by omega), hs, hlt] at this; simpa using this)
                      clear hlt
                      have hB := hB.drew
                      refine region_seq (fun w' => Below V2.heap.size V2 w') [(0, true), (1, true), (2, true), (3, true), (4, true), (5, true), (6, true), (7, true), (8, true), (9, true), (10, true), (11, true), (12, true), (13, false), (14, true)] (by kernel_rfl) (by kernel_rfl) (fun _ _ _ _ h => h) hB ?_
                      try generalize World.drew _ = wS at hB ⊢
                      refine seq_take (v := ?_) (a' := ?_) (some 63) rfl rfl (by rfl) ?_ ?_ ?_
                      rotate_left; rotate_left
                      · intro w' hS; go_simp; with_reducible rfl
                      · simp only [Act.put, List.setIfInBounds_toArray, List.set_cons_zero, List.set_cons_succ]; rfl
                      refine seq_take (v := ?_) (a' := ?_) (some 64) rfl rfl (by rfl) ?_ ?_ ?_
                      rotate_left; rotate_left
                      · intro w' hS; have p0 := cb hS q0; have p1 := cb hS r0; have p7 := cb hS k7; go_simp; with_reducible rfl
                      · simp only [Act.put, List.setIfInBounds_toArray, List.set_cons_zero, List.set_cons_succ]; rfl
                      refine seq_take (v := ?_) (a' := ?_) (some 65) rfl rfl (by rfl) ?_ ?_ ?_
                      rotate_left; rotate_left
                      · intro w' hS; go_simp; with_reducible rfl
                      · simp only [Act.put, List.setIfInBounds_toArray, List.set_cons_zero, List.set_cons_succ]; rfl
                      refine seq_take (v := ?_) (a' := ?_) (some 66) rfl rfl (by rfl) ?_ ?_ ?_
                      rotate_left; rotate_left
                      · intro w' hS; go_simp; with_reducible rfl
                      · simp only [Act.put, List.setIfInBounds_toArray, List.set_cons_zero, List.set_cons_succ]; rfl
                      refine seq_take (v := ?_) (a' := ?_) (some 67) rfl rfl (by rfl) ?_ ?_ ?_
                      rotate_left; rotate_left
                      · intro w' hS; go_simp; with_reducible rfl
                      · simp only [Act.put, List.setIfInBounds_toArray, List.set_cons_zero, List.set_cons_succ]; rfl
                      refine seq_take (v := ?_) (a' := ?_) (some 68) rfl rfl (by rfl) ?_ ?_ ?_
                      rotate_left; rotate_left
                      · intro w' hS; go_simp; with_reducible rfl
                      · simp only [Act.put, List.setIfInBounds_toArray, List.set_cons_zero, List.set_cons_succ]; rfl
                      refine seq_take (v := ?_) (a' := ?_) (some 69) rfl rfl (by rfl) ?_ ?_ ?_
                      rotate_left; rotate_left
                      · intro w' hS; have p0 := cb hS q0; have p1 := cb hS r0; have p7 := cb hS k7; go_simp; with_reducible rfl
                      · simp only [Act.put, List.setIfInBounds_toArray, List.set_cons_zero, List.set_cons_succ]; rfl
                      refine seq_take (v := ?_) (a' := ?_) (some 70) rfl rfl (by rfl) ?_ ?_ ?_
                      rotate_left; rotate_left
                      · intro w' hS; go_simp; with_reducible rfl
                      · simp only [Act.put, List.setIfInBounds_toArray, List.set_cons_zero, List.set_cons_succ]; rfl
                      refine seq_take (v := ?_) (a' := ?_) (some 71) rfl rfl (by rfl) ?_ ?_ ?_
                      rotate_left; rotate_left
                      · intro w' hS; have p0 := cb hS q0; have p1 := cb hS r0; have p7 := cb hS k7; go_simp; with_reducible rfl
                      · simp only [Act.put, List.setIfInBounds_toArray, List.set_cons_zero, List.set_cons_succ]; rfl
                      refine seq_take (v := ?_) (a' := ?_) (some 72) rfl rfl (by rfl) ?_ ?_ ?_
                      rotate_left; rotate_left
                      · intro w' hS; go_simp; with_reducible rfl
                      · simp only [Act.put, List.setIfInBounds_toArray, List.set_cons_zero, List.set_cons_succ]; rfl
                      refine seq_take (v := ?_) (a' := ?_) (some 73) rfl rfl (by rfl) ?_ ?_ ?_
                      rotate_left; rotate_left
                      · intro w' hS; go_simp; with_reducible rfl
                      · simp only [Act.put, List.setIfInBounds_toArray, List.set_cons_zero, List.set_cons_succ]; rfl
                      refine seq_take (v := ?_) (a' := ?_) (some 74) rfl rfl (by rfl) ?_ ?_ ?_
                      rotate_left; rotate_left
                      · intro w' hS; go_simp; with_reducible rfl
                      · simp only [Act.put, List.setIfInBounds_toArray, List.set_cons_zero, List.set_cons_succ]; rfl
                      refine seq_take (v := ?_) (a' := ?_) (some 75) rfl rfl (by rfl) ?_ ?_ ?_
                      rotate_left; rotate_left
                      · intro w' hS; have p0 := cb hS q0; have p1 := cb hS r0; have p7 := cb hS k7; go_simp; with_reducible rfl
                      · simp only [Act.put, List.setIfInBounds_toArray, List.set_cons_zero, List.set_cons_succ]; rfl
                      refine seq_call (args := ?_) Try.func81 (by kernel_rfl) rfl (some 76) rfl rfl (by rfl) rfl ?_ ?_
                      rotate_left
                      · simp only [List.map_toArray, List.map_cons, List.map_nil]; go_simp; rfl
                      with_reducible refine (beforeB_calls _ _ _ (by omega) (by omega)).mono ?_
                      rintro e w' ⟨rfl, hb⟩
                      rw [HLT.out]
                      refine ⟨_, rfl, bl_next (by repeat (first | with_reducible exact hB | refine Below.alloc ?_ (by have := hB.size; simp; omega) _ | refine bl_dN ?_ _ | refine Below.drew ?_ | refine Below.setCell ?_ (by have := hB.size; simp; omega) _)) hb, ?_⟩
                      have hB := bl_next (by repeat (first | with_reducible exact hB | refine Below.alloc ?_ (by have := hB.size; simp; omega) _ | refine bl_dN ?_ _ | refine Below.drew ?_ | refine Below.setCell ?_ (by have := hB.size; simp; omega) _)) hb; clear hb
                      simp only [Act.put, List.setIfInBounds_toArray, List.set_cons_zero, List.set_cons_succ]
                      refine seq_take (v := ?_) (a' := ?_) (some 7) rfl rfl (by rfl) ?_ ?_ ?_
                      rotate_left; rotate_left
                      · intro w' hS; go_simp; with_reducible rfl
                      · simp only [Act.put, List.setIfInBounds_toArray, List.set_cons_zero, List.set_cons_succ]; rfl
                      refine seq_done ?_
                      go_wp2_with fail
                      go_roundw
                      case rel => exact ⟨k + 1, by simp, by omega, HOK, bl_next HBV2.out hB⟩
                      case measure => simp [intOf]; omega
                    | false =>
                      have HLT := Lib.hid hlt
                      have HN := Lib.hid (NOT.out (by have := STEP.out; rw [HE.out, dif_pos (by omega), hs, hlt] at this; simpa using this))
                      clear hlt
                      have hB := hB.drew
                      refine region_seq (fun w' => Below V2.heap.size V2 w') [(0, true), (1, true), (2, true), (3, true), (4, true), (5, true), (6, true), (7, true), (8, true), (9, true), (10, true), (11, true), (12, true), (13, false), (14, true)] (by kernel_rfl) (by kernel_rfl) (fun _ _ _ _ h => h) hB ?_
                      try generalize World.drew _ = wS at hB ⊢
                      refine seq_take (v := ?_) (a' := ?_) (some 63) rfl rfl (by rfl) ?_ ?_ ?_
                      rotate_left; rotate_left
                      · intro w' hS; go_simp; with_reducible rfl
                      · simp only [Act.put, List.setIfInBounds_toArray, List.set_cons_zero, List.set_cons_succ]; rfl
                      refine seq_take (v := ?_) (a' := ?_) (some 64) rfl rfl (by rfl) ?_ ?_ ?_
                      rotate_left; rotate_left
                      · intro w' hS; have p0 := cb hS q0; have p1 := cb hS r0; have p7 := cb hS k7; go_simp; with_reducible rfl
                      · simp only [Act.put, List.setIfInBounds_toArray, List.set_cons_zero, List.set_cons_succ]; rfl
                      refine seq_take (v := ?_) (a' := ?_) (some 65) rfl rfl (by rfl) ?_ ?_ ?_
                      rotate_left; rotate_left
                      · intro w' hS; go_simp; with_reducible rfl
                      · simp only [Act.put, List.setIfInBounds_toArray, List.set_cons_zero, List.set_cons_succ]; rfl
                      refine seq_take (v := ?_) (a' := ?_) (some 66) rfl rfl (by rfl) ?_ ?_ ?_
                      rotate_left; rotate_left
                      · intro w' hS; go_simp; with_reducible rfl
                      · simp only [Act.put, List.setIfInBounds_toArray, List.set_cons_zero, List.set_cons_succ]; rfl
                      refine seq_take (v := ?_) (a' := ?_) (some 67) rfl rfl (by rfl) ?_ ?_ ?_
                      rotate_left; rotate_left
                      · intro w' hS; go_simp; with_reducible rfl
                      · simp only [Act.put, List.setIfInBounds_toArray, List.set_cons_zero, List.set_cons_succ]; rfl
                      refine seq_take (v := ?_) (a' := ?_) (some 68) rfl rfl (by rfl) ?_ ?_ ?_
                      rotate_left; rotate_left
                      · intro w' hS; go_simp; with_reducible rfl
                      · simp only [Act.put, List.setIfInBounds_toArray, List.set_cons_zero, List.set_cons_succ]; rfl
                      refine seq_take (v := ?_) (a' := ?_) (some 69) rfl rfl (by rfl) ?_ ?_ ?_
                      rotate_left; rotate_left
                      · intro w' hS; have p0 := cb hS q0; have p1 := cb hS r0; have p7 := cb hS k7; go_simp; with_reducible rfl
                      · simp only [Act.put, List.setIfInBounds_toArray, List.set_cons_zero, List.set_cons_succ]; rfl
                      refine seq_take (v := ?_) (a' := ?_) (some 70) rfl rfl (by rfl) ?_ ?_ ?_
                      rotate_left; rotate_left
                      · intro w' hS; go_simp; with_reducible rfl
                      · simp only [Act.put, List.setIfInBounds_toArray, List.set_cons_zero, List.set_cons_succ]; rfl
                      refine seq_take (v := ?_) (a' := ?_) (some 71) rfl rfl (by rfl) ?_ ?_ ?_
                      rotate_left; rotate_left
                      · intro w' hS; have p0 := cb hS q0; have p1 := cb hS r0; have p7 := cb hS k7; go_simp; with_reducible rfl
                      · simp only [Act.put, List.setIfInBounds_toArray, List.set_cons_zero, List.set_cons_succ]; rfl
                      refine seq_take (v := ?_) (a' := ?_) (some 72) rfl rfl (by rfl) ?_ ?_ ?_
                      rotate_left; rotate_left
                      · intro w' hS; go_simp; with_reducible rfl
                      · simp only [Act.put, List.setIfInBounds_toArray, List.set_cons_zero, List.set_cons_succ]; rfl
                      refine seq_take (v := ?_) (a' := ?_) (some 73) rfl rfl (by rfl) ?_ ?_ ?_
                      rotate_left; rotate_left
                      · intro w' hS; go_simp; with_reducible rfl
                      · simp only [Act.put, List.setIfInBounds_toArray, List.set_cons_zero, List.set_cons_succ]; rfl
                      refine seq_take (v := ?_) (a' := ?_) (some 74) rfl rfl (by rfl) ?_ ?_ ?_
                      rotate_left; rotate_left
                      · intro w' hS; go_simp; with_reducible rfl
                      · simp only [Act.put, List.setIfInBounds_toArray, List.set_cons_zero, List.set_cons_succ]; rfl
                      refine seq_take (v := ?_) (a' := ?_) (some 75) rfl rfl (by rfl) ?_ ?_ ?_
                      rotate_left; rotate_left
                      · intro w' hS; have p0 := cb hS q0; have p1 := cb hS r0; have p7 := cb hS k7; go_simp; with_reducible rfl
                      · simp only [Act.put, List.setIfInBounds_toArray, List.set_cons_zero, List.set_cons_succ]; rfl
                      refine seq_call (args := ?_) Try.func81 (by kernel_rfl) rfl (some 76) rfl rfl (by rfl) rfl ?_ ?_
                      rotate_left
                      · simp only [List.map_toArray, List.map_cons, List.map_nil]; go_simp; rfl
                      with_reducible refine (beforeB_calls _ _ _ (by omega) (by omega)).mono ?_
                      rintro e w' ⟨rfl, hb⟩
                      rw [HLT.out]
                      refine ⟨_, rfl, bl_next (by repeat (first | with_reducible exact hB | refine Below.alloc ?_ (by have := hB.size; simp; omega) _ | refine bl_dN ?_ _ | refine Below.drew ?_ | refine Below.setCell ?_ (by have := hB.size; simp; omega) _)) hb, ?_⟩
                      have hB := bl_next (by repeat (first | with_reducible exact hB | refine Below.alloc ?_ (by have := hB.size; simp; omega) _ | refine bl_dN ?_ _ | refine Below.drew ?_ | refine Below.setCell ?_ (by have := hB.size; simp; omega) _)) hb; clear hb
                      simp only [Act.put, List.setIfInBounds_toArray, List.set_cons_zero, List.set_cons_succ]
                      refine seq_take (v := ?_) (a' := ?_) (some 7) rfl rfl (by rfl) ?_ ?_ ?_
                      rotate_left; rotate_left
                      · intro w' hS; go_simp; with_reducible rfl
                      · simp only [Act.put, List.setIfInBounds_toArray, List.set_cons_zero, List.set_cons_succ]; rfl
                      refine seq_done ?_
                      go_wp2_with fail
                      go_ret
                      exact ⟨ret_bool HN.out.symm, bl_next HB2.out (bl_next HBV2.out hB)⟩
              · have hrf : rightB p.1 = false := by simpa using hrt
                have HN := Lib.hid (NOT.out (by rw [STEP.out]; unfold resB; rw [hrf]; simp))
                clear hrt
                go_wp2_with (go_at_call 86; refine (rightR_calls _ _ (by omega)).mono ?_; rintro e w' ⟨rfl, hb⟩; rw [hrf]; have hB := bl_next hB hb; have q0 := cb hb q0; have q1 := cb hb q1; have k7 := cb hb k7; clear hb)
                go_ret
                exact ⟨ret_bool HN.out.symm, bl_next HB2.out (bl_next HBV.out hB)⟩
            · obtain rfl : k = l.length := by omega
              have hR := HR.out
              rw [List.take_length] at hR
              have HE := Lib.hid (show rightO ⟨⟨kk, ks, kn⟩, ver, cls, term, best, chg⟩ = true by rw [HO.out, hR, HHD.out]; rfl)
              clear hR
              go_wp2_with fail
              go_ret
              exact ⟨ret_bool HE.out.symm, bl_next HB2.out hB⟩
        · have h16I : (16 : Int) < l.length := by omega
          have h16J : decide ((16 : Int) < l.length) = true := decide_eq_true h16I
          have HN := Lib.hid (show rightO ⟨⟨kk, ks, kn⟩, ver, cls, term, best, chg⟩ = false by rw [HO.out]; rw [decide_eq_false h16]; simp)
          go_wp2_with (first | (go_at_call 62; refine (refKeyB_calls _ _ _ _ (by omega) (by omega) (by omega)).mono ?_; rintro e w' ⟨rfl, hb⟩; rw [HKO.out]; have hB := bl_next hB hb; have c0_0 := cb hb c0_0; have c0_1 := cb hb c0_1; have c0_2 := cb hb c0_2; have c0_3 := cb hb c0_3; have c0_4 := cb hb c0_4; have c0_5 := cb hb c0_5; have c0_6 := cb hb c0_6; have c0_7 := cb hb c0_7; clear hb) | (go_at_call 86; refine (rightR_calls _ _ (by omega)).mono ?_; rintro e w' ⟨rfl, hb⟩; rw [HRC.out]; have hB := bl_next hB hb; have c0_0 := cb hb c0_0; have c0_1 := cb hb c0_1; have c0_2 := cb hb c0_2; have c0_3 := cb hb c0_3; have c0_4 := cb hb c0_4; have c0_5 := cb hb c0_5; have c0_6 := cb hb c0_6; have c0_7 := cb hb c0_7; clear hb))
          go_ret
          exact ⟨ret_bool HN.out.symm, bl_from Hw.out hB⟩
      · have hv0 : ver < 1 := by omega
        have hv1 : decide (ver < 1) = true := decide_eq_true hv0
        have HN := Lib.hid (show rightO ⟨⟨kk, ks, kn⟩, ver, cls, term, best, chg⟩ = false by rw [HO.out]; rw [decide_eq_false hver]; simp)
        go_wp2_with (first | (go_at_call 62; refine (refKeyB_calls _ _ _ _ (by omega) (by omega) (by omega)).mono ?_; rintro e w' ⟨rfl, hb⟩; rw [HKO.out]; have hB := bl_next hB hb; have c0_0 := cb hb c0_0; have c0_1 := cb hb c0_1; have c0_2 := cb hb c0_2; have c0_3 := cb hb c0_3; have c0_4 := cb hb c0_4; have c0_5 := cb hb c0_5; have c0_6 := cb hb c0_6; have c0_7 := cb hb c0_7; clear hb) | (go_at_call 86; refine (rightR_calls _ _ (by omega)).mono ?_; rintro e w' ⟨rfl, hb⟩; rw [HRC.out]; have hB := bl_next hB hb; have c0_0 := cb hb c0_0; have c0_1 := cb hb c0_1; have c0_2 := cb hb c0_2; have c0_3 := cb hb c0_3; have c0_4 := cb hb c0_4; have c0_5 := cb hb c0_5; have c0_6 := cb hb c0_6; have c0_7 := cb hb c0_7; clear hb))
        go_ret
        exact ⟨ret_bool HN.out.symm, bl_from Hw.out hB⟩
    · have hc1 : ¬ cls.toList = [] := fun e => hcls (HCE.out.1 e)
      have hc2 : (cls.toList == []) = false := by simpa using hc1
      have hc3 : cls.toList.isEmpty = false := by simpa using hc1
      have HCB := Lib.hid (show clsB cls = rc by unfold clsB; rw [decide_eq_false hcls, HRC.out]; rfl)
      clear HCE hcls
      clear HKO'
      cases rc with
      | false =>
        have HN := Lib.hid (show rightO ⟨⟨kk, ks, kn⟩, ver, cls, term, best, chg⟩ = false by rw [HO.out]; rw [HCB.out]; simp)
        go_wp2_with (first | (go_at_call 62; refine (refKeyB_calls _ _ _ _ (by omega) (by omega) (by omega)).mono ?_; rintro e w' ⟨rfl, hb⟩; rw [HKO.out]; have hB := bl_next hB hb; have c0_0 := cb hb c0_0; have c0_1 := cb hb c0_1; have c0_2 := cb hb c0_2; have c0_3 := cb hb c0_3; have c0_4 := cb hb c0_4; have c0_5 := cb hb c0_5; have c0_6 := cb hb c0_6; have c0_7 := cb hb c0_7; clear hb) | (go_at_call 86; refine (rightR_calls _ _ (by omega)).mono ?_; rintro e w' ⟨rfl, hb⟩; rw [HRC.out]; have hB := bl_next hB hb; have c0_0 := cb hb c0_0; have c0_1 := cb hb c0_1; have c0_2 := cb hb c0_2; have c0_3 := cb hb c0_3; have c0_4 := cb hb c0_4; have c0_5 := cb hb c0_5; have c0_6 := cb hb c0_6; have c0_7 := cb hb c0_7; clear hb))
        go_ret
        exact ⟨ret_bool HN.out.symm, bl_from Hw.out hB⟩
      | true =>
        by_cases hver : 1 ≤ ver
        · have hv0 : ¬ ver < 1 := by omega
          have hv1 : decide (ver < 1) = false := decide_eq_false hv0
          by_cases h16 : l.length ≤ 16
          · have h16I : ¬ (16 : Int) < l.length := by omega
            have h16J : decide ((16 : Int) < l.length) = false := decide_eq_false h16I
            have HHD := Lib.hid (show (keyOk ⟨kk, ks, kn⟩ && decide (1 ≤ ver) && clsB cls && decide (l.length ≤ 16)) = true by rw [HKOX.out, HCB.out, decide_eq_true hver, decide_eq_true h16]; rfl)
            go_upto_region 5 with (first | (go_at_call 62; refine (refKeyB_calls _ _ _ _ (by omega) (by omega) (by omega)).mono ?_; rintro e w' ⟨rfl, hb⟩; rw [HKO.out]; have hB := bl_next hB hb; have c0_0 := cb hb c0_0; have c0_1 := cb hb c0_1; have c0_2 := cb hb c0_2; have c0_3 := cb hb c0_3; have c0_4 := cb hb c0_4; have c0_5 := cb hb c0_5; have c0_6 := cb hb c0_6; have c0_7 := cb hb c0_7; clear hb) | (go_at_call 86; refine (rightR_calls _ _ (by omega)).mono ?_; rintro e w' ⟨rfl, hb⟩; rw [HRC.out]; have hB := bl_next hB hb; have c0_0 := cb hb c0_0; have c0_1 := cb hb c0_1; have c0_2 := cb hb c0_2; have c0_3 := cb hb c0_3; have c0_4 := cb hb c0_4; have c0_5 := cb hb c0_5; have c0_6 := cb hb c0_6; have c0_7 := cb hb c0_7; clear hb))
            obtain ⟨W2, rfl⟩ : ∃ W2 : World, W2 = w' := ⟨_, rfl⟩
            have HW2 := Lib.hid (HW.out.below hB)
            have HB2 := Lib.hid (bl_from Hw.out hB)
            clear hB
            have hB := Below.refl W2.heap.size W2
            go_wp2_with fail
            go_loopw [5] (fun i wr => ∃ k : Nat, i = .int .i64 k ∧ k ≤ l.length ∧ Hid (chargeB (l.take k) = true) ∧ Below W2.heap.size W2 wr) (fun i _ => l.length - (intOf i).toNat)
            case atStart => exact ⟨0, rfl, Nat.zero_le _, Lib.hid rfl, hB⟩
            case round =>
              clear hB
              obtain ⟨k, rfl, hk, HR, hB⟩ := hrel
              have k7 := cb hB c0_7
              by_cases hkl : k < l.length
              · have hkI : (k : Int) < l.length := by omega
                obtain ⟨b, of, c, he, q0, q1, hin⟩ := HW2.out.at' hkl
                cases he
                have q0 := cb hB q0; have q1 := cb hB q1
                have hsz := HSZ.out _ (List.getElem_mem hkl)
                have NOT := Lib.hid (show chargeB (l.take (k + 1)) = false → rightO ⟨⟨kk, ks, kn⟩, ver, cls, term, best, chg⟩ = false from fun e => by rw [HO.out, chargeB_take e]; simp)
                have STEP := Lib.hid (chargeB_at hkl HR.out)
                have PREV : Hid (∀ h0 : 0 < k, ∃ s, (l[k - 1]'(by omega)).1 = s ∧ wr.cell? ⟨b, of + (k - 1) * 2, none⟩ = some (.string s) ∧ s.size ≤ 1000) := Lib.hid fun h0 => by
                  obtain ⟨b', o', c', he', q0', _⟩ := HW2.out.at' (show k - 1 < l.length by omega)
                  cases he'
                  exact ⟨_, rfl, cb hB q0', HSZ.out _ (List.getElem_mem _)⟩
                clear hin
                obtain ⟨p, hp⟩ : ∃ p, l[k]'hkl = p := ⟨_, rfl⟩
                rw [hp] at q0 q1 hsz STEP
                clear hp
                obtain ⟨V, rfl⟩ : ∃ V : World, V = wr := ⟨_, rfl⟩
                have HBV := Lib.hid hB
                have hVw : W2.heap.size ≤ V.heap.size := hB.size
                clear hB
                have hB := Below.refl V.heap.size V
                by_cases hrt : rightB p.1 = true
                · by_cases hz : p.2 < 0
                  · have HN := Lib.hid (NOT.out (by rw [STEP.out]; unfold resB; rw [show decide (0 ≤ p.2) = false by simpa using hz]; simp))
                    have hzd : decide (p.2 < 0) = true := by simpa using hz
                    go_wp2_with (go_at_call 86; refine (rightR_calls _ _ (by omega)).mono ?_; rintro e w' ⟨rfl, hb⟩; rw [hrt]; have hB := bl_next hB hb; have q0 := cb hb q0; have q1 := cb hb q1; have k7 := cb hb k7; clear hb)
                    go_ret
                    exact ⟨ret_bool HN.out.symm, bl_next HB2.out (bl_next HBV.out hB)⟩
                  · have hzI : 0 ≤ p.2 := by omega
                    have hzd : decide (p.2 < 0) = false := by simpa using hzI
                    have HE := Lib.hid (show resB p = true by unfold resB; rw [hrt]; simpa using hzI)
                    by_cases h0 : k = 0
                    · subst h0
                      simp only [Nat.zero_mul, Nat.add_zero] at q0 q1
                      have HOK := Lib.hid (show chargeB (l.take 1) = true by have := STEP.out; rw [HE.out] at this; simpa using this)
                      go_wp2_with (go_at_call 86; refine (rightR_calls _ _ (by omega)).mono ?_; rintro e w' ⟨rfl, hb⟩; rw [hrt]; have hB := bl_next hB hb; have q0 := cb hb q0; have q1 := cb hb q1; have k7 := cb hb k7; clear hb)
                      go_roundw
                      case rel => exact ⟨1, rfl, by omega, HOK, bl_next HBV.out hB⟩
                      case measure => simp [intOf]; omega
                    · obtain ⟨s, hs, hc, hssz⟩ := PREV.out (by omega)
                      have hk0 : (0 : Int) < k := by omega
                      have hk1 : ((k : Int) - 1).toNat = k - 1 := by omega
                      have hk2 : (0 : Int) ≤ (k : Int) - 1 := by omega
                      have hk3 : (k : Int) - 1 < l.length := by omega
                      have hk4 : (1 : Int) ≤ k := by omega
                      have hk5 : 0 < k := by omega
                      have hk6 : decide (0 < k) = true := decide_eq_true hk5
                      have hk7 : IntKind.i64.wrap ((k : Int) - 1) = (k : Int) - 1 := IntWalk.i64_in _ (by omega)
                      have hk8 : 1 ≤ k := hk5
                      go_upto_region 12 with (go_at_call 86; refine (rightR_calls _ _ (by omega)).mono ?_; rintro e w' ⟨rfl, hb⟩; rw [hrt]; have hB := bl_next hB hb; have q0 := cb hb q0; have q1 := cb hb q1; have k7 := cb hb k7; clear hb)
                      obtain ⟨V2, rfl⟩ : ∃ V2 : World, V2 = w' := ⟨_, rfl⟩
                      have r0 := cb hB hc
                      have HBV2 := Lib.hid (bl_next HBV.out hB)
                      clear hB
                      have hB := Below.refl V2.heap.size V2
                      cases hlt : ltB s p.1 with
                      | true =>
                        have HLT := Lib.hid hlt
                        have HOK := Lib.hid (show chargeB (l.take (k + 1)) = true by have := STEP.out; rw [HE.out, dif_pos (by omega), hs, hlt] at this; simpa using this)
                        clear hlt
                        have hB := hB.drew
                        refine region_seq (fun w' => Below V2.heap.size V2 w') [(0, true), (1, true), (2, true), (3, true), (4, true), (5, true), (6, true), (7, true), (8, true), (9, true), (10, true), (11, true), (12, true), (13, false), (14, true)] (by kernel_rfl) (by kernel_rfl) (fun _ _ _ _ h => h) hB ?_
                        try generalize World.drew _ = wS at hB ⊢
                        refine seq_take (v := ?_) (a' := ?_) (some 63) rfl rfl (by rfl) ?_ ?_ ?_
                        rotate_left; rotate_left
                        · intro w' hS; go_simp; with_reducible rfl
                        · simp only [Act.put, List.setIfInBounds_toArray, List.set_cons_zero, List.set_cons_succ]; rfl
                        refine seq_take (v := ?_) (a' := ?_) (some 64) rfl rfl (by rfl) ?_ ?_ ?_
                        rotate_left; rotate_left
                        · intro w' hS; have p0 := cb hS q0; have p1 := cb hS r0; have p7 := cb hS k7; go_simp; with_reducible rfl
                        · simp only [Act.put, List.setIfInBounds_toArray, List.set_cons_zero, List.set_cons_succ]; rfl
                        refine seq_take (v := ?_) (a' := ?_) (some 65) rfl rfl (by rfl) ?_ ?_ ?_
                        rotate_left; rotate_left
                        · intro w' hS; go_simp; with_reducible rfl
                        · simp only [Act.put, List.setIfInBounds_toArray, List.set_cons_zero, List.set_cons_succ]; rfl
                        refine seq_take (v := ?_) (a' := ?_) (some 66) rfl rfl (by rfl) ?_ ?_ ?_
                        rotate_left; rotate_left
                        · intro w' hS; go_simp; with_reducible rfl
                        · simp only [Act.put, List.setIfInBounds_toArray, List.set_cons_zero, List.set_cons_succ]; rfl
                        refine seq_take (v := ?_) (a' := ?_) (some 67) rfl rfl (by rfl) ?_ ?_ ?_
                        rotate_left; rotate_left
                        · intro w' hS; go_simp; with_reducible rfl
                        · simp only [Act.put, List.setIfInBounds_toArray, List.set_cons_zero, List.set_cons_succ]; rfl
                        refine seq_take (v := ?_) (a' := ?_) (some 68) rfl rfl (by rfl) ?_ ?_ ?_
                        rotate_left; rotate_left
                        · intro w' hS; go_simp; with_reducible rfl
                        · simp only [Act.put, List.setIfInBounds_toArray, List.set_cons_zero, List.set_cons_succ]; rfl
                        refine seq_take (v := ?_) (a' := ?_) (some 69) rfl rfl (by rfl) ?_ ?_ ?_
                        rotate_left; rotate_left
                        · intro w' hS; have p0 := cb hS q0; have p1 := cb hS r0; have p7 := cb hS k7; go_simp; with_reducible rfl
                        · simp only [Act.put, List.setIfInBounds_toArray, List.set_cons_zero, List.set_cons_succ]; rfl
                        refine seq_take (v := ?_) (a' := ?_) (some 70) rfl rfl (by rfl) ?_ ?_ ?_
                        rotate_left; rotate_left
                        · intro w' hS; go_simp; with_reducible rfl
                        · simp only [Act.put, List.setIfInBounds_toArray, List.set_cons_zero, List.set_cons_succ]; rfl
                        refine seq_take (v := ?_) (a' := ?_) (some 71) rfl rfl (by rfl) ?_ ?_ ?_
                        rotate_left; rotate_left
                        · intro w' hS; have p0 := cb hS q0; have p1 := cb hS r0; have p7 := cb hS k7; go_simp; with_reducible rfl
                        · simp only [Act.put, List.setIfInBounds_toArray, List.set_cons_zero, List.set_cons_succ]; rfl
                        refine seq_take (v := ?_) (a' := ?_) (some 72) rfl rfl (by rfl) ?_ ?_ ?_
                        rotate_left; rotate_left
                        · intro w' hS; go_simp; with_reducible rfl
                        · simp only [Act.put, List.setIfInBounds_toArray, List.set_cons_zero, List.set_cons_succ]; rfl
                        refine seq_take (v := ?_) (a' := ?_) (some 73) rfl rfl (by rfl) ?_ ?_ ?_
                        rotate_left; rotate_left
                        · intro w' hS; go_simp; with_reducible rfl
                        · simp only [Act.put, List.setIfInBounds_toArray, List.set_cons_zero, List.set_cons_succ]; rfl
                        refine seq_take (v := ?_) (a' := ?_) (some 74) rfl rfl (by rfl) ?_ ?_ ?_
                        rotate_left; rotate_left
                        · intro w' hS; go_simp; with_reducible rfl
                        · simp only [Act.put, List.setIfInBounds_toArray, List.set_cons_zero, List.set_cons_succ]; rfl
                        refine seq_take (v := ?_) (a' := ?_) (some 75) rfl rfl (by rfl) ?_ ?_ ?_
                        rotate_left; rotate_left
                        · intro w' hS; have p0 := cb hS q0; have p1 := cb hS r0; have p7 := cb hS k7; go_simp; with_reducible rfl
                        · simp only [Act.put, List.setIfInBounds_toArray, List.set_cons_zero, List.set_cons_succ]; rfl
                        refine seq_call (args := ?_) Try.func81 (by kernel_rfl) rfl (some 76) rfl rfl (by rfl) rfl ?_ ?_
                        rotate_left
                        · simp only [List.map_toArray, List.map_cons, List.map_nil]; go_simp; rfl
                        with_reducible refine (beforeB_calls _ _ _ (by omega) (by omega)).mono ?_
                        rintro e w' ⟨rfl, hb⟩
                        rw [HLT.out]
                        refine ⟨_, rfl, bl_next (by repeat (first | with_reducible exact hB | refine Below.alloc ?_ (by have := hB.size; simp; omega) _ | refine bl_dN ?_ _ | refine Below.drew ?_ | refine Below.setCell ?_ (by have := hB.size; simp; omega) _)) hb, ?_⟩
                        have hB := bl_next (by repeat (first | with_reducible exact hB | refine Below.alloc ?_ (by have := hB.size; simp; omega) _ | refine bl_dN ?_ _ | refine Below.drew ?_ | refine Below.setCell ?_ (by have := hB.size; simp; omega) _)) hb; clear hb
                        simp only [Act.put, List.setIfInBounds_toArray, List.set_cons_zero, List.set_cons_succ]
                        refine seq_take (v := ?_) (a' := ?_) (some 7) rfl rfl (by rfl) ?_ ?_ ?_
                        rotate_left; rotate_left
                        · intro w' hS; go_simp; with_reducible rfl
                        · simp only [Act.put, List.setIfInBounds_toArray, List.set_cons_zero, List.set_cons_succ]; rfl
                        refine seq_done ?_
                        go_wp2_with fail
                        go_roundw
                        case rel => exact ⟨k + 1, by simp, by omega, HOK, bl_next HBV2.out hB⟩
                        case measure => simp [intOf]; omega
                      | false =>
                        have HLT := Lib.hid hlt
                        have HN := Lib.hid (NOT.out (by have := STEP.out; rw [HE.out, dif_pos (by omega), hs, hlt] at this; simpa using this))
                        clear hlt
                        have hB := hB.drew
                        refine region_seq (fun w' => Below V2.heap.size V2 w') [(0, true), (1, true), (2, true), (3, true), (4, true), (5, true), (6, true), (7, true), (8, true), (9, true), (10, true), (11, true), (12, true), (13, false), (14, true)] (by kernel_rfl) (by kernel_rfl) (fun _ _ _ _ h => h) hB ?_
                        try generalize World.drew _ = wS at hB ⊢
                        refine seq_take (v := ?_) (a' := ?_) (some 63) rfl rfl (by rfl) ?_ ?_ ?_
                        rotate_left; rotate_left
                        · intro w' hS; go_simp; with_reducible rfl
                        · simp only [Act.put, List.setIfInBounds_toArray, List.set_cons_zero, List.set_cons_succ]; rfl
                        refine seq_take (v := ?_) (a' := ?_) (some 64) rfl rfl (by rfl) ?_ ?_ ?_
                        rotate_left; rotate_left
                        · intro w' hS; have p0 := cb hS q0; have p1 := cb hS r0; have p7 := cb hS k7; go_simp; with_reducible rfl
                        · simp only [Act.put, List.setIfInBounds_toArray, List.set_cons_zero, List.set_cons_succ]; rfl
                        refine seq_take (v := ?_) (a' := ?_) (some 65) rfl rfl (by rfl) ?_ ?_ ?_
                        rotate_left; rotate_left
                        · intro w' hS; go_simp; with_reducible rfl
                        · simp only [Act.put, List.setIfInBounds_toArray, List.set_cons_zero, List.set_cons_succ]; rfl
                        refine seq_take (v := ?_) (a' := ?_) (some 66) rfl rfl (by rfl) ?_ ?_ ?_
                        rotate_left; rotate_left
                        · intro w' hS; go_simp; with_reducible rfl
                        · simp only [Act.put, List.setIfInBounds_toArray, List.set_cons_zero, List.set_cons_succ]; rfl
                        refine seq_take (v := ?_) (a' := ?_) (some 67) rfl rfl (by rfl) ?_ ?_ ?_
                        rotate_left; rotate_left
                        · intro w' hS; go_simp; with_reducible rfl
                        · simp only [Act.put, List.setIfInBounds_toArray, List.set_cons_zero, List.set_cons_succ]; rfl
                        refine seq_take (v := ?_) (a' := ?_) (some 68) rfl rfl (by rfl) ?_ ?_ ?_
                        rotate_left; rotate_left
                        · intro w' hS; go_simp; with_reducible rfl
                        · simp only [Act.put, List.setIfInBounds_toArray, List.set_cons_zero, List.set_cons_succ]; rfl
                        refine seq_take (v := ?_) (a' := ?_) (some 69) rfl rfl (by rfl) ?_ ?_ ?_
                        rotate_left; rotate_left
                        · intro w' hS; have p0 := cb hS q0; have p1 := cb hS r0; have p7 := cb hS k7; go_simp; with_reducible rfl
                        · simp only [Act.put, List.setIfInBounds_toArray, List.set_cons_zero, List.set_cons_succ]; rfl
                        refine seq_take (v := ?_) (a' := ?_) (some 70) rfl rfl (by rfl) ?_ ?_ ?_
                        rotate_left; rotate_left
                        · intro w' hS; go_simp; with_reducible rfl
                        · simp only [Act.put, List.setIfInBounds_toArray, List.set_cons_zero, List.set_cons_succ]; rfl
                        refine seq_take (v := ?_) (a' := ?_) (some 71) rfl rfl (by rfl) ?_ ?_ ?_
                        rotate_left; rotate_left
                        · intro w' hS; have p0 := cb hS q0; have p1 := cb hS r0; have p7 := cb hS k7; go_simp; with_reducible rfl
                        · simp only [Act.put, List.setIfInBounds_toArray, List.set_cons_zero, List.set_cons_succ]; rfl
                        refine seq_take (v := ?_) (a' := ?_) (some 72) rfl rfl (by rfl) ?_ ?_ ?_
                        rotate_left; rotate_left
                        · intro w' hS; go_simp; with_reducible rfl
                        · simp only [Act.put, List.setIfInBounds_toArray, List.set_cons_zero, List.set_cons_succ]; rfl
                        refine seq_take (v := ?_) (a' := ?_) (some 73) rfl rfl (by rfl) ?_ ?_ ?_
                        rotate_left; rotate_left
                        · intro w' hS; go_simp; with_reducible rfl
                        · simp only [Act.put, List.setIfInBounds_toArray, List.set_cons_zero, List.set_cons_succ]; rfl
                        refine seq_take (v := ?_) (a' := ?_) (some 74) rfl rfl (by rfl) ?_ ?_ ?_
                        rotate_left; rotate_left
                        · intro w' hS; go_simp; with_reducible rfl
                        · simp only [Act.put, List.setIfInBounds_toArray, List.set_cons_zero, List.set_cons_succ]; rfl
                        refine seq_take (v := ?_) (a' := ?_) (some 75) rfl rfl (by rfl) ?_ ?_ ?_
                        rotate_left; rotate_left
                        · intro w' hS; have p0 := cb hS q0; have p1 := cb hS r0; have p7 := cb hS k7; go_simp; with_reducible rfl
                        · simp only [Act.put, List.setIfInBounds_toArray, List.set_cons_zero, List.set_cons_succ]; rfl
                        refine seq_call (args := ?_) Try.func81 (by kernel_rfl) rfl (some 76) rfl rfl (by rfl) rfl ?_ ?_
                        rotate_left
                        · simp only [List.map_toArray, List.map_cons, List.map_nil]; go_simp; rfl
                        with_reducible refine (beforeB_calls _ _ _ (by omega) (by omega)).mono ?_
                        rintro e w' ⟨rfl, hb⟩
                        rw [HLT.out]
                        refine ⟨_, rfl, bl_next (by repeat (first | with_reducible exact hB | refine Below.alloc ?_ (by have := hB.size; simp; omega) _ | refine bl_dN ?_ _ | refine Below.drew ?_ | refine Below.setCell ?_ (by have := hB.size; simp; omega) _)) hb, ?_⟩
                        have hB := bl_next (by repeat (first | with_reducible exact hB | refine Below.alloc ?_ (by have := hB.size; simp; omega) _ | refine bl_dN ?_ _ | refine Below.drew ?_ | refine Below.setCell ?_ (by have := hB.size; simp; omega) _)) hb; clear hb
                        simp only [Act.put, List.setIfInBounds_toArray, List.set_cons_zero, List.set_cons_succ]
                        refine seq_take (v := ?_) (a' := ?_) (some 7) rfl rfl (by rfl) ?_ ?_ ?_
                        rotate_left; rotate_left
                        · intro w' hS; go_simp; with_reducible rfl
                        · simp only [Act.put, List.setIfInBounds_toArray, List.set_cons_zero, List.set_cons_succ]; rfl
                        refine seq_done ?_
                        go_wp2_with fail
                        go_ret
                        exact ⟨ret_bool HN.out.symm, bl_next HB2.out (bl_next HBV2.out hB)⟩
                · have hrf : rightB p.1 = false := by simpa using hrt
                  have HN := Lib.hid (NOT.out (by rw [STEP.out]; unfold resB; rw [hrf]; simp))
                  clear hrt
                  go_wp2_with (go_at_call 86; refine (rightR_calls _ _ (by omega)).mono ?_; rintro e w' ⟨rfl, hb⟩; rw [hrf]; have hB := bl_next hB hb; have q0 := cb hb q0; have q1 := cb hb q1; have k7 := cb hb k7; clear hb)
                  go_ret
                  exact ⟨ret_bool HN.out.symm, bl_next HB2.out (bl_next HBV.out hB)⟩
              · obtain rfl : k = l.length := by omega
                have hR := HR.out
                rw [List.take_length] at hR
                have HE := Lib.hid (show rightO ⟨⟨kk, ks, kn⟩, ver, cls, term, best, chg⟩ = true by rw [HO.out, hR, HHD.out]; rfl)
                clear hR
                go_wp2_with fail
                go_ret
                exact ⟨ret_bool HE.out.symm, bl_next HB2.out hB⟩
          · have h16I : (16 : Int) < l.length := by omega
            have h16J : decide ((16 : Int) < l.length) = true := decide_eq_true h16I
            have HN := Lib.hid (show rightO ⟨⟨kk, ks, kn⟩, ver, cls, term, best, chg⟩ = false by rw [HO.out]; rw [decide_eq_false h16]; simp)
            go_wp2_with (first | (go_at_call 62; refine (refKeyB_calls _ _ _ _ (by omega) (by omega) (by omega)).mono ?_; rintro e w' ⟨rfl, hb⟩; rw [HKO.out]; have hB := bl_next hB hb; have c0_0 := cb hb c0_0; have c0_1 := cb hb c0_1; have c0_2 := cb hb c0_2; have c0_3 := cb hb c0_3; have c0_4 := cb hb c0_4; have c0_5 := cb hb c0_5; have c0_6 := cb hb c0_6; have c0_7 := cb hb c0_7; clear hb) | (go_at_call 86; refine (rightR_calls _ _ (by omega)).mono ?_; rintro e w' ⟨rfl, hb⟩; rw [HRC.out]; have hB := bl_next hB hb; have c0_0 := cb hb c0_0; have c0_1 := cb hb c0_1; have c0_2 := cb hb c0_2; have c0_3 := cb hb c0_3; have c0_4 := cb hb c0_4; have c0_5 := cb hb c0_5; have c0_6 := cb hb c0_6; have c0_7 := cb hb c0_7; clear hb))
            go_ret
            exact ⟨ret_bool HN.out.symm, bl_from Hw.out hB⟩
        · have hv0 : ver < 1 := by omega
          have hv1 : decide (ver < 1) = true := decide_eq_true hv0
          have HN := Lib.hid (show rightO ⟨⟨kk, ks, kn⟩, ver, cls, term, best, chg⟩ = false by rw [HO.out]; rw [decide_eq_false hver]; simp)
          go_wp2_with (first | (go_at_call 62; refine (refKeyB_calls _ _ _ _ (by omega) (by omega) (by omega)).mono ?_; rintro e w' ⟨rfl, hb⟩; rw [HKO.out]; have hB := bl_next hB hb; have c0_0 := cb hb c0_0; have c0_1 := cb hb c0_1; have c0_2 := cb hb c0_2; have c0_3 := cb hb c0_3; have c0_4 := cb hb c0_4; have c0_5 := cb hb c0_5; have c0_6 := cb hb c0_6; have c0_7 := cb hb c0_7; clear hb) | (go_at_call 86; refine (rightR_calls _ _ (by omega)).mono ?_; rintro e w' ⟨rfl, hb⟩; rw [HRC.out]; have hB := bl_next hB hb; have c0_0 := cb hb c0_0; have c0_1 := cb hb c0_1; have c0_2 := cb hb c0_2; have c0_3 := cb hb c0_3; have c0_4 := cb hb c0_4; have c0_5 := cb hb c0_5; have c0_6 := cb hb c0_6; have c0_7 := cb hb c0_7; clear hb))
          go_ret
          exact ⟨ret_bool HN.out.symm, bl_from Hw.out hB⟩
end Go.Proofs.Ythhfcambdmdgfaa
namespace Go.Proofs.Ythhfcambdmdgfaa
open Go.RowKit
/-- How data of a kind lie in cells: all that is read lies in blocks that are ok. -/
structure Kd (α : Type) where
  sz : Nat
  K : World → (Nat → Prop) → α → List Value → Prop
  len : ∀ {w ok x cs}, K w ok x cs → cs.length = sz
  bound : ∀ {w : World} {ok x cs}, K w ok x cs → K w (fun k => ok k ∧ k < w.heap.size) x cs
  move : ∀ {w w1 : World} {ok x cs}, (∀ k, ok k → w1.heap[k]? = w.heap[k]?) → K w ok x cs → K w1 ok x cs
  mono : ∀ {w ok ok' x cs}, (∀ k, ok k → ok' k) → K w ok x cs → K w ok' x cs
def anyB : Nat → Prop := fun _ => True
namespace Kd
variable {α : Type} {d : Kd α} {w w1 : World} {ok ok' : Nat → Prop} {x : α} {cs : List Value}
theorem step (h : d.K w ok x cs) (hm : ∀ k, ok k → k < w.heap.size → w1.heap[k]? = w.heap[k]?) : d.K w1 ok x cs :=
  d.mono (fun _ hk => hk.1) (d.move (fun k hk => hm k hk.1 hk.2) (d.bound h))
theorem below (h : d.K w ok x cs) (hb : Below w.heap.size w w1) : d.K w1 ok x cs := step h (fun k _ hk => hb.block k hk)
theorem any (h : d.K w ok x cs) : d.K w anyB x cs := d.mono (fun _ _ => trivial) h
end Kd
/-- One cell. -/
def kOne {α : Type} (enc : α → Value) : Kd α where
  sz := 1
  K := fun _ _ x cs => cs = [enc x]
  len := fun h => by rw [h]; rfl
  bound := fun h => h
  move := fun _ h => h
  mono := fun _ h => h
def kStr : Kd ByteArray := kOne Value.string
def kBool : Kd Bool := kOne Value.bool
def kInt (k : IntKind) : Kd Int where
  sz := 1
  K := fun _ _ x cs => cs = [.int k x] ∧ (Lit.int k x).wf = true
  len := fun h => by rw [h.1]; rfl
  bound := fun h => h
  move := fun _ h => h
  mono := fun _ h => h
/-- Two in line. -/
def kPair {α β : Type} (a : Kd α) (b : Kd β) : Kd (α × β) where
  sz := a.sz + b.sz
  K := fun w ok x cs => ∃ c0 c1, cs = c0 ++ c1 ∧ a.K w ok x.1 c0 ∧ b.K w ok x.2 c1
  len := by rintro w ok x cs ⟨c0, c1, rfl, h0, h1⟩; rw [List.length_append, a.len h0, b.len h1]
  bound := by rintro w ok x cs ⟨c0, c1, rfl, h0, h1⟩; exact ⟨c0, c1, rfl, a.bound h0, b.bound h1⟩
  move := by rintro w w1 ok x cs hm ⟨c0, c1, rfl, h0, h1⟩; exact ⟨c0, c1, rfl, a.move hm h0, b.move hm h1⟩
  mono := by rintro w ok ok' x cs hm ⟨c0, c1, rfl, h0, h1⟩; exact ⟨c0, c1, rfl, a.mono hm h0, b.mono hm h1⟩
/-- A Lean structure by its fields. -/
def kIso {α β : Type} (d : Kd α) (f : β → α) : Kd β where
  sz := d.sz
  K := fun w ok x cs => d.K w ok (f x) cs
  len := d.len
  bound := d.bound
  move := d.move
  mono := d.mono
/-- The cells from an address on. -/
def cellsAt (w : World) (b off : Nat) (cs : List Value) : Prop := ∀ j v, cs[j]? = some v → w.cell? ⟨b, off + j, none⟩ = some v
theorem cellsAt_move {w w1 : World} {b off : Nat} {cs : List Value} (h : cellsAt w b off cs) (hm : w1.heap[b]? = w.heap[b]?) : cellsAt w1 b off cs := by
  intro j v hj
  rw [← h j v hj]
  exact World.cell?_of_block (w := w) (a := ⟨b, off + j, none⟩) hm
theorem cellsAt_lt {w : World} {b off : Nat} {cs : List Value} (h : cellsAt w b off cs) (hc : 0 < cs.length) : b < w.heap.size := by
  have := h 0 cs[0] (by simp [hc])
  exact World.block_lt_of_cell? w _ this
/-- A row of elements that is read. -/
def Row {α : Type} (d : Kd α) (w : World) (ok : Nat → Prop) (A : Option Addr) (xs : List α) : Prop :=
  xs = [] ∨ ∃ b off, A = some ⟨b, off, none⟩ ∧ ok b ∧ b < w.heap.size ∧ ∀ i (h : i < xs.length), ∃ cs, cellsAt w b (off + i * d.sz) cs ∧ d.K w ok xs[i] cs
theorem Row.bound {α : Type} {d : Kd α} {w : World} {ok : Nat → Prop} {A : Option Addr} {xs : List α} (h : Row d w ok A xs) : Row d w (fun k => ok k ∧ k < w.heap.size) A xs := by
  rcases h with h | ⟨b, off, hA, hb, hlt, h⟩
  · exact Or.inl h
  · exact Or.inr ⟨b, off, hA, ⟨hb, hlt⟩, hlt, fun i hi => let ⟨cs, h1, h2⟩ := h i hi; ⟨cs, h1, d.bound h2⟩⟩
theorem Row.mono {α : Type} {d : Kd α} {w : World} {ok ok' : Nat → Prop} {A : Option Addr} {xs : List α} (hm : ∀ k, ok k → ok' k) (h : Row d w ok A xs) : Row d w ok' A xs := by
  rcases h with h | ⟨b, off, hA, hb, hlt, h⟩
  · exact Or.inl h
  · exact Or.inr ⟨b, off, hA, hm _ hb, hlt, fun i hi => let ⟨cs, h1, h2⟩ := h i hi; ⟨cs, h1, d.mono hm h2⟩⟩
theorem Row.move {α : Type} {d : Kd α} {w w1 : World} {ok : Nat → Prop} {A : Option Addr} {xs : List α} (hm : ∀ k, ok k → w1.heap[k]? = w.heap[k]?) (h : Row d w ok A xs) : Row d w1 ok A xs := by
  rcases h with h | ⟨b, off, hA, hb, hlt, h⟩
  · exact Or.inl h
  · have e := hm _ hb
    have hlt' : b < w1.heap.size := by
      obtain ⟨o, ho⟩ : ∃ o, w.heap[b]? = some o := ⟨_, Array.getElem?_eq_getElem hlt⟩
      rw [ho] at e
      exact (Array.getElem?_eq_some_iff.1 e).1
    exact Or.inr ⟨b, off, hA, hb, hlt', fun i hi => let ⟨cs, h1, h2⟩ := h i hi; ⟨cs, cellsAt_move h1 e, d.move hm h2⟩⟩
theorem Row.step {α : Type} {d : Kd α} {w w1 : World} {ok : Nat → Prop} {A : Option Addr} {xs : List α} (h : Row d w ok A xs) (hm : ∀ k, ok k → k < w.heap.size → w1.heap[k]? = w.heap[k]?) : Row d w1 ok A xs :=
  Row.mono (fun _ hk => hk.1) (Row.move (fun k hk => hm k hk.1 hk.2) (Row.bound h))
theorem Row.below {α : Type} {d : Kd α} {w w1 : World} {ok : Nat → Prop} {A : Option Addr} {xs : List α} (h : Row d w ok A xs) (hb : Below w.heap.size w w1) : Row d w1 ok A xs := h.step (fun k _ hk => hb.block k hk)
def kSlice {α : Type} (d : Kd α) : Kd (List α) where
  sz := 1
  K := fun w ok xs cs => ∃ A c, cs = [.slice A xs.length c] ∧ xs.length ≤ c ∧ Row d w ok A xs
  len := by rintro w ok x cs ⟨A, c, rfl, _⟩; rfl
  bound := by rintro w ok x cs ⟨A, c, rfl, hl, h⟩; exact ⟨A, c, rfl, hl, h.bound⟩
  move := by rintro w w1 ok x cs hm ⟨A, c, rfl, hl, h⟩; exact ⟨A, c, rfl, hl, h.move hm⟩
  mono := by rintro w ok ok' x cs hm ⟨A, c, rfl, hl, h⟩; exact ⟨A, c, rfl, hl, h.mono hm⟩
/-- Whatever is read at type t is of the kind. -/
def Opens {α : Type} (P : Program) (t : TypeId) (d : Kd α) : Prop :=
  P.cellsOf t = d.sz ∧ ∀ {H : Type} (enc : TypeId × Value → H) (w : World) (base : Nat) (spare : Nat → Bool) (held : Bool) (fuel : Nat) (cs : List Value) (x : DataW H × List MemPlace),
    DataW.trod enc P w base spare held fuel t cs = some x → ∃ y, d.K w anyB y cs
theorem opens_str {P : Program} {t : TypeId} (ht : P.underlying t = some .string) (hc : P.cellsOf t = 1) : Opens P t kStr :=
  ⟨hc, fun enc w base spare held fuel cs x h => by obtain ⟨s, rfl, _⟩ := DataW.trod_string ht h; exact ⟨s, rfl⟩⟩
theorem opens_int {P : Program} {t : TypeId} {k : IntKind} (ht : P.underlying t = some (.int k)) (hc : P.cellsOf t = 1) : Opens P t (kInt k) :=
  ⟨hc, fun enc w base spare held fuel cs x h => by obtain ⟨s, rfl, _, hw⟩ := DataW.trod_int ht h; exact ⟨s, rfl, hw⟩⟩
theorem opens_bool {P : Program} {t : TypeId} (ht : P.underlying t = some .bool) (hc : P.cellsOf t = 1) : Opens P t kBool :=
  ⟨hc, fun enc w base spare held fuel cs x h => by obtain ⟨s, rfl, _⟩ := DataW.trod_bool ht h; exact ⟨s, rfl⟩⟩
theorem opens_iso {α β : Type} {P : Program} {t : TypeId} {d : Kd α} {f : β → α} (g : α → β) (hfg : ∀ x, f (g x) = x) (h : Opens P t d) : Opens P t (kIso d f) :=
  ⟨h.1, fun enc w base spare held fuel cs x hx => by obtain ⟨y, hy⟩ := h.2 enc w base spare held fuel cs x hx; exact ⟨g y, by show d.K w anyB (f (g y)) cs; rw [hfg]; exact hy⟩⟩
theorem cells?_at {w : World} {base : Nat} {a : Addr} {n : Nat} {cs : List Value} (h : w.cells? base a n = some cs) (hn : 0 < n) : a.spot = none ∧ cs.length = n ∧ cellsAt w a.block a.off cs := by
  unfold World.cells? at h
  split at h
  case isFalse => simp at h
  have hl := mapM_some_length h
  have hg : ∀ i, i < n → w.cell? (a.add i) = cs[i]? := fun i hi => by
    have := mapM_some_get h i i (by simp [hi])
    simpa using this
  have h0 := hg 0 hn
  have hl' : cs.length = n := by simpa using hl
  have hsp : a.spot = none := by
    have : w.cell? a = some (cs[0]'(by omega)) := by simpa [Addr.add, show 0 < cs.length from by omega] using h0
    exact World.cell?_spot this
  refine ⟨hsp, hl', fun j v hj => ?_⟩
  have hj' : j < n := by have := (List.getElem?_eq_some_iff.1 hj).1; omega
  have := hg j hj'
  rw [hj] at this
  rw [← this]
  obtain ⟨b, o, sp⟩ := a
  simp only at hsp
  subst hsp
  by_cases hz : j = 0 <;> simp [Addr.add, hz]
theorem opens_slice {α : Type} {P : Program} {t e : TypeId} {d : Kd α} (ht : P.underlying t = some (.slice e)) (hc : P.cellsOf t = 1) (hs : 0 < d.sz) (h : Opens P e d) : Opens P t (kSlice d) := by
  refine ⟨hc, fun enc w base spare held fuel cs x hx => ?_⟩
  rcases Go.Deep.open_slice ht hx with ⟨rfl, _⟩ | ⟨a, len, cap, m, n, D, Pl, rfl, _, hl, _, hm, _, hel⟩
  · exact ⟨[], none, 0, rfl, by simp, Or.inl rfl⟩
  have hle : len ≤ m := by rw [hm]; split <;> omega
  have hy : ∀ i, i < len → ∃ y : α, ∃ cs, cellsAt w a.block (a.off + i * d.sz) cs ∧ d.K w anyB y cs ∧ a.spot = none := fun i hi => by
    obtain ⟨cs', h1, h2⟩ := hel i (by omega)
    obtain ⟨y, hy⟩ := h.2 enc w base spare held n cs' _ h2
    rw [h.1] at h1
    obtain ⟨g1, _, g3⟩ := cells?_at h1 hs
    have hsp : a.spot = none ∨ a.spot ≠ none := by by_cases a.spot = none <;> simp_all
    by_cases hz : i * d.sz = 0
    · rw [hz] at h1 g1 g3
      simp only [Addr.add, if_true] at g1 g3
      exact ⟨y, cs', by rw [hz]; simpa using g3, hy, g1⟩
    · -- the first element tells that the spot is none
      obtain ⟨cs0, h10, _⟩ := hel 0 (by omega)
      rw [h.1] at h10
      obtain ⟨k1, _, _⟩ := cells?_at h10 hs
      simp only [Nat.zero_mul, Addr.add, if_true] at k1
      simp only [Addr.add, if_neg hz] at g3
      exact ⟨y, cs', g3, hy, k1⟩
  by_cases h0 : len = 0
  · subst h0
    exact ⟨[], some a, cap, rfl, by simp, Or.inl rfl⟩
  obtain ⟨y0, _⟩ := hy 0 (by omega)
  have : Inhabited α := ⟨y0⟩
  obtain ⟨f, hf⟩ := Go.Deep.choose_lt hy
  have hsp : a.spot = none := by obtain ⟨_, _, _, k⟩ := hf 0 (by omega); exact k
  obtain ⟨b, o, sp⟩ := a
  simp only at hsp
  subst hsp
  have hlt : b < w.heap.size := by
    obtain ⟨cs, k1, k2, _⟩ := hf 0 (by omega)
    exact cellsAt_lt k1 (by rw [d.len k2]; exact hs)
  refine ⟨(List.range len).map f, some ⟨b, o, none⟩, cap, by simp, by simpa using hl, Or.inr ⟨b, o, rfl, trivial, hlt, fun i hi => ?_⟩⟩
  obtain ⟨cs, k1, k2, _⟩ := hf i (by simpa using hi)
  exact ⟨cs, k1, by simpa using k2⟩
def OpensF {α : Type} (P : Program) (fs : List Field) (off : Nat) (d : Kd α) : Prop :=
  ∀ {H : Type} (enc : TypeId × Value → H) (w : World) (base : Nat) (spare : Nat → Bool) (held : Bool) (fuel : Nat) (cs : List Value), cs.length = off + d.sz →
    (∀ f ∈ fs, ∃ x, DataW.trod enc P w base spare held fuel f.type ((cs.drop f.offset).take (P.cellsOf f.type)) = some x) → ∃ y, d.K w anyB y (cs.drop off)
theorem opensF_one {α : Type} {P : Program} {f : Field} {off : Nat} {d : Kd α} (ho : f.offset = off) (h : Opens P f.type d) : OpensF P [f] off d := by
  intro H enc w base spare held fuel cs hl hf
  obtain ⟨x, hx⟩ := hf f (by simp)
  obtain ⟨y, hy⟩ := h.2 enc w base spare held fuel _ x hx
  rw [ho, h.1, List.take_of_length_le (by simp; omega)] at hy
  exact ⟨y, hy⟩
theorem opensF_cons {α β : Type} {P : Program} {f : Field} {fs : List Field} {off : Nat} {d : Kd α} {e : Kd β} (ho : f.offset = off) (h : Opens P f.type d) (hs : OpensF P fs (off + d.sz) e) : OpensF P (f :: fs) off (kPair d e) := by
  intro H enc w base spare held fuel cs hl hf
  obtain ⟨x, hx⟩ := hf f (by simp)
  obtain ⟨y, hy⟩ := h.2 enc w base spare held fuel _ x hx
  obtain ⟨z, hz⟩ := hs enc w base spare held fuel cs (by rw [hl]; show off + (d.sz + e.sz) = _; omega) (fun g hg => hf g (by simp [hg]))
  rw [ho, h.1] at hy
  refine ⟨(y, z), (cs.drop off).take d.sz, cs.drop (off + d.sz), ?_, hy, hz⟩
  rw [← List.drop_drop, List.take_append_drop]
theorem opens_struct {α : Type} {P : Program} {t : TypeId} {fs : Array Field} {d : Kd α} (ht : P.underlying t = some (.struct fs)) (hc : P.cellsOf t = d.sz) (h : OpensF P fs.toList 0 d) : Opens P t d := by
  refine ⟨hc, fun enc w base spare held fuel cs x hx => ?_⟩
  obtain ⟨xs, n, rfl, rfl, hl, hn, hi⟩ := DataW.trod_struct ht hx
  have := h enc w base spare held n cs (by omega) (fun f hf => by
    obtain ⟨i, hi', he⟩ := List.getElem_of_mem hf
    have e := hi i f (by rw [← he]; simp at hi' ⊢)
    exact ⟨xs[i]'(by simp at hi'; omega), by rw [e]; simp⟩)
  simpa using this
end Go.Proofs.Ythhfcambdmdgfaa
namespace Go.Proofs.Ythhfcambdmdgfaa
open Go.RowKit
theorem opStr : Opens Try.prog 9 kStr := opens_str Try.underlying9 (by kernel_rfl)
end Go.Proofs.Ythhfcambdmdgfaa
