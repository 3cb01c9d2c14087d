import Derived.Test.YtdcceaafiammfaaLbl
import Derived.Test.YtdcceaafiammfaaRefa
namespace Go.Proofs.Ytdcceaafiammfaa
open Go.RowKit
theorem pv1 : parseV ⟨#[116, 101, 97, 109, 45, 97, 47, 112, 111, 100, 47, 119, 101, 98, 45, 49]⟩ = .tuple #[.agg #[.string ⟨#[112, 111, 100]⟩, .string ⟨#[116, 101, 97, 109, 45, 97]⟩, .string ⟨#[119, 101, 98, 45, 49]⟩], .int .i64 0] := by
  have h : parseOk ⟨#[116, 101, 97, 109, 45, 97, 47, 112, 111, 100, 47, 119, 101, 98, 45, 49]⟩ = true := by decide +kernel
  have h1 : pK ⟨#[116, 101, 97, 109, 45, 97, 47, 112, 111, 100, 47, 119, 101, 98, 45, 49]⟩ = ⟨#[112, 111, 100]⟩ := by decide +kernel
  have h2 : pS ⟨#[116, 101, 97, 109, 45, 97, 47, 112, 111, 100, 47, 119, 101, 98, 45, 49]⟩ = ⟨#[116, 101, 97, 109, 45, 97]⟩ := by decide +kernel
  have h3 : pN ⟨#[116, 101, 97, 109, 45, 97, 47, 112, 111, 100, 47, 119, 101, 98, 45, 49]⟩ = ⟨#[119, 101, 98, 45, 49]⟩ := by decide +kernel
  rw [parseV, h, h1, h2, h3]; rfl
theorem pv2 : parseV ⟨#[116, 101, 97, 109, 45, 97, 47, 112, 111, 100]⟩ = .tuple #[.agg #[.string ⟨#[]⟩, .string ⟨#[]⟩, .string ⟨#[]⟩], .int .i64 2] := by
  have h : parseOk ⟨#[116, 101, 97, 109, 45, 97, 47, 112, 111, 100]⟩ = false := by decide +kernel
  rw [parseV, h]; rfl
theorem pv3 : parseV ⟨#[97, 47, 98, 47, 99, 47, 100]⟩ = .tuple #[.agg #[.string ⟨#[]⟩, .string ⟨#[]⟩, .string ⟨#[]⟩], .int .i64 2] := by
  have h : parseOk ⟨#[97, 47, 98, 47, 99, 47, 100]⟩ = false := by decide +kernel
  rw [parseV, h]; rfl
theorem rt1 : rightB ⟨#[97, 45, 49]⟩ = true := by decide +kernel
theorem rt2 : rightB ⟨#[45, 97]⟩ = false := by decide +kernel
theorem rt3 : rightB ⟨#[65]⟩ = false := by decide +kernel
theorem rt4 : rightB ⟨#[]⟩ = false := by decide +kernel
theorem tx1 : textB ⟨#[112, 111, 100]⟩ ⟨#[116, 101, 97, 109, 45, 97]⟩ ⟨#[119, 101, 98, 45, 49]⟩ = ⟨#[116, 101, 97, 109, 45, 97, 47, 112, 111, 100, 47, 119, 101, 98, 45, 49]⟩ := by decide +kernel
theorem ky1 : keyB ⟨#[112, 111, 100]⟩ ⟨#[116, 101, 97, 109, 45, 97]⟩ ⟨#[119, 101, 98, 45, 49]⟩ = true := by decide +kernel
theorem ls1 : Op.bytesLess (keyText ⟨#[112, 111, 100]⟩ ⟨#[116, 101, 97, 109, 45, 97]⟩ ⟨#[119, 101, 98, 45, 49]⟩).toList (keyText ⟨#[112, 111, 100]⟩ ⟨#[116, 101, 97, 109, 45, 98]⟩ ⟨#[97]⟩).toList = true := by decide +kernel
theorem ls2 : Op.bytesLess (keyText ⟨#[112, 111, 100]⟩ ⟨#[116, 101, 97, 109, 45, 97]⟩ ⟨#[119, 101, 98, 45, 49]⟩).toList (keyText ⟨#[112, 111, 100]⟩ ⟨#[116, 101, 97, 109, 45, 97]⟩ ⟨#[119, 101, 98, 45, 49]⟩).toList = false := by decide +kernel
set_option maxHeartbeats 4000000 in
set_option maxRecDepth 100000 in
theorem alive1_calls (w : World) : Calls Try.prog 27 #[] w fun e w' => e = .returned (.bool true) ∧ Below w.heap.size w w' := by
  go_enter Try.func27, Try.ntmps27
  go_wp2_with fail
  refine (parse_calls _ _ (by decide)).mono ?_; rintro e w1 ⟨rfl, hb1⟩; rw [pv1]
  go_wp2_with fail
  first | with_reducible refine name_wp ?_ | with_reducible refine name_calls ?_
  intro W hWeq
  have g0 : W.heap[w1.heap.size]? = some (.cells #[.string ⟨#[112, 111, 100]⟩, .string ⟨#[116, 101, 97, 109, 45, 97]⟩, .string ⟨#[119, 101, 98, 45, 49]⟩] 35) := by rw [hWeq]; repeat (first | exact blk_newAt _ _ (by simp) | refine blk_old ?_ _ | refine blk_dN ?_ _ | refine blk_drew ?_)
  have hw : Below w1.heap.size w1 W := by rw [hWeq]; repeat (first | exact Below.refl _ _ | refine Below.alloc ?_ (by simp) _ | refine bl_dN ?_ _ | refine Below.drew ?_)
  clear hWeq
  have hz : w1.heap.size + 1 ≤ W.heap.size := by have := blk_lt g0; omega
  have c0_0 : W.cell? ⟨w1.heap.size, 0, none⟩ = some (.string ⟨#[112, 111, 100]⟩) := blk_cell g0 0
  have c0_1 : W.cell? ⟨w1.heap.size, 1, none⟩ = some (.string ⟨#[116, 101, 97, 109, 45, 97]⟩) := blk_cell g0 1
  have c0_2 : W.cell? ⟨w1.heap.size, 2, none⟩ = some (.string ⟨#[119, 101, 98, 45, 49]⟩) := blk_cell g0 2
  have f0 : ∀ j, W.frozen? ⟨w1.heap.size, j, none⟩ = false := blk_free g0
  have hB : Below W.heap.size W W := Below.refl _ _
  have G0 := Lib.hid g0; clear g0
  have F0 := Lib.hid f0; clear f0
  have Hw := Lib.hid hw; clear hw
  have Hb1 := Lib.hid hb1; clear hb1
  go_wp2_with (first | (go_at_call 28; refine (parse_calls _ _ (by decide)).mono ?_; rintro e w' ⟨rfl, hb⟩; (first | rw [pv2] | rw [pv3]); have hB := bl_next (by repeat (first | exact hB | refine Below.alloc ?_ (by have := hB.size; simp; omega) _ | refine bl_dN ?_ _ | refine Below.drew ?_ | refine Below.setCell ?_ (by have := hB.size; simp; omega) _)) hb; clear hb; have k0_0 := cb hB c0_0; have k0_1 := cb hB c0_1; have k0_2 := cb hB c0_2; have kz0 : w1.heap.size < _ := lt_of_cell k0_0) | (go_at_call 30; refine (right_calls _ _ (by decide)).mono ?_; rintro e w' ⟨rfl, hb⟩; (first | rw [rt1] | rw [rt2] | rw [rt3] | rw [rt4]); have hB := bl_next (by repeat (first | exact hB | refine Below.alloc ?_ (by have := hB.size; simp; omega) _ | refine bl_dN ?_ _ | refine Below.drew ?_ | refine Below.setCell ?_ (by have := hB.size; simp; omega) _)) hb; clear hb; have k0_0 := cb hB c0_0; have k0_1 := cb hB c0_1; have k0_2 := cb hB c0_2; have kz0 : w1.heap.size < _ := lt_of_cell k0_0) | (go_at_call 34; refine (textK_calls _ _ _ _ (by decide) (by decide) (by decide)).mono ?_; rintro e w' ⟨rfl, hb⟩; rw [tx1]; have hB := bl_next (by repeat (first | exact hB | refine Below.alloc ?_ (by have := hB.size; simp; omega) _ | refine bl_dN ?_ _ | refine Below.drew ?_ | refine Below.setCell ?_ (by have := hB.size; simp; omega) _)) hb; clear hb; have k0_0 := cb hB c0_0; have k0_1 := cb hB c0_1; have k0_2 := cb hB c0_2; have kz0 : w1.heap.size < _ := lt_of_cell k0_0) | (go_at_call 32; refine (key_calls _ _ _ _ (by decide) (by decide) (by decide)).mono ?_; rintro e w' ⟨rfl, hb⟩; rw [ky1]; have hB := bl_next (by repeat (first | exact hB | refine Below.alloc ?_ (by have := hB.size; simp; omega) _ | refine bl_dN ?_ _ | refine Below.drew ?_ | refine Below.setCell ?_ (by have := hB.size; simp; omega) _)) hb; clear hb; have k0_0 := cb hB c0_0; have k0_1 := cb hB c0_1; have k0_2 := cb hB c0_2; have kz0 : w1.heap.size < _ := lt_of_cell k0_0) | (go_at_call 36; refine (less_calls _ _ _ _ _ _ _ (by decide) (by decide)).mono ?_; rintro e w' ⟨rfl, hb⟩; (first | rw [ls1] | rw [ls2]); have hB := bl_next (by repeat (first | exact hB | refine Below.alloc ?_ (by have := hB.size; simp; omega) _ | refine bl_dN ?_ _ | refine Below.drew ?_ | refine Below.setCell ?_ (by have := hB.size; simp; omega) _)) hb; clear hb; have k0_0 := cb hB c0_0; have k0_1 := cb hB c0_1; have k0_2 := cb hB c0_2; have kz0 : w1.heap.size < _ := lt_of_cell k0_0))
  go_ret
  exact ⟨rfl, bl_from Hb1.out (bl_from Hw.out hB)⟩
end Go.Proofs.Ytdcceaafiammfaa
