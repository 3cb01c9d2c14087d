import Derived.Test.YteomicjjaajblaaProg
import Derived.Test.YteomicjjaajblaaWide
import Derived.Test.YteomicjjaajblaaWsr
import Derived.OneCell
import Derived.Lib.ItoaNum
namespace Go.Proofs.Yteomicjjaajblaa
open Go.RowKit
set_option linter.unusedSimpArgs false
set_option linter.unusedVariables false
theorem text_neg (h l : Int) (w : World) (k : WOk h l) (hn : h < 0) :
    Calls Try.prog 59 #[.agg #[.int .i64 h, .int .u64 l]] w fun e w' => e = .returned (.string ⟨(Lib.itoa (wval h l)).toArray⟩) ∧ Below w.heap.size w w' := by
  have c1 : decide (h < 0) = true := by simpa using hn
  obtain ⟨U, hU⟩ : ∃ U : Nat, (U : Int) = - wval h l := ⟨(- wval h l).toNat, by have := k.l2; unfold wval; omega⟩
  have hUb : U < 340282366920938463463374607431768211456 := by have := k.h1; have := k.l1; unfold wval at hU; omega
  have hU0 : 0 < U := by have := k.l2; unfold wval at hU; omega
  obtain ⟨bw, hbw⟩ : ∃ bw : Int, bw = if (0 : Int) < l + 0 then 1 else 0 := ⟨_, rfl⟩
  have hbw2 : 0 ≤ bw ∧ bw ≤ 1 ∧ (0 < l → bw = 1) ∧ (¬ 0 < l → bw = 0) := by subst hbw; split <;> omega
  have x2 : (0 + 18446744073709551616 - l - 0) % 18446744073709551616 = loN U := by have := k.l1; have := k.l2; unfold wval at hU; unfold loN; omega
  have x1 : (0 + 18446744073709551616 - IntKind.u64.wrap h - bw) % 18446744073709551616 = hiN U := by rw [u64_wrap]; have := k.l1; have := k.l2; have := k.h1; unfold wval at hU; unfold hiN; omega
  have r1 : ∀ w, (callFunc 74 #[.int .u64 0, .int .u64 l, .int .u64 0]).run Try.prog w = .ok (.value (.tuple #[.int .u64 (loN U), .int .u64 bw])) w := fun w => by
    rw [sub64_run 0 l 0 (by decide) (by decide) k.l1 k.l2 (by decide) (by decide) w, x2, ← hbw]
  have r2 : ∀ w, (callFunc 74 #[.int .u64 0, .int .u64 (IntKind.u64.wrap h), .int .u64 bw]).run Try.prog w = .ok (.value (.tuple #[.int .u64 (hiN U), .int .u64 (if (0 : Int) < IntKind.u64.wrap h + bw then 1 else 0)])) w := fun w => by
    rw [sub64_run 0 _ bw (by decide) (by decide) (by rw [u64_wrap]; omega) (by rw [u64_wrap]; omega) hbw2.1 hbw2.2.1 w, x1]
  generalize (if (0 : Int) < IntKind.u64.wrap h + bw then 1 else 0 : Int) = b2 at r2
  rw [show wval h l = -(U : Int) by omega]
  clear x1 x2 hU hbw hbw2
  have K := Lib.hid k; clear k
  go_enter Try.func59, Try.ntmps59
  go_upto_region 1 with fail
  go_cut [3, 4, 8, 9, 10, 11, 12] (fun s3 s4 _ _ _ _ _ wc => ∃ hb lb : Nat, s3 = .pointer (some ⟨hb, 0, none⟩) ∧ s4 = .pointer (some ⟨lb, 0, none⟩) ∧ One wc hb (.int .u64 (IntKind.u64.wrap h)) 38 ∧ One wc lb (.int .u64 l) 38 ∧ hb ≠ lb ∧ w.heap.size + 1 ≤ hb ∧ w.heap.size + 1 ≤ lb ∧ w.heap.size + 1 ≤ wc.heap.size ∧ Below w.heap.size w wc ∧ wc.cell? ⟨w.heap.size, 0, none⟩ = some (.int .i64 h) ∧ wc.cell? ⟨w.heap.size, 1, none⟩ = some (.int .u64 l))
  case first =>
    go_region
    all_goals go_wp2_with fail
    all_goals go_meet
    all_goals obtain ⟨a1, a2, a3, a4⟩ := meet12 w _ _ _ _
    · exact ⟨_, _, rfl, rfl, a1, a2, by omega, by omega, by omega, by simp, a4, blk_cell a3 0, blk_cell a3 1⟩
    · exact ⟨_, _, rfl, rfl, a2, a1, by omega, by omega, by omega, by simp, a4, blk_cell a3 0, blk_cell a3 1⟩
  case rest =>
    obtain ⟨hb, lb, rfl, rfl, oh, ol, hne, bh, bl, bs, hB, k0, k1⟩ := hcut
    have c_h := cell_of_one oh; have c_l := cell_of_one ol; have f_h := free_of_one oh; have f_l := free_of_one ol
    go_wp2_with (go_at_call 75; refine (next_u (w.heap.size + 1) hb lb U _ hUb (one_setCell (one_other oh hne _)) (one_other (one_setCell ol) (Ne.symm hne) _) hne bh bl).mono ?_; rintro e wn ⟨rfl, hb1, oh1, ol1⟩; have hb1 := (Below.setCell (Below.setCell (bl_any _ wc) bl _) bh _).trans hb1)
    clear c_h c_l f_h f_l r1 r2
    have ed := enc_digit (U % 10) (by omega)
    simp only [Int.natCast_emod, Int.cast_ofNat_Int] at ed
    rw [ed]
    have HU0 := Lib.hid hU0
    have hfig := Lib.hid (dec_figs U)
    go_loopw [7, 31, 32, 33, 34, 35, 36, 37, 38, 39, 40, 41] (fun s7 _ _ _ _ _ _ _ _ _ _ _ wr => ∃ (u : Nat) (s : ByteArray), s7 = .string s ∧ u < 340282366920938463463374607431768211456 ∧ Hid (Lib.decDigits U = figs u ++ s.data.toList) ∧ One wr hb (.int .u64 (hiN u)) 38 ∧ One wr lb (.int .u64 (loN u)) 38 ∧ Below (w.heap.size + 1) wc wr) (fun _ _ _ _ _ _ _ _ _ _ _ _ wr => numAt wr hb lb)
    case atStart => exact ⟨U / 10, (⟨#[48 + UInt8.ofNat (U % 10)]⟩ : ByteArray), rfl, by omega, Lib.hid (by rw [hfig.out]; simp), oh1, ol1, hb1⟩
    case round =>
      obtain ⟨u, s, rfl, hu, hf, oh2, ol2, hB2⟩ := hrel
      have kk0 : wr.cell? ⟨w.heap.size, 0, none⟩ = some (.int .i64 h) := (hB2.cell (p := ⟨w.heap.size, 0, none⟩) (by simp)).trans k0
      have d0 := cell_of_one oh2; have d1 := cell_of_one ol2
      have hsz : s.size ≤ 39 := by
        have h1 := dec_len 38 U (by omega)
        rw [hf.out, List.length_append] at h1
        have h2 : s.data.toList.length = s.size := rfl
        omega
      by_cases hu0 : u = 0
      · subst hu0
        have z1 : hiN 0 = 0 := rfl
        have z2 : loN 0 = 0 := rfl
        rw [z1] at d0; rw [z2] at d1
        clear hu hUb oh ol oh1 ol1 oh2 ol2 hU0 z1 z2 ed k1
        go_wp2_with fail
        go_ret
        refine ⟨ret_str ?_, hB.trans (hB2.mono (by omega))⟩
        have := hf.out
        have hU0 := HU0.out
        rw [show Lib.itoa (-(U : Int)) = 45 :: Lib.decDigits U by unfold Lib.itoa; rw [if_pos (by omega)]; simp, this]
        apply ByteArray.ext; simp [figs]
      · have hm := numAt_eq oh2 ol2
        have end1 : ∀ wq, One wq hb (.int .u64 (hiN (u / 10))) 38 → One wq lb (.int .u64 (loN (u / 10))) 38 → numAt wq hb lb < numAt wr hb lb := fun wq a b => by rw [numAt_eq a b, hm]; omega
        have END := Lib.hid end1; clear end1 hm
        have ed2 := enc_digit (u % 10) (by omega)
        simp only [Int.natCast_emod, Int.cast_ofNat_Int] at ed2
        have ED2 := Lib.hid ed2; clear ed2 ed
        have hf2 : Hid (Lib.decDigits U = figs (u / 10) ++ ([UInt8.ofNat (48 + u % 10)] ++ s.data.toList)) := Lib.hid (by rw [hf.out, figs_step u hu0, List.append_assoc])
        by_cases hz : hiN u = 0
        · have hz2 : (loN u != 0) = true := by simp; unfold hiN at hz; unfold loN; omega
          rw [hz] at d0
          go_wp2_with fail
          refine (next_u (w.heap.size + 1) hb lb u wr hu oh2 ol2 hne bh bl).mono ?_
          rintro e wq ⟨rfl, hbq, ohq, olq⟩
          have HUU := Lib.hid hu
          clear d0 d1 kk0 oh2 ol2 hu hUb oh ol oh1 ol1 k1 hU0
          have ed2 := ED2.out
          go_wp2_with fail
          go_roundw
          case rel => exact ⟨u / 10, (⟨#[48 + UInt8.ofNat (u % 10)]⟩ : ByteArray) ++ s, rfl, by have := HUU.out; omega, Lib.hid (by rw [hf2.out]; simp), ohq, olq, hB2.trans hbq⟩
          case measure => exact END.out wq ohq olq
        · have hz2 : (hiN u != 0) = true := by simpa using hz
          go_wp2_with fail
          refine (next_u (w.heap.size + 1) hb lb u wr hu oh2 ol2 hne bh bl).mono ?_
          rintro e wq ⟨rfl, hbq, ohq, olq⟩
          have HUU := Lib.hid hu
          clear d0 d1 kk0 oh2 ol2 hu hUb oh ol oh1 ol1 k1 hU0
          have ed2 := ED2.out
          go_wp2_with fail
          go_roundw
          case rel => exact ⟨u / 10, (⟨#[48 + UInt8.ofNat (u % 10)]⟩ : ByteArray) ++ s, rfl, by have := HUU.out; omega, Lib.hid (by rw [hf2.out]; simp), ohq, olq, hB2.trans hbq⟩
          case measure => exact END.out wq ohq olq
theorem wtext_calls (h l : Int) (w : World) (k : WOk h l) :
    Calls Try.prog 59 #[.agg #[.int .i64 h, .int .u64 l]] w fun e w' => e = .returned (.string ⟨(Lib.itoa (wval h l)).toArray⟩) ∧ Below w.heap.size w w' := by
  by_cases hn : h < 0
  · exact text_neg h l w k hn
  · exact text_pos h l w k hn
end Go.Proofs.Yteomicjjaajblaa
