import Derived.Test.YteomicjjaajblaaProg
import Derived.Test.YteomicjjaajblaaWidd
import Derived.OneCell
import Derived.Lib.ItoaNum
namespace Go.Proofs.Yteomicjjaajblaa
open Go.RowKit
set_option linter.unusedSimpArgs false
set_option linter.unusedVariables false
/-- A variable of its own: a block of one cell. -/
def One (w : World) (b : Nat) (v : Value) (t : TypeId) : Prop := w.heap[b]? = some (.cells #[v] t (0, 0))
theorem one_other {w : World} {b c : Nat} {v : Value} {t : TypeId} (h : One w b v t) (hne : b ≠ c) (u : Value) : One (w.setCell ⟨c, 0, none⟩ u) b v t := (Below.heap_setCell w ⟨c, 0, none⟩ u b hne).trans h
theorem bl_any (B : Nat) (w : World) : Below B w w := ⟨rfl, rfl, rfl, Nat.le_refl _, fun _ _ => rfl⟩
theorem next_calls (B hb lb : Nat) (hi lo : Int) (w : World) (h0 : 0 ≤ hi) (h1 : hi ≤ 18446744073709551615) (l0 : 0 ≤ lo) (l1 : lo ≤ 18446744073709551615)
    (oh : One w hb (.int .u64 hi) 38) (ol : One w lb (.int .u64 lo) 38) (hne : hb ≠ lb) (bh : B ≤ hb) (bl : B ≤ lb) :
    Calls Try.prog 75 #[.pointer (some ⟨hb, 0, none⟩), .pointer (some ⟨lb, 0, none⟩)] w fun e w' =>
      e = .returned (.int .u8 (48 + (hi * 18446744073709551616 + lo) % 10)) ∧ Below B w w' ∧ One w' hb (.int .u64 (hi / 10)) 38 ∧ One w' lb (.int .u64 (((hi % 10) * 18446744073709551616 + lo) / 10)) 38 := by
  have c0 := cell_of_one oh; have c1 := cell_of_one ol; have f0 := free_of_one oh; have f1 := free_of_one ol
  have t1 : hi.tdiv 10 = hi / 10 := Int.tdiv_eq_ediv_of_nonneg h0
  have t2 : hi.tmod 10 = hi % 10 := Int.tmod_eq_emod_of_nonneg h0
  have e1 : IntKind.u64.wrap (hi / 10) = hi / 10 := by rw [u64_wrap]; omega
  have e2 : IntKind.u64.wrap (hi % 10) = hi % 10 := by rw [u64_wrap]; omega
  go_enter Try.func75, Try.ntmps75
  go_wp2_with (go_at_call 76; refine (div10_calls (hi % 10) lo _ (by omega) (by omega) l0 l1).mono ?_; rintro e w' ⟨rfl, n, rfl⟩)
  go_ret
  refine ⟨ret_int (by omega), ?_, ?_, ?_⟩
  · exact Below.setCell (bl_dN (Below.setCell (bl_any B w) bh _) n) bl _
  · exact one_other (one_setCell oh) hne _
  · exact one_setCell (one_other ol (Ne.symm hne) _)
def hiN (u : Nat) : Int := ((u / 18446744073709551616 : Nat) : Int)
def loN (u : Nat) : Int := ((u % 18446744073709551616 : Nat) : Int)
theorem next_u (B hb lb u : Nat) (w : World) (hu : u < 340282366920938463463374607431768211456)
    (oh : One w hb (.int .u64 (hiN u)) 38) (ol : One w lb (.int .u64 (loN u)) 38) (hne : hb ≠ lb) (bh : B ≤ hb) (bl : B ≤ lb) :
    Calls Try.prog 75 #[.pointer (some ⟨hb, 0, none⟩), .pointer (some ⟨lb, 0, none⟩)] w fun e w' =>
      e = .returned (.int .u8 ((48 + u % 10 : Nat) : Int)) ∧ Below B w w' ∧ One w' hb (.int .u64 (hiN (u / 10))) 38 ∧ One w' lb (.int .u64 (loN (u / 10))) 38 := by
  have a1 : 0 ≤ hiN u ∧ hiN u ≤ 18446744073709551615 ∧ 0 ≤ loN u ∧ loN u ≤ 18446744073709551615 := by unfold hiN loN; omega
  refine (next_calls B hb lb (hiN u) (loN u) w a1.1 a1.2.1 a1.2.2.1 a1.2.2.2 oh ol hne bh bl).mono ?_
  rintro e w' ⟨rfl, b, o1, o2⟩
  have e1 : hiN u / 10 = hiN (u / 10) := by unfold hiN; omega
  have e2 : (hiN u % 10 * 18446744073709551616 + loN u) / 10 = loN (u / 10) := by unfold hiN loN; omega
  have e3 : 48 + (hiN u * 18446744073709551616 + loN u) % 10 = ((48 + u % 10 : Nat) : Int) := by unfold hiN loN; omega
  rw [e1] at o1; rw [e2] at o2
  exact ⟨ret_int e3, b, o1, o2⟩
theorem dec_len (k u : Nat) (h : u < 10 ^ (k + 1)) : (Lib.decDigits u).length ≤ k + 1 := by
  induction k generalizing u with
  | zero => rw [Lib.decDigits, dif_pos (by omega)]; simp
  | succ k ih =>
    rw [Lib.decDigits]
    split
    · simp
    · have := ih (u / 10) (by rw [Nat.div_lt_iff_lt_mul (by omega), ← Nat.pow_succ]; exact h)
      simp only [List.length_append, List.length_singleton]; omega
theorem enc_digit (n : Nat) (h : n < 10) : Utf8.encode (48 + (n : Int)) = ⟨#[48 + UInt8.ofNat n]⟩ := by
  have : n = 0 ∨ n = 1 ∨ n = 2 ∨ n = 3 ∨ n = 4 ∨ n = 5 ∨ n = 6 ∨ n = 7 ∨ n = 8 ∨ n = 9 := by omega
  rcases this with rfl | rfl | rfl | rfl | rfl | rfl | rfl | rfl | rfl | rfl <;> decide
def numAt (w : World) (hb lb : Nat) : Nat := (intOf ((w.cell? ⟨hb, 0, none⟩).getD undef)).toNat * 18446744073709551616 + (intOf ((w.cell? ⟨lb, 0, none⟩).getD undef)).toNat
theorem numAt_eq {w : World} {hb lb u : Nat} {t : TypeId} (oh : One w hb (.int .u64 (hiN u)) t) (ol : One w lb (.int .u64 (loN u)) t) : numAt w hb lb = u := by
  unfold numAt
  rw [cell_of_one oh, cell_of_one ol]
  simp only [Option.getD_some, intOf, hiN, loN]
  omega
def figs (u : Nat) : List UInt8 := if u = 0 then [] else Lib.decDigits u
theorem figs_step (u : Nat) (h : u ≠ 0) : figs u = figs (u / 10) ++ [UInt8.ofNat (48 + u % 10)] := by
  unfold figs
  rw [if_neg h]
  by_cases c : u < 10
  · rw [if_pos (by omega), Lib.decDigits, dif_pos c, Nat.mod_eq_of_lt c]; rfl
  · rw [if_neg (by omega), Lib.decDigits, dif_neg c]
theorem dec_figs (u : Nat) : Lib.decDigits u = figs (u / 10) ++ [UInt8.ofNat (48 + u % 10)] := by
  by_cases h : u = 0
  · subst h; rw [Lib.decDigits]; rfl
  · rw [← figs_step u h, figs, if_neg h]
theorem meet12 (w : World) (A : Obj) (x y : Value) (t : TypeId) :
    One (((w.alloc A).alloc (.cells #[x] t)).alloc (.cells #[y] t)).drew (w.heap.size + 1) x t ∧ One (((w.alloc A).alloc (.cells #[x] t)).alloc (.cells #[y] t)).drew (w.heap.size + 1 + 1) y t ∧
    (((w.alloc A).alloc (.cells #[x] t)).alloc (.cells #[y] t)).drew.heap[w.heap.size]? = some A ∧ Below w.heap.size w (((w.alloc A).alloc (.cells #[x] t)).alloc (.cells #[y] t)).drew := by
  refine ⟨blk_drew (blk_old (blk_newAt _ _ (by simp)) _), blk_drew (blk_newAt _ _ (by simp)), blk_drew (blk_old (blk_old (blk_new _ _) _) _), ?_⟩
  have hw0 := Below.refl w.heap.size w
  (repeat (first | exact Below.refl _ _ | exact hw0 | refine Below.setCell ?_ (by first | (simp; done) | (simp; omega)) _ | refine Below.alloc ?_ (by first | (simp; done) | (simp; omega)) _ | refine bl_dN ?_ _ | refine Below.drew ?_))
theorem text_pos (h l : Int) (w : World) (k : WOk h l) (hn : ¬ h < 0) :
    Calls Try.prog 59 #[.agg #[.int .i64 h, .int .u64 l]] w fun e w' => e = .returned (.string ⟨(Lib.itoa (wval h l)).toArray⟩) ∧ Below w.heap.size w w' := by
  have c1 : decide (h < 0) = false := by simpa using hn
  have e1 : IntKind.u64.wrap h = h := by rw [u64_wrap]; have := k.h1; have := k.h2; omega
  obtain ⟨U, hU⟩ : ∃ U : Nat, (U : Int) = wval h l := ⟨(wval h l).toNat, by have := k.l1; unfold wval; omega⟩
  have hUb : U < 340282366920938463463374607431768211456 := by have := k.h2; have := k.l2; unfold wval at hU; omega
  have x1 : h = hiN U := by have := k.l1; have := k.l2; unfold wval at hU; unfold hiN; omega
  have x2 : l = loN U := by have := k.l1; have := k.l2; unfold wval at hU; unfold loN; omega
  rw [← hU]
  have X1 := Lib.hid x1; clear x1; have X2 := Lib.hid x2; clear x2; clear hU
  have K := Lib.hid k; clear k
  go_enter Try.func59, Try.ntmps59
  go_upto_region 1 with fail
  go_cut [3, 4, 8, 9, 10, 11, 12] (fun s3 s4 _ _ _ _ _ wc => ∃ hb lb : Nat, s3 = .pointer (some ⟨hb, 0, none⟩) ∧ s4 = .pointer (some ⟨lb, 0, none⟩) ∧ One wc hb (.int .u64 h) 38 ∧ One wc lb (.int .u64 l) 38 ∧ hb ≠ lb ∧ w.heap.size + 1 ≤ hb ∧ w.heap.size + 1 ≤ lb ∧ w.heap.size + 1 ≤ wc.heap.size ∧ Below w.heap.size w wc ∧ wc.cell? ⟨w.heap.size, 0, none⟩ = some (.int .i64 h) ∧ wc.cell? ⟨w.heap.size, 1, none⟩ = some (.int .u64 l))
  case first =>
    go_region
    all_goals go_wp2_with fail
    all_goals go_meet
    all_goals obtain ⟨a1, a2, a3, a4⟩ := meet12 w _ _ _ _
    · exact ⟨_, _, rfl, rfl, a1, a2, by omega, by omega, by omega, by simp, a4, blk_cell a3 0, blk_cell a3 1⟩
    · exact ⟨_, _, rfl, rfl, a2, a1, by omega, by omega, by omega, by simp, a4, blk_cell a3 0, blk_cell a3 1⟩
  case rest =>
    obtain ⟨hb, lb, rfl, rfl, oh, ol, hne, bh, bl, bs, hB, k0, k1⟩ := hcut
    rw [X1.out] at oh; rw [X2.out] at ol
    go_wp2_with (go_at_call 75; refine (next_u (w.heap.size + 1) hb lb U _ hUb oh ol hne bh bl).mono ?_; rintro e wn ⟨rfl, hb1, oh1, ol1⟩)
    have ed := enc_digit (U % 10) (by omega)
    simp only [Int.natCast_emod, Int.cast_ofNat_Int] at ed
    rw [ed]
    have hfig := Lib.hid (dec_figs U)
    go_loopw [7, 31, 32, 33, 34, 35, 36, 37, 38, 39, 40, 41] (fun s7 _ _ _ _ _ _ _ _ _ _ _ wr => ∃ (u : Nat) (s : ByteArray), s7 = .string s ∧ u < 340282366920938463463374607431768211456 ∧ Hid (Lib.decDigits U = figs u ++ s.data.toList) ∧ One wr hb (.int .u64 (hiN u)) 38 ∧ One wr lb (.int .u64 (loN u)) 38 ∧ Below (w.heap.size + 1) wc wr) (fun _ _ _ _ _ _ _ _ _ _ _ _ wr => numAt wr hb lb)
    case atStart => exact ⟨U / 10, (⟨#[48 + UInt8.ofNat (U % 10)]⟩ : ByteArray), rfl, by omega, Lib.hid (by rw [hfig.out]; simp), oh1, ol1, hb1⟩
    case round =>
      obtain ⟨u, s, rfl, hu, hf, oh2, ol2, hB2⟩ := hrel
      have kk0 : wr.cell? ⟨w.heap.size, 0, none⟩ = some (.int .i64 h) := (hB2.cell (p := ⟨w.heap.size, 0, none⟩) (by simp)).trans k0
      have d0 := cell_of_one oh2; have d1 := cell_of_one ol2
      by_cases hu0 : u = 0
      · subst hu0
        have z1 : hiN 0 = 0 := rfl
        have z2 : loN 0 = 0 := rfl
        rw [z1] at d0; rw [z2] at d1
        go_wp2_with fail
        go_ret
        refine ⟨ret_str ?_, hB.trans (hB2.mono (by omega))⟩
        have := hf.out
        rw [show Lib.itoa (U : Int) = Lib.decDigits U by unfold Lib.itoa; rw [if_neg (by omega)]; simp, this]; simp [figs]
      · have hm := numAt_eq oh2 ol2
        have end1 : ∀ wq, One wq hb (.int .u64 (hiN (u / 10))) 38 → One wq lb (.int .u64 (loN (u / 10))) 38 → numAt wq hb lb < numAt wr hb lb := fun wq a b => by rw [numAt_eq a b, hm]; omega
        have END := Lib.hid end1; clear end1 hm
        have ed2 := enc_digit (u % 10) (by omega)
        simp only [Int.natCast_emod, Int.cast_ofNat_Int] at ed2
        have ED2 := Lib.hid ed2; clear ed2 ed
        have hsz : s.size ≤ 39 := by
          have h1 := dec_len 38 U (by omega)
          rw [hf.out, List.length_append] at h1
          have h2 : s.data.toList.length = s.size := rfl
          omega
        have hf2 : Hid (Lib.decDigits U = figs (u / 10) ++ ([UInt8.ofNat (48 + u % 10)] ++ s.data.toList)) := Lib.hid (by rw [hf.out, figs_step u hu0, List.append_assoc])
        by_cases hz : hiN u = 0
        · have hz2 : (loN u != 0) = true := by simp; unfold hiN at hz; unfold loN; omega
          rw [hz] at d0
          go_wp2_with fail
          refine (next_u (w.heap.size + 1) hb lb u wr hu oh2 ol2 hne bh bl).mono ?_
          rintro e wq ⟨rfl, hbq, ohq, olq⟩
          clear d0 d1 kk0 oh2 ol2
          have ed2 := ED2.out
          go_wp2_with fail
          go_roundw
          case rel => exact ⟨u / 10, (⟨#[48 + UInt8.ofNat (u % 10)]⟩ : ByteArray) ++ s, rfl, by omega, Lib.hid (by rw [hf2.out]; simp), ohq, olq, hB2.trans hbq⟩
          case measure => exact END.out wq ohq olq
        · have hz2 : (hiN u != 0) = true := by simpa using hz
          go_wp2_with fail
          refine (next_u (w.heap.size + 1) hb lb u wr hu oh2 ol2 hne bh bl).mono ?_
          rintro e wq ⟨rfl, hbq, ohq, olq⟩
          clear d0 d1 kk0 oh2 ol2
          have ed2 := ED2.out
          go_wp2_with fail
          go_roundw
          case rel => exact ⟨u / 10, (⟨#[48 + UInt8.ofNat (u % 10)]⟩ : ByteArray) ++ s, rfl, by omega, Lib.hid (by rw [hf2.out]; simp), ohq, olq, hB2.trans hbq⟩
          case measure => exact END.out wq ohq olq
end Go.Proofs.Yteomicjjaajblaa
