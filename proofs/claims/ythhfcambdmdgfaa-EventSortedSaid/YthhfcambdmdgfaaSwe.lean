import Derived.Test.YthhfcambdmdgfaaSwd
import Derived.IntWalk
namespace Go.Proofs.Ythhfcambdmdgfaa
open Go.RowKit Go.Maps Srt
set_option linter.unusedVariables false
set_option linter.unusedSimpArgs false
set_option linter.unusedSectionVars false
/-! ### Blocks -/
section
variable {α κ : Type} [DecidableEq κ] {K : α → κ} {lt : κ → κ → Bool} {d d1 d2 : Nat → α} {s n q a b : Nat}
def BlkTo (K : α → κ) (lt : κ → κ → Bool) (d : Nat → α) (s a : Nat) : Prop := ∀ r, (r + 1) * s ≤ a → SrtF K lt d (r * s) ((r + 1) * s)
def BlkAll (K : α → κ) (lt : κ → κ → Bool) (d : Nat → α) (s n : Nat) : Prop := ∀ r, SrtF K lt d (r * s) (min ((r + 1) * s) n)
def BlkRest (K : α → κ) (lt : κ → κ → Bool) (d : Nat → α) (s n a : Nat) : Prop := ∀ r, a ≤ r * s → SrtF K lt d (r * s) (min ((r + 1) * s) n)
theorem blk_lt_iff (hs : 0 < s) {r q : Nat} : (r + 1) * s ≤ q * s ↔ r < q := ⟨fun h => Nat.le_of_mul_le_mul_right h hs, fun h => Nat.mul_le_mul_right s h⟩
theorem blkTo_0 : BlkTo K lt d s 0 := fun r hr i j h1 h2 h3 => by omega
theorem blkTo_step (hs : 0 < s) (h : BlkTo K lt d1 s (q * s)) (hw : Wk K n d1 d2 (q * s) ((q + 1) * s)) (k : SrtF K lt d2 (q * s) ((q + 1) * s)) : BlkTo K lt d2 s ((q + 1) * s) := by
  intro r hr
  have hrq : r < q + 1 := (blk_lt_iff hs).1 hr
  by_cases e : r = q
  · subst e; exact k
  · have h1 : (r + 1) * s ≤ q * s := (blk_lt_iff hs).2 (by omega)
    exact srt_same (h r h1) (fun i _ hi => hw.out i (.inl (by omega)))
theorem blkAll_of (hs : 0 < s) (h : BlkTo K lt d1 s (q * s)) (hn : n < (q + 1) * s) (hw : Wk K n d1 d2 (q * s) n) (k : SrtF K lt d2 (q * s) n) : BlkAll K lt d2 s n := by
  intro r
  by_cases e : r = q
  · subst e; rw [Nat.min_eq_right (Nat.le_of_lt hn)]; exact k
  · by_cases e2 : r < q
    · have h1 : (r + 1) * s ≤ q * s := (blk_lt_iff hs).2 e2
      refine srt_sub (b := (r + 1) * s) (srt_same (h r h1) (fun i _ hi => hw.out i (.inl (by omega)))) (Nat.le_refl _) (Nat.min_le_left _ _)
    · have h1 : (q + 1) * s ≤ r * s := (blk_lt_iff hs).2 (by omega)
      intro i j h2 h3 h4
      have := Nat.lt_of_lt_of_le h4 (Nat.min_le_right _ _)
      omega
theorem blkRest_of (h : BlkAll K lt d s n) : BlkRest K lt d s n 0 := fun r _ => h r
theorem two_mul_s (q s : Nat) : q * (2 * s) = 2 * q * s := by rw [Nat.mul_comm 2 s, ← Nat.mul_assoc, Nat.mul_comm (q * s) 2, ← Nat.mul_assoc]
theorem rest_lo (h : BlkRest K lt d s n (q * (2 * s))) (hn : q * (2 * s) + s ≤ n) : SrtF K lt d (q * (2 * s)) (q * (2 * s) + s) := by
  have := h (2 * q) (by rw [two_mul_s]; exact Nat.le_refl _)
  rw [Nat.add_mul, Nat.one_mul, ← two_mul_s, Nat.min_eq_left hn] at this
  exact this
theorem rest_lo' (h : BlkRest K lt d s n (q * (2 * s))) (hn : n ≤ q * (2 * s) + s) : SrtF K lt d (q * (2 * s)) n := by
  have := h (2 * q) (by rw [two_mul_s]; exact Nat.le_refl _)
  rw [Nat.add_mul, Nat.one_mul, ← two_mul_s, Nat.min_eq_right hn] at this
  exact this
theorem rest_hi (h : BlkRest K lt d s n (q * (2 * s))) : SrtF K lt d (q * (2 * s) + s) (min (q * (2 * s) + 2 * s) n) := by
  have := h (2 * q + 1) (by rw [Nat.add_mul, ← two_mul_s]; omega)
  rw [show (2 * q + 1 + 1) * s = q * (2 * s) + 2 * s by rw [two_mul_s, ← Nat.add_mul], show (2 * q + 1) * s = q * (2 * s) + s by rw [two_mul_s, Nat.add_mul, Nat.one_mul]] at this
  exact this
theorem rest_step {m : Nat} (h : BlkRest K lt d1 s n a) (hw : Wk K m d1 d2 a b) (hab : a ≤ b) : BlkRest K lt d2 s n b := fun r hr =>
  srt_same (h r (by omega)) (fun i hi _ => hw.out i (.inr (by omega)))
theorem blkAll_end (h : BlkAll K lt d s n) (hn : n ≤ s) : SrtF K lt d 0 n := by
  have := h 0
  rw [Nat.zero_mul, Nat.zero_add, Nat.one_mul, Nat.min_eq_right hn] at this
  exact this
end
set_option maxRecDepth 100000 in
set_option maxHeartbeats 16000000 in
theorem stable_calls {w0 W : World} {B g N cap : Nat} {d : Nat → OX} (h : SW w0 B g N cap d W) (hP : AllP N d) (hN : N ≤ 1000000) :
    Calls Try.prog 80 #[.slice (some ⟨g, 0, none⟩) N cap, .int .i64 (N : Int), .func (.func 58) #[] #[]] W (Done w0 B g N cap d 0 N) := by
  have HSW0 := Lib.hid h; have HP := Lib.hid hP
  clear h hP
  have hNI : (N : Int) ≤ 1000000 := by omega
  go_enter Try.func80, Try.ntmps80
  go_wp2_with fail
  go_loopw [7, 8] (fun sa sb wr => ∃ (a b : Nat) (d1 : Nat → OX), sa = .int .i64 (a : Int) ∧ sb = .int .i64 (b : Int) ∧ a ≤ N ∧ b = a + 20 ∧ Hid (∃ q, a = q * 20 ∧ Wk kX N d d1 0 N ∧ BlkTo kX ltB d1 20 (q * 20) ∧ AllP N d1 ∧ SW w0 B g N cap d1 wr)) (fun sa _ _ => N + 20 - (intOf sa).toNat)
  case atStart => exact ⟨0, 20, d, rfl, rfl, Nat.zero_le _, rfl, Lib.hid ⟨0, rfl, Wk.refl _ _ _, blkTo_0, HP.out, HSW0.out⟩⟩
  case round =>
    obtain ⟨a, b, d1, rfl, rfl, haN, hba, HQ⟩ := hrel
    have HBA := Lib.hid hba
    have hab : a < b := by omega
    have hbb : b ≤ a + 20 := by omega
    clear hba
    by_cases hbN : b ≤ N
    · have hbI : (b : Int) ≤ N := by omega
      have HC : Hid (Calls Try.prog 104 #[.slice (some ⟨g, 0, none⟩) N cap, .int .i64 (a : Int), .int .i64 (b : Int), .func (.func 58) #[] #[]] wr (Done w0 B g N cap d1 a b)) := Lib.hid (by
        obtain ⟨q, _, _, _, q3, q4⟩ := HQ.out
        exact insS_calls q4 q3 (Nat.le_of_lt hab) hbN hN)
      go_wp2_with (go_at_call 104; refine HC.out.mono ?_; rintro e w4 ⟨rfl, D2, e1, e2, e3, e4⟩; have HE := Lib.hid (And.intro e1 (And.intro e2 (And.intro e3 e4))); clear e1 e2 e3 e4)
      go_roundw
      case rel =>
        refine ⟨b, b + 20, D2, rfl, by simp, hbN, rfl, Lib.hid ?_⟩
        obtain ⟨q, hq, q1, q2, q3, q4⟩ := HQ.out
        obtain ⟨e1, e2, e3, e4⟩ := HE.out
        have hb2 : b = (q + 1) * 20 := by have := HBA.out; omega
        rw [hq, hb2] at e1 e2
        exact ⟨q + 1, hb2, q1.trans (e1.wider (Nat.zero_le _) (by omega)), blkTo_step (by decide) q2 e1 e2, e3, e4⟩
      case measure => have := HBA.out; simp [intOf]; omega
    · have hbI : ¬ (b : Int) ≤ N := by omega
      have HC : Hid (Calls Try.prog 104 #[.slice (some ⟨g, 0, none⟩) N cap, .int .i64 (a : Int), .int .i64 (N : Int), .func (.func 58) #[] #[]] wr (Done w0 B g N cap d1 a N)) := Lib.hid (by
        obtain ⟨q, _, _, _, q3, q4⟩ := HQ.out
        exact insS_calls q4 q3 haN (Nat.le_refl _) hN)
      go_wp2_with (go_at_call 104; refine HC.out.mono ?_; rintro e w4 ⟨rfl, D2, e1, e2, e3, e4⟩; have HE := Lib.hid (And.intro e1 (And.intro e2 (And.intro e3 e4))); clear e1 e2 e3 e4)
      have HSTART : Hid (Wk kX N d D2 0 N ∧ BlkAll kX ltB D2 20 N ∧ AllP N D2 ∧ SW w0 B g N cap D2 w4) := Lib.hid (by
        obtain ⟨q, hq, q1, q2, q3, q4⟩ := HQ.out
        obtain ⟨e1, e2, e3, e4⟩ := HE.out
        rw [hq] at e1 e2
        exact ⟨q1.trans (e1.wider (Nat.zero_le _) (Nat.le_refl _)), blkAll_of (by decide) q2 (by have := HBA.out; omega) e1 e2, e3, e4⟩)
      clear HC HQ HE HBA hbI hbb hab
      go_loopw [6] (fun ss wr => ∃ (s : Nat) (d2 : Nat → OX), ss = .int .i64 (s : Int) ∧ 20 ≤ s ∧ s ≤ 2000000 ∧ Hid (Wk kX N d d2 0 N ∧ BlkAll kX ltB d2 s N ∧ AllP N d2 ∧ SW w0 B g N cap d2 wr)) (fun ss _ => N - (intOf ss).toNat)
      case atStart => exact ⟨20, D2, rfl, Nat.le_refl _, by omega, HSTART⟩
      case round =>
        clear HSTART
        obtain ⟨s, d2, rfl, hs1, hs2, HQ⟩ := hrel
        by_cases hsN : s < N
        · have hsI : (s : Int) < N := by omega
          have hs3 : (20 : Int) ≤ s := by omega
          have HST : Hid (Wk kX N d d2 0 N ∧ BlkTo kX ltB d2 (2 * s) (0 * (2 * s)) ∧ BlkRest kX ltB d2 s N (0 * (2 * s)) ∧ AllP N d2 ∧ SW w0 B g N cap d2 wr) := Lib.hid (by
            obtain ⟨q1, q2, q3, q4⟩ := HQ.out
            exact ⟨q1, by rw [Nat.zero_mul]; exact blkTo_0, by rw [Nat.zero_mul]; exact blkRest_of q2, q3, q4⟩)
          go_wp2_with fail
          go_loopw [7, 8] (fun sa sb wr => ∃ (a b : Nat) (d3 : Nat → OX), sa = .int .i64 (a : Int) ∧ sb = .int .i64 (b : Int) ∧ a ≤ N ∧ b = a + 2 * s ∧ Hid (∃ q, a = q * (2 * s) ∧ Wk kX N d d3 0 N ∧ BlkTo kX ltB d3 (2 * s) (q * (2 * s)) ∧ BlkRest kX ltB d3 s N (q * (2 * s)) ∧ AllP N d3 ∧ SW w0 B g N cap d3 wr)) (fun sa _ _ => N + 2 * s - (intOf sa).toNat)
          case atStart => exact ⟨0, 2 * s, d2, rfl, by (rw [show ((2 * s : Nat) : Int) = 2 * (s : Int) by omega]), Nat.zero_le _, by omega, Lib.hid ⟨0, by omega, HST.out⟩⟩
          case round =>
            clear HST
            obtain ⟨a, b, d3, rfl, rfl, haN, hba, HR⟩ := hrel
            have HBA := Lib.hid hba
            have hab : a + s < b := by omega
            have hbb : b ≤ 4000000 := by omega
            have hal : (a : Int) ≤ 1000000 := by omega
            have hsl : (s : Int) ≤ 1000000 := by omega
            have hbl : (b : Int) ≤ 4000000 := by omega
            clear hba
            have e1 : ((a + s : Nat) : Int) = (a : Int) + s := by omega
            by_cases hbN : b ≤ N
            · have hbI : (b : Int) ≤ N := by omega
              have HC : Hid (Calls Try.prog 105 #[.slice (some ⟨g, 0, none⟩) N cap, .int .i64 (a : Int), .int .i64 ((a : Int) + s), .int .i64 (b : Int), .func (.func 58) #[] #[]] wr (Done w0 B g N cap d3 a b)) := Lib.hid (by
                obtain ⟨q, hq, _, _, q2, q3, q4⟩ := HR.out
                have z1 := rest_lo q2 (by rw [← hq]; omega)
                have z2 := rest_hi q2
                rw [← hq] at z1 z2
                rw [Nat.min_eq_left (by have := HBA.out; omega), ← HBA.out] at z2
                rw [← e1]
                exact symM_calls (b - a) a (a + s) b (Nat.le_refl _) (by omega) hab hbN hN q4 q3 z1 z2)
              clear e1
              go_wp2_with (go_at_call 105; refine HC.out.mono ?_; rintro e w4 ⟨rfl, D3, e1, e2, e3, e4⟩; have HE := Lib.hid (And.intro e1 (And.intro e2 (And.intro e3 e4))); clear e1 e2 e3 e4)
              go_roundw
              case rel =>
                refine ⟨b, b + 2 * s, D3, rfl, by (rw [show ((b + 2 * s : Nat) : Int) = (b : Int) + 2 * s by omega]), hbN, rfl, Lib.hid ?_⟩
                obtain ⟨q, hq, q1, q2, q2', q3, q4⟩ := HR.out
                obtain ⟨e1, e2, e3, e4⟩ := HE.out
                have hb2 : b = (q + 1) * (2 * s) := by have := HBA.out; rw [Nat.add_mul, Nat.one_mul, ← hq]; exact this
                have q5 := rest_step q2' (b := b) (by rw [← hq]; exact e1) (by rw [← hq]; omega)
                rw [hb2] at q5
                rw [hq, hb2] at e1 e2
                exact ⟨q + 1, hb2, q1.trans (e1.wider (Nat.zero_le _) (by rw [← hb2]; exact hbN)), blkTo_step (by omega) q2 e1 e2, q5, e3, e4⟩
              case measure => have := HBA.out; simp [intOf]; omega
            · have hbI : ¬ (b : Int) ≤ N := by omega
              have FIN : Hid (∀ (D3 : Nat → OX) (w4 : World), Wk kX N d3 D3 a N → SrtF kX ltB D3 a N → AllP N D3 → SW w0 B g N cap D3 w4 → Wk kX N d D3 0 N ∧ BlkAll kX ltB D3 (2 * s) N ∧ AllP N D3 ∧ SW w0 B g N cap D3 w4) := Lib.hid (by
                intro D3 w4 e1 e2 e3 e4
                obtain ⟨q, hq, q1, q2, q2', q3, q4⟩ := HR.out
                rw [hq] at e1 e2
                exact ⟨q1.trans (e1.wider (Nat.zero_le _) (Nat.le_refl _)), blkAll_of (by omega) q2 (by have := HBA.out; rw [Nat.add_mul, Nat.one_mul, ← hq]; omega) e1 e2, e3, e4⟩)
              by_cases hmN : a + s < N
              · have hmI : (a : Int) + s < N := by omega
                have HC : Hid (Calls Try.prog 105 #[.slice (some ⟨g, 0, none⟩) N cap, .int .i64 (a : Int), .int .i64 ((a : Int) + s), .int .i64 (N : Int), .func (.func 58) #[] #[]] wr (Done w0 B g N cap d3 a N)) := Lib.hid (by
                  obtain ⟨q, hq, _, _, q2, q3, q4⟩ := HR.out
                  have z1 := rest_lo q2 (by rw [← hq]; omega)
                  have z2 := rest_hi q2
                  rw [← hq] at z1 z2
                  rw [Nat.min_eq_right (by have := HBA.out; omega)] at z2
                  rw [← e1]
                  exact symM_calls (N - a) a (a + s) N (Nat.le_refl _) (by omega) hmN (Nat.le_refl _) hN q4 q3 z1 z2)
                clear e1
                go_wp2_with (go_at_call 105; refine HC.out.mono ?_; rintro e w4 ⟨rfl, D3, e1, e2, e3, e4⟩; have HE := Lib.hid (FIN.out D3 w4 e1 e2 e3 e4); clear e1 e2 e3 e4)
                go_roundw
                case rel => exact ⟨s * 2, D3, by (rw [show ((s * 2 : Nat) : Int) = (s : Int) * 2 by omega]), by omega, by omega, by rw [Nat.mul_comm]; exact HE⟩
                case measure => simp [intOf]; omega
              · have hmI : ¬ (a : Int) + s < N := by omega
                have HE : Hid (Wk kX N d d3 0 N ∧ BlkAll kX ltB d3 (2 * s) N ∧ AllP N d3 ∧ SW w0 B g N cap d3 wr) := Lib.hid (by
                  obtain ⟨q, hq, _, _, q2, q3, q4⟩ := HR.out
                  have z1 := rest_lo' q2 (by rw [← hq]; omega)
                  rw [← hq] at z1
                  exact FIN.out d3 wr (Wk.refl _ _ _) z1 q3 q4)
                clear e1
                go_wp2_with fail
                go_roundw
                case rel => exact ⟨s * 2, d3, by (rw [show ((s * 2 : Nat) : Int) = (s : Int) * 2 by omega]), by omega, by omega, by rw [Nat.mul_comm]; exact HE⟩
                case measure => simp [intOf]; omega
        · have hsI : ¬ (s : Int) < N := by omega
          go_wp2_with fail
          go_end0
          obtain ⟨q1, q2, q3, q4⟩ := HQ.out
          exact ⟨rfl, d2, q1, blkAll_end q2 (by omega), q3, q4⟩
set_option maxRecDepth 100000 in
set_option maxHeartbeats 4000000 in
theorem sortS_calls {w0 W : World} {B g N cap : Nat} {d : Nat → OX} (h : SW w0 B g N cap d W) (hP : AllP N d) (hN : N ≤ 1000000) :
    Calls Try.prog 57 #[.slice (some ⟨g, 0, none⟩) N cap, .func (.func 58) #[] #[]] W (Done w0 B g N cap d 0 N) := by
  have HC := Lib.hid (stable_calls h hP hN)
  clear h hP
  go_enter Try.func57, Try.ntmps57
  go_wp2_with (go_at_call 80; refine HC.out.mono ?_; rintro e w4 ⟨rfl, hd⟩; have HD := Lib.hid hd; clear hd)
  go_end0
  exact ⟨rfl, HD.out⟩
end Go.Proofs.Ythhfcambdmdgfaa
