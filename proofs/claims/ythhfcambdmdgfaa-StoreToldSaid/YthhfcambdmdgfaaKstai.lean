import Derived.Test.YthhfcambdmdgfaaKstah
import Derived.IntWalk
import Derived.Test.YthhfcambdmdgfaaKstac
import Derived.Test.YthhfcambdmdgfaaKstaf
import Derived.DeepKeys4
import Derived.DeepKeys5
import Derived.Test.YthhfcambdmdgfaaKstaa
import Derived.OrdersHeld
import Derived.TacticsInMore
namespace Go.Proofs.Ythhfcambdmdgfaa
open Go.RowKit Go.Maps Srt
set_option linter.unusedVariables false
set_option linter.unusedSimpArgs false
set_option linter.unusedSectionVars false
section
variable {α κ : Type} [DecidableEq κ] {K : α → κ} {lt : κ → κ → Bool} {d d1 d2 : Nat → α} {s n q a b : Nat}
def BlkTo (K : α → κ) (lt : κ → κ → Bool) (d : Nat → α) (s a : Nat) : Prop := ∀ r, (r + 1) * s ≤ a → SrtF K lt d (r * s) ((r + 1) * s)
def BlkAll (K : α → κ) (lt : κ → κ → Bool) (d : Nat → α) (s n : Nat) : Prop := ∀ r, SrtF K lt d (r * s) (min ((r + 1) * s) n)
def BlkRest (K : α → κ) (lt : κ → κ → Bool) (d : Nat → α) (s n a : Nat) : Prop := ∀ r, a ≤ r * s → SrtF K lt d (r * s) (min ((r + 1) * s) n)
theorem blk_lt_iff (hs : 0 < s) {r q : Nat} : (r + 1) * s ≤ q * s ↔ r < q := ⟨fun h => Nat.le_of_mul_le_mul_right h hs, fun h => Nat.mul_le_mul_right s h⟩
theorem blkTo_0 : BlkTo K lt d s 0 := fun r hr i j h1 h2 h3 => by omega
theorem blkTo_step (hs : 0 < s) (h : BlkTo K lt d1 s (q * s)) (hw : Wk K n d1 d2 (q * s) ((q + 1) * s)) (k : SrtF K lt d2 (q * s) ((q + 1) * s)) : BlkTo K lt d2 s ((q + 1) * s) := by
  intro r hr
  have hrq : r < q + 1 := (blk_lt_iff hs).1 hr
  by_cases e : r = q
  · subst e; exact k
  · have h1 : (r + 1) * s ≤ q * s := (blk_lt_iff hs).2 (by omega)
    exact srt_same (h r h1) (fun i _ hi => hw.out i (.inl (by omega)))
theorem blkAll_of (hs : 0 < s) (h : BlkTo K lt d1 s (q * s)) (hn : n < (q + 1) * s) (hw : Wk K n d1 d2 (q * s) n) (k : SrtF K lt d2 (q * s) n) : BlkAll K lt d2 s n := by
  intro r
  by_cases e : r = q
  · subst e; rw [Nat.min_eq_right (Nat.le_of_lt hn)]; exact k
  · by_cases e2 : r < q
    · have h1 : (r + 1) * s ≤ q * s := (blk_lt_iff hs).2 e2
      refine srt_sub (b := (r + 1) * s) (srt_same (h r h1) (fun i _ hi => hw.out i (.inl (by omega)))) (Nat.le_refl _) (Nat.min_le_left _ _)
    · have h1 : (q + 1) * s ≤ r * s := (blk_lt_iff hs).2 (by omega)
      intro i j h2 h3 h4
      have := Nat.lt_of_lt_of_le h4 (Nat.min_le_right _ _)
      omega
theorem blkRest_of (h : BlkAll K lt d s n) : BlkRest K lt d s n 0 := fun r _ => h r
theorem two_mul_s (q s : Nat) : q * (2 * s) = 2 * q * s := by rw [Nat.mul_comm 2 s, ← Nat.mul_assoc, Nat.mul_comm (q * s) 2, ← Nat.mul_assoc]
theorem rest_lo (h : BlkRest K lt d s n (q * (2 * s))) (hn : q * (2 * s) + s ≤ n) : SrtF K lt d (q * (2 * s)) (q * (2 * s) + s) := by
  have := h (2 * q) (by rw [two_mul_s]; exact Nat.le_refl _)
  rw [Nat.add_mul, Nat.one_mul, ← two_mul_s, Nat.min_eq_left hn] at this
  exact this
theorem rest_lo' (h : BlkRest K lt d s n (q * (2 * s))) (hn : n ≤ q * (2 * s) + s) : SrtF K lt d (q * (2 * s)) n := by
  have := h (2 * q) (by rw [two_mul_s]; exact Nat.le_refl _)
  rw [Nat.add_mul, Nat.one_mul, ← two_mul_s, Nat.min_eq_right hn] at this
  exact this
theorem rest_hi (h : BlkRest K lt d s n (q * (2 * s))) : SrtF K lt d (q * (2 * s) + s) (min (q * (2 * s) + 2 * s) n) := by
  have := h (2 * q + 1) (by rw [Nat.add_mul, ← two_mul_s]; omega)
  rw [show (2 * q + 1 + 1) * s = q * (2 * s) + 2 * s by rw [two_mul_s, ← Nat.add_mul], show (2 * q + 1) * s = q * (2 * s) + s by rw [two_mul_s, Nat.add_mul, Nat.one_mul]] at this
  exact this
theorem rest_step {m : Nat} (h : BlkRest K lt d1 s n a) (hw : Wk K m d1 d2 a b) (hab : a ≤ b) : BlkRest K lt d2 s n b := fun r hr =>
  srt_same (h r (by omega)) (fun i hi _ => hw.out i (.inr (by omega)))
theorem blkAll_end (h : BlkAll K lt d s n) (hn : n ≤ s) : SrtF K lt d 0 n := by
  have := h 0
  rw [Nat.zero_mul, Nat.zero_add, Nat.one_mul, Nat.min_eq_right hn] at this
  exact this
end
set_option maxRecDepth 100000 in
set_option maxHeartbeats 16000000 in
theorem stable_calls {w0 W : World} {B g N cap : Nat} {d : Nat → OX} (h : SW w0 B g N cap d W) (hP : AllP N d) (hN : N ≤ 1000000) :
    Calls Try.prog 80 #[.slice (some ⟨g, 0, none⟩) N cap, .int .i64 (N : Int), .func (.func 58) #[] #[]] W (Done w0 B g N cap d 0 N) := by
  have HSW0 := Lib.hid h; have HP := Lib.hid hP
  clear h hP
  have hNI : (N : Int) ≤ 1000000 := by omega
  go_enter Try.func80, Try.ntmps80
  go_wp2_with fail
  go_loopw [7, 8] (fun sa sb wr => ∃ (a b : Nat) (d1 : Nat → OX), sa = .int .i64 (a : Int) ∧ sb = .int .i64 (b : Int) ∧ a ≤ N ∧ b = a + 20 ∧ Hid (∃ q, a = q * 20 ∧ Wk kX N d d1 0 N ∧ BlkTo kX ltB d1 20 (q * 20) ∧ AllP N d1 ∧ SW w0 B g N cap d1 wr)) (fun sa _ _ => N + 20 - (intOf sa).toNat)
  case atStart => exact ⟨0, 20, d, rfl, rfl, Nat.zero_le _, rfl, Lib.hid ⟨0, rfl, Wk.refl _ _ _, blkTo_0, HP.out, HSW0.out⟩⟩
  case round =>
    obtain ⟨a, b, d1, rfl, rfl, haN, hba, HQ⟩ := hrel
    have HBA := Lib.hid hba
    have hab : a < b := by omega
    have hbb : b ≤ a + 20 := by omega
    clear hba
    by_cases hbN : b ≤ N
    · have hbI : (b : Int) ≤ N := by omega
      have HC : Hid (Calls Try.prog 104 #[.slice (some ⟨g, 0, none⟩) N cap, .int .i64 (a : Int), .int .i64 (b : Int), .func (.func 58) #[] #[]] wr (Done w0 B g N cap d1 a b)) := Lib.hid (by
        obtain ⟨q, _, _, _, q3, q4⟩ := HQ.out
        exact insS_calls q4 q3 (Nat.le_of_lt hab) hbN hN)
      go_wp2_with (go_at_call 104; refine HC.out.mono ?_; rintro e w4 ⟨rfl, D2, e1, e2, e3, e4⟩; have HE := Lib.hid (And.intro e1 (And.intro e2 (And.intro e3 e4))); clear e1 e2 e3 e4)
      go_roundw
      case rel =>
        refine ⟨b, b + 20, D2, rfl, by simp, hbN, rfl, Lib.hid ?_⟩
        obtain ⟨q, hq, q1, q2, q3, q4⟩ := HQ.out
        obtain ⟨e1, e2, e3, e4⟩ := HE.out
        have hb2 : b = (q + 1) * 20 := by have := HBA.out; omega
        rw [hq, hb2] at e1 e2
        exact ⟨q + 1, hb2, q1.trans (e1.wider (Nat.zero_le _) (by omega)), blkTo_step (by decide) q2 e1 e2, e3, e4⟩
      case measure => have := HBA.out; simp [intOf]; omega
    · have hbI : ¬ (b : Int) ≤ N := by omega
      have HC : Hid (Calls Try.prog 104 #[.slice (some ⟨g, 0, none⟩) N cap, .int .i64 (a : Int), .int .i64 (N : Int), .func (.func 58) #[] #[]] wr (Done w0 B g N cap d1 a N)) := Lib.hid (by
        obtain ⟨q, _, _, _, q3, q4⟩ := HQ.out
        exact insS_calls q4 q3 haN (Nat.le_refl _) hN)
      go_wp2_with (go_at_call 104; refine HC.out.mono ?_; rintro e w4 ⟨rfl, D2, e1, e2, e3, e4⟩; have HE := Lib.hid (And.intro e1 (And.intro e2 (And.intro e3 e4))); clear e1 e2 e3 e4)
      have HSTART : Hid (Wk kX N d D2 0 N ∧ BlkAll kX ltB D2 20 N ∧ AllP N D2 ∧ SW w0 B g N cap D2 w4) := Lib.hid (by
        obtain ⟨q, hq, q1, q2, q3, q4⟩ := HQ.out
        obtain ⟨e1, e2, e3, e4⟩ := HE.out
        rw [hq] at e1 e2
        exact ⟨q1.trans (e1.wider (Nat.zero_le _) (Nat.le_refl _)), blkAll_of (by decide) q2 (by have := HBA.out; omega) e1 e2, e3, e4⟩)
      clear HC HQ HE HBA hbI hbb hab
      go_loopw [6] (fun ss wr => ∃ (s : Nat) (d2 : Nat → OX), ss = .int .i64 (s : Int) ∧ 20 ≤ s ∧ s ≤ 2000000 ∧ Hid (Wk kX N d d2 0 N ∧ BlkAll kX ltB d2 s N ∧ AllP N d2 ∧ SW w0 B g N cap d2 wr)) (fun ss _ => N - (intOf ss).toNat)
      case atStart => exact ⟨20, D2, rfl, Nat.le_refl _, by omega, HSTART⟩
      case round =>
        clear HSTART
        obtain ⟨s, d2, rfl, hs1, hs2, HQ⟩ := hrel
        by_cases hsN : s < N
        · have hsI : (s : Int) < N := by omega
          have hs3 : (20 : Int) ≤ s := by omega
          have HST : Hid (Wk kX N d d2 0 N ∧ BlkTo kX ltB d2 (2 * s) (0 * (2 * s)) ∧ BlkRest kX ltB d2 s N (0 * (2 * s)) ∧ AllP N d2 ∧ SW w0 B g N cap d2 wr) := Lib.hid (by
            obtain ⟨q1, q2, q3, q4⟩ := HQ.out
            exact ⟨q1, by rw [Nat.zero_mul]; exact blkTo_0, by rw [Nat.zero_mul]; exact blkRest_of q2, q3, q4⟩)
          go_wp2_with fail
          go_loopw [7, 8] (fun sa sb wr => ∃ (a b : Nat) (d3 : Nat → OX), sa = .int .i64 (a : Int) ∧ sb = .int .i64 (b : Int) ∧ a ≤ N ∧ b = a + 2 * s ∧ Hid (∃ q, a = q * (2 * s) ∧ Wk kX N d d3 0 N ∧ BlkTo kX ltB d3 (2 * s) (q * (2 * s)) ∧ BlkRest kX ltB d3 s N (q * (2 * s)) ∧ AllP N d3 ∧ SW w0 B g N cap d3 wr)) (fun sa _ _ => N + 2 * s - (intOf sa).toNat)
          case atStart => exact ⟨0, 2 * s, d2, rfl, by (rw [show ((2 * s : Nat) : Int) = 2 * (s : Int) by omega]), Nat.zero_le _, by omega, Lib.hid ⟨0, by omega, HST.out⟩⟩
          case round =>
            clear HST
            obtain ⟨a, b, d3, rfl, rfl, haN, hba, HR⟩ := hrel
            have HBA := Lib.hid hba
            have hab : a + s < b := by omega
            have hbb : b ≤ 4000000 := by omega
            have hal : (a : Int) ≤ 1000000 := by omega
            have hsl : (s : Int) ≤ 1000000 := by omega
            have hbl : (b : Int) ≤ 4000000 := by omega
            clear hba
            have e1 : ((a + s : Nat) : Int) = (a : Int) + s := by omega
            by_cases hbN : b ≤ N
            · have hbI : (b : Int) ≤ N := by omega
              have HC : Hid (Calls Try.prog 105 #[.slice (some ⟨g, 0, none⟩) N cap, .int .i64 (a : Int), .int .i64 ((a : Int) + s), .int .i64 (b : Int), .func (.func 58) #[] #[]] wr (Done w0 B g N cap d3 a b)) := Lib.hid (by
                obtain ⟨q, hq, _, _, q2, q3, q4⟩ := HR.out
                have z1 := rest_lo q2 (by rw [← hq]; omega)
                have z2 := rest_hi q2
                rw [← hq] at z1 z2
                rw [Nat.min_eq_left (by have := HBA.out; omega), ← HBA.out] at z2
                rw [← e1]
                exact symM_calls (b - a) a (a + s) b (Nat.le_refl _) (by omega) hab hbN hN q4 q3 z1 z2)
              clear e1
              go_wp2_with (go_at_call 105; refine HC.out.mono ?_; rintro e w4 ⟨rfl, D3, e1, e2, e3, e4⟩; have HE := Lib.hid (And.intro e1 (And.intro e2 (And.intro e3 e4))); clear e1 e2 e3 e4)
              go_roundw
              case rel =>
                refine ⟨b, b + 2 * s, D3, rfl, by (rw [show ((b + 2 * s : Nat) : Int) = (b : Int) + 2 * s by omega]), hbN, rfl, Lib.hid ?_⟩
                obtain ⟨q, hq, q1, q2, q2', q3, q4⟩ := HR.out
                obtain ⟨e1, e2, e3, e4⟩ := HE.out
                have hb2 : b = (q + 1) * (2 * s) := by have := HBA.out; rw [Nat.add_mul, Nat.one_mul, ← hq]; exact this
                have q5 := rest_step q2' (b := b) (by rw [← hq]; exact e1) (by rw [← hq]; omega)
                rw [hb2] at q5
                rw [hq, hb2] at e1 e2
                exact ⟨q + 1, hb2, q1.trans (e1.wider (Nat.zero_le _) (by rw [← hb2]; exact hbN)), blkTo_step (by omega) q2 e1 e2, q5, e3, e4⟩
              case measure => have := HBA.out; simp [intOf]; omega
            · have hbI : ¬ (b : Int) ≤ N := by omega
              have FIN : Hid (∀ (D3 : Nat → OX) (w4 : World), Wk kX N d3 D3 a N → SrtF kX ltB D3 a N → AllP N D3 → SW w0 B g N cap D3 w4 → Wk kX N d D3 0 N ∧ BlkAll kX ltB D3 (2 * s) N ∧ AllP N D3 ∧ SW w0 B g N cap D3 w4) := Lib.hid (by
                intro D3 w4 e1 e2 e3 e4
                obtain ⟨q, hq, q1, q2, q2', q3, q4⟩ := HR.out
                rw [hq] at e1 e2
                exact ⟨q1.trans (e1.wider (Nat.zero_le _) (Nat.le_refl _)), blkAll_of (by omega) q2 (by have := HBA.out; rw [Nat.add_mul, Nat.one_mul, ← hq]; omega) e1 e2, e3, e4⟩)
              by_cases hmN : a + s < N
              · have hmI : (a : Int) + s < N := by omega
                have HC : Hid (Calls Try.prog 105 #[.slice (some ⟨g, 0, none⟩) N cap, .int .i64 (a : Int), .int .i64 ((a : Int) + s), .int .i64 (N : Int), .func (.func 58) #[] #[]] wr (Done w0 B g N cap d3 a N)) := Lib.hid (by
                  obtain ⟨q, hq, _, _, q2, q3, q4⟩ := HR.out
                  have z1 := rest_lo q2 (by rw [← hq]; omega)
                  have z2 := rest_hi q2
                  rw [← hq] at z1 z2
                  rw [Nat.min_eq_right (by have := HBA.out; omega)] at z2
                  rw [← e1]
                  exact symM_calls (N - a) a (a + s) N (Nat.le_refl _) (by omega) hmN (Nat.le_refl _) hN q4 q3 z1 z2)
                clear e1
                go_wp2_with (go_at_call 105; refine HC.out.mono ?_; rintro e w4 ⟨rfl, D3, e1, e2, e3, e4⟩; have HE := Lib.hid (FIN.out D3 w4 e1 e2 e3 e4); clear e1 e2 e3 e4)
                go_roundw
                case rel => exact ⟨s * 2, D3, by (rw [show ((s * 2 : Nat) : Int) = (s : Int) * 2 by omega]), by omega, by omega, by rw [Nat.mul_comm]; exact HE⟩
                case measure => simp [intOf]; omega
              · have hmI : ¬ (a : Int) + s < N := by omega
                have HE : Hid (Wk kX N d d3 0 N ∧ BlkAll kX ltB d3 (2 * s) N ∧ AllP N d3 ∧ SW w0 B g N cap d3 wr) := Lib.hid (by
                  obtain ⟨q, hq, _, _, q2, q3, q4⟩ := HR.out
                  have z1 := rest_lo' q2 (by rw [← hq]; omega)
                  rw [← hq] at z1
                  exact FIN.out d3 wr (Wk.refl _ _ _) z1 q3 q4)
                clear e1
                go_wp2_with fail
                go_roundw
                case rel => exact ⟨s * 2, d3, by (rw [show ((s * 2 : Nat) : Int) = (s : Int) * 2 by omega]), by omega, by omega, by rw [Nat.mul_comm]; exact HE⟩
                case measure => simp [intOf]; omega
        · have hsI : ¬ (s : Int) < N := by omega
          go_wp2_with fail
          go_end0
          obtain ⟨q1, q2, q3, q4⟩ := HQ.out
          exact ⟨rfl, d2, q1, blkAll_end q2 (by omega), q3, q4⟩
set_option maxRecDepth 100000 in
set_option maxHeartbeats 4000000 in
theorem sortS_calls {w0 W : World} {B g N cap : Nat} {d : Nat → OX} (h : SW w0 B g N cap d W) (hP : AllP N d) (hN : N ≤ 1000000) :
    Calls Try.prog 57 #[.slice (some ⟨g, 0, none⟩) N cap, .func (.func 58) #[] #[]] W (Done w0 B g N cap d 0 N) := by
  have HC := Lib.hid (stable_calls h hP hN)
  clear h hP
  go_enter Try.func57, Try.ntmps57
  go_wp2_with (go_at_call 80; refine HC.out.mono ?_; rintro e w4 ⟨rfl, hd⟩; have HD := Lib.hid hd; clear hd)
  go_end0
  exact ⟨rfl, HD.out⟩
end Go.Proofs.Ythhfcambdmdgfaa
namespace Go.Proofs.Ythhfcambdmdgfaa
open Go.RowKit Go.Maps Srt
set_option linter.unusedVariables false
set_option linter.unusedSimpArgs false
set_option maxRecDepth 100000 in
set_option maxHeartbeats 4000000 in
theorem insS_nil (W : World) :
    Calls Try.prog 104 #[.slice none 0 0, .int .i64 0, .int .i64 0, .func (.func 58) #[] #[]] W fun e w' => e = .returned (.tuple #[]) ∧ Below W.heap.size W w' := by
  have HB := Lib.hid (Below.refl W.heap.size W)
  go_enter Try.func104, Try.ntmps104
  go_wp2_with fail
  go_loopw [8] (fun s wr => s = .int .i64 1 ∧ Hid (Below W.heap.size W wr)) (fun _ _ => 0)
  case atStart => exact ⟨rfl, HB⟩
  case round =>
    obtain ⟨rfl, HB⟩ := hrel
    go_wp2_with fail
    go_end0
    exact ⟨rfl, HB.out⟩
set_option maxRecDepth 100000 in
set_option maxHeartbeats 4000000 in
theorem stable_nil (W : World) :
    Calls Try.prog 80 #[.slice none 0 0, .int .i64 0, .func (.func 58) #[] #[]] W fun e w' => e = .returned (.tuple #[]) ∧ Below W.heap.size W w' := by
  have HB := Lib.hid (Below.refl W.heap.size W)
  go_enter Try.func80, Try.ntmps80
  go_wp2_with fail
  go_loopw [7, 8] (fun s t wr => s = .int .i64 0 ∧ t = .int .i64 20 ∧ Hid (Below W.heap.size W wr)) (fun _ _ _ => 0)
  case atStart => exact ⟨rfl, rfl, HB⟩
  case round =>
    clear HB
    obtain ⟨rfl, rfl, HB⟩ := hrel
    go_wp2_with (go_at_call 104; refine (insS_nil _).mono ?_; rintro e w2 ⟨rfl, hb⟩; have HB2 := Lib.hid (bl_next HB.out hb); clear hb)
    go_loopw [6] (fun s wr => s = .int .i64 20 ∧ Hid (Below W.heap.size W wr)) (fun _ _ => 0)
    case atStart => exact ⟨rfl, HB2⟩
    case round =>
      obtain ⟨rfl, HB3⟩ := hrel
      go_wp2_with fail
      go_end0
      exact ⟨rfl, HB3.out⟩
set_option maxRecDepth 100000 in
set_option maxHeartbeats 4000000 in
theorem sortS_nil (W : World) :
    Calls Try.prog 57 #[.slice none 0 0, .func (.func 58) #[] #[]] W fun e w' => e = .returned (.tuple #[]) ∧ Below W.heap.size W w' := by
  have HC := Lib.hid (stable_nil W)
  go_enter Try.func57, Try.ntmps57
  go_wp2_with (go_at_call 80; refine HC.out.mono ?_; rintro e w4 ⟨rfl, hd⟩; have HD := Lib.hid hd; clear hd)
  go_end0
  exact ⟨rfl, HD.out⟩
theorem field_objs (w : World) (v0 v1 v2 v3 v4 v5 v6 v7 v8 v9 : Value) (A : Option Addr) (n c : Nat) : (Instr.field 30 (.agg #[v0, v1, v2, v3, v4, v5, v6, v7, v8, v9, .slice A n c]) 3).run Try.prog w = .ok (.slice A n c) w := by kernel_rfl
def zeroO : ObjD := ⟨⟨⟨#[]⟩, ⟨#[]⟩, ⟨#[]⟩⟩, 0, ⟨#[]⟩, false, false, []⟩
theorem zeroO_S (w : World) : ObjS w (.slice none 0 0) zeroO := ⟨⟨sliS_nil w 2, by rintro p ⟨⟩⟩, by decide, by decide⟩
theorem zeroO_small : objSmall zeroO := ⟨⟨by decide, by decide, by decide⟩, by decide, by decide, by rintro p ⟨⟩⟩
def dOf (ys : List OX) : Nat → OX := fun i => ys.getD i (zeroO, .slice none 0 0)
theorem rowF_dOf (ys : List OX) : rowF (dOf ys) ys.length = ys := by
  apply List.ext_getElem?
  intro i
  by_cases hi : i < ys.length
  · rw [rowF_get _ _ hi]; unfold dOf; rw [List.getD_eq_getElem?_getD, List.getElem?_eq_getElem hi]; rfl
  · rw [List.getElem?_eq_none (by rw [rowF_len]; omega), List.getElem?_eq_none (by omega)]
theorem dOf_mem {ys : List OX} {i : Nat} (h : i < ys.length) : dOf ys i ∈ ys := by
  unfold dOf; rw [List.getD_eq_getElem?_getD, List.getElem?_eq_getElem h]; exact List.getElem_mem h
theorem oxs_srt {ys : List OX} (h : ys.Pairwise (fun x y => ltB (kX y) (kX x) = false)) : SrtL kTO (oxs ys) := by
  unfold SrtL oxs; rw [List.pairwise_map]; exact h
theorem oxs_stab {ys zs : List OX} (h : Stab kX ys zs) : Stab kTO (oxs ys) (oxs zs) := by
  intro c
  unfold oxs
  rw [List.filter_map, List.filter_map]
  exact congrArg (List.map (·.1)) (h c)
def SortO (w : World) (l : List ObjD) (e : Ending) (w' : World) : Prop := ∃ v zs, e = .returned v ∧ ObjsF w' w.heap.size v zs ∧ oxs zs = srtX kTO l ∧ Below w.heap.size w w'
theorem sort_step {w W : World} {v : Value} {ys : List OX} {xs : List OX} (hf : ObjsF W w.heap.size v ys) (hb : Below w.heap.size w W) (he : oxs ys = oxs xs) (hs : OSmall (oxs xs)) (hl : xs.length ≤ 1000000) :
    Calls Try.prog 57 #[v, .func (.func 58) #[] #[]] W fun e w' => e = .returned (.tuple #[]) ∧ ∃ zs, ObjsF w' w.heap.size v zs ∧ oxs zs = srtX kTO (oxs xs) ∧ Below w.heap.size w w' := by
  have hlen : ys.length = xs.length := by rw [← oxs_len ys, he, oxs_len]
  have hrow := hf.1
  rcases hf.1.2 with ⟨hv, h0⟩ | ⟨g, cap, cur, hv, hg, _⟩
  · subst hv
    have hy : ys = [] := List.eq_nil_of_length_eq_zero h0
    refine (sortS_nil W).mono fun e w' q => ⟨q.1, ys, hf.below q.2, ?_, hb.trans (q.2.mono hb.size)⟩
    rw [← he, hy]; rfl
  · subst hv
    have S0 : SW W w.heap.size g ys.length cap (dOf ys) W := ⟨by rw [rowF_dOf]; exact hf.1, Kept.refl _ _⟩
    have P0 : AllP ys.length (dOf ys) := fun i hi => by
      have hm := dOf_mem hi
      refine ⟨hs _ (by rw [← he]; exact List.mem_map.2 ⟨_, hm, rfl⟩), ?_⟩
      obtain ⟨g2, e2⟩ := (hf.2 _ hm).form
      exact ⟨_, _, _, e2⟩
    refine (sortS_calls S0 P0 (by omega)).mono fun e w' q => ?_
    obtain ⟨q0, d', q1, q2, q3, q4⟩ := q
    have hst := q1.stab
    rw [rowF_dOf] at hst
    have hX : ∀ k, k = g → w.heap.size ≤ k := fun k e => by rw [e]; exact hg
    refine ⟨q0, rowF d' ys.length, ⟨by rw [rowF_len]; exact q4.row, fun p hp => ?_⟩, ?_, hb.trans (q4.kept.below hb.size hX)⟩
    · exact (hf.2 p (hst.mem.2 hp)).kept q4.kept (fun k e c hc => row_apart hrow k (by rw [e]; rfl) c hc)
    · rw [← he]; exact srtX_of (oxs_srt (srt_row q2)) (oxs_stab hst)
set_option maxRecDepth 100000 in
set_option maxHeartbeats 4000000 in
theorem evsorted_calls (w : World) {ol : Value} {xs : List OX} (hx : ObjsS w ol xs) (hxs : OSmall (oxs xs)) (hl : xs.length ≤ 1000000) :
    Calls Try.prog 19 #[ol] w (SortO w (oxs xs)) := by
  have HC := Lib.hid (evown_calls w 0 (o := zeroO) 0 (zeroO_S w) zeroO_small hx hxs hl)
  have HS := Lib.hid (fun (W : World) (v : Value) (ys : List OX) (hf : ObjsF W w.heap.size v ys) (hb : Below w.heap.size w W) (he : oxs ys = oxs xs) => sort_step hf hb he hxs hl)
  obtain ⟨al, cl, rfl⟩ := hx.form
  clear hx hxs hl
  have HC' : Hid (Calls Try.prog 17 #[.agg #[.int .i64 0, .string ⟨#[]⟩, .string ⟨#[]⟩, .string ⟨#[]⟩, .int .i64 0, .string ⟨#[]⟩, .bool false, .bool false, .slice none 0 0, .int .i64 0, .slice al xs.length cl]] w (fun e w' => ∃ A c ga, e = .returned (.agg #[.int .i64 0, .string ⟨#[]⟩, .string ⟨#[]⟩, .string ⟨#[]⟩, .int .i64 0, .string ⟨#[]⟩, .bool false, .bool false, .slice ga 0 0, .int .i64 0, .slice A xs.length c]) ∧ Hid (∃ ys, ObjsF w' w.heap.size (.slice A xs.length c) ys ∧ oxs ys = oxs xs) ∧ Below w.heap.size w w')) := Lib.hid (HC.out.mono fun e w' q => by
    obtain ⟨x, ov, ys, q1, q2, q3, q4, q5⟩ := q
    obtain ⟨A, c, rfl⟩ := q3.form
    obtain ⟨gx, rfl⟩ := q2.form
    have hlen : ys.length = xs.length := by rw [← oxs_len ys, q4, oxs_len]
    rw [hlen] at q1 q3
    exact ⟨A, c, some ⟨gx, 0, none⟩, q1, Lib.hid ⟨ys, q3, q4⟩, q5⟩)
  clear HC
  have hfld := field_objs
  go_enter Try.func19, Try.ntmps19
  go_upto_region 2 with (go_at_call 17; refine HC'.out.mono ?_; rintro e w2 ⟨A, c, ga, rfl, HY, hb⟩; have HB := Lib.hid hb; clear hb)
  have HC2 : Hid (Calls Try.prog 57 #[.slice A xs.length c, .func (.func 58) #[] #[]] w2 fun e w' => e = .returned (.tuple #[]) ∧ Hid (∃ zs, ObjsF w' w.heap.size (.slice A xs.length c) zs ∧ oxs zs = srtX kTO (oxs xs) ∧ Below w.heap.size w w')) := Lib.hid (by
    obtain ⟨ys, q1, q2⟩ := HY.out
    exact (HS.out _ _ ys q1 HB.out q2).mono fun e w' q => ⟨q.1, Lib.hid q.2⟩)
  clear HY HB HC' HS hfld
  go_wp2_with (go_at_call 57; refine HC2.out.mono ?_; rintro e w3 ⟨rfl, HZ⟩)
  go_ret
  obtain ⟨zs, q1, q2, q3⟩ := HZ.out
  exact ⟨_, zs, rfl, q1, q2, q3⟩
end Go.Proofs.Ythhfcambdmdgfaa
namespace Go.Proofs.Ythhfcambdmdgfaa
open Go.RowKit Go.Maps
set_option linter.unusedVariables false
set_option linter.unusedSimpArgs false
theorem obj_cells {w : World} {ok : Nat → Prop} {o : ObjD} {cs : List Value} (h : kObj.K w ok o cs) : ∃ sl, cs = objX (o, sl) ∧ ObjS w sl o := by
  obtain ⟨sl, e, hs⟩ := obj_of h
  refine ⟨sl, ?_, hs⟩
  unfold objV at e
  have := Value.agg.inj e
  have h2 := congrArg Array.toList this
  simpa [objX] using h2
end Go.Proofs.Ythhfcambdmdgfaa
namespace Go.Proofs.Ythhfcambdmdgfaa
open Go.RowKit Go.Maps
set_option linter.unusedVariables false
set_option linter.unusedSimpArgs false
abbrev KS := {k : KeyD // keySmall k}
def keyV (k : KeyD) : Value := .agg #[.string k.kind, .string k.space, .string k.name]
theorem laidOutP : laidOutB Try.prog = true := by kernel_rfl
theorem kS_law : Go.WideMaps.KeyLaw Try.prog 24 := deep_law_laid laidOutP (m := 2) (by omega) (of_decide_eq_true (by kernel_rfl)) (by kernel_rfl) (by kernel_rfl)
theorem kS_keyed : Keyed Try.prog 24 := Keyed.of_law kS_law
theorem kS_struct : ∃ fs, Try.prog.underlying 24 = some (.struct fs) := ⟨_, Try.underlying24⟩
theorem kS_size : ∃ n, Try.prog.types.size = n + 1 := ⟨Try.prog.types.size - 1, by have : 0 < Try.prog.types.size := of_decide_eq_true (by kernel_rfl); omega⟩
theorem kS_formed (k : KeyD) : (keyV k).formed Try.prog 24 = true := by
  obtain ⟨fs, hu⟩ := kS_struct
  have hc : Try.prog.cellsOf 24 = 3 := by kernel_rfl
  simp [keyV, Value.formed, hu, hc]
theorem kS_some {k : KeyD} (h : keySmall k) : ∃ l, keyOf Try.prog 24 (keyV k) = some l := by
  have hk : Try.prog.keyType 24 = true := by kernel_rfl
  have hc : Try.prog.cellsOf 24 = 3 := by kernel_rfl
  have hs : Try.prog.cellsOf 9 = 1 := by kernel_rfl
  obtain ⟨n, hn⟩ := kS_size
  obtain ⟨h1, h2, h3⟩ := h
  have m1 : k.kind.size ≤ maxLen := by unfold maxLen; omega
  have m2 : k.space.size ≤ maxLen := by unfold maxLen; omega
  have m3 : k.name.size ≤ maxLen := by unfold maxLen; omega
  unfold keyOf
  rw [Try.underlying24]
  simp only [hk, kS_formed, Bool.and_self, if_true]
  rw [hn]
  simp [Program.keyLits, Try.underlying24, Try.underlying9, keyV, Value.cells, hc, hs, m1, m2, m3]
noncomputable def kL (k : KS) : Lit := Classical.choose (kS_some k.2)
theorem kL_key (k : KS) : keyOf Try.prog 24 (keyV k.1) = some (kL k) := Classical.choose_spec (kS_some k.2)
theorem keyV_inj {a b : KeyD} (h : keyV a = keyV b) : a = b := by
  unfold keyV at h
  have h1 := congrArg Array.toList (Value.agg.inj h)
  simp at h1
  exact keyD_ext h1.1 h1.2.1 h1.2.2
noncomputable def ltKS (a b : KS) : Bool := (kL a).before (kL b)
theorem kL_lit : KeyLit kL ltKS where
  same := fun a b => by
    by_cases h : a = b
    · subst h; rw [decide_eq_true rfl]; exact Go.WideAt.sameKey_self (kS_keyed.key (kL_key a))
    · rw [decide_eq_false h]
      cases q : (kL a).sameKey (kL b) with
      | false => rfl
      | true =>
        have e := Go.WideAt.sameKey_eq q
        have h1 := kL_key a
        rw [e] at h1
        exact absurd (Subtype.ext (keyV_inj (kS_keyed.inj h1 (kL_key b)))) h
  before := fun a b => rfl
/-- A map of objects. -/
def OMap (w : World) (mb : Nat) (M : AM KS OX) : Prop := w.ownsMap Try.prog 24 RV mb M.length (dmA kL (fun p => Value.agg (objX p).toArray) M)
theorem zero_obj (w : World) : (zeroValue 27).run Try.prog w = .ok (.agg #[.string ⟨#[]⟩, .string ⟨#[]⟩, .string ⟨#[]⟩, .int .i64 0, .string ⟨#[]⟩, .bool false, .bool false, .slice none 0 0]) w := by kernel_rfl
section
variable {w w' : World} {mb : Nat} {M : AM KS OX}
theorem OMap.kept {X : Nat → Prop} (h : OMap w mb M) (hk : Kept X w w') (hx : ¬ X mb) : OMap w' mb M := mv_kept h hk hx
theorem OMap.below (h : OMap w mb M) (hb : Below w.heap.size w w') : OMap w' mb M := mv_below h hb
theorem omap_look (h : OMap w mb M) (k : KS) :
    (Instr.lookup 92 (.map (some mb)) (.agg #[.string k.1.kind, .string k.1.space, .string k.1.name]) true).run Try.prog w = .ok (.tuple #[((getA M k).map fun p => Value.agg (objX p).toArray).getD (.agg #[.string ⟨#[]⟩, .string ⟨#[]⟩, .string ⟨#[]⟩, .int .i64 0, .string ⟨#[]⟩, .bool false, .bool false, .slice none 0 0]), .bool (hasA M k)]) w := by
  have q := mv_look_ok h kS_keyed Try.underlying92 (zero_obj w) (kL_key k)
  rw [val_dmA kL_lit, has_dmA kL_lit] at q
  exact q
theorem omap_put {k : KS} {p : OX} (h : w.ownsMap Try.prog 24 RV mb (M.length + 1) ((dmA kL (fun p => Value.agg (objX p).toArray) M).put (kL k) (.held (.agg (objX p).toArray)))) : OMap w mb (putA ltKS M k p) := by
  rw [put_dmA kL_lit] at h
  have := mv_tight h
  rw [size_dmA kL_lit] at this
  exact this
theorem omap_len (h : OMap w mb M) (ty : TypeId) : (Builtin.len_ #[92] ty #[.map (some mb)]).run Try.prog w = .ok (.int .i64 M.length) w := by
  have := World.ownsMap.len h Try.underlying92 ty
  rw [size_dmA kL_lit] at this
  exact this
end
end Go.Proofs.Ythhfcambdmdgfaa
namespace Go.Proofs.Ythhfcambdmdgfaa
open Go.RowKit Go.Maps
set_option linter.unusedVariables false
set_option linter.unusedSimpArgs false
def aO7 : ObjD := ⟨⟨⟨#[112, 111, 100]⟩, ⟨#[97]⟩, ⟨#[120]⟩⟩, 3, ⟨#[]⟩, false, false, []⟩
def bO7 : ObjD := ⟨⟨⟨#[112, 111, 100]⟩, ⟨#[97]⟩, ⟨#[98]⟩⟩, 4, ⟨#[]⟩, false, false, []⟩
theorem s7 : sameE ⟨2, zeroO, 4, [aO7, bO7]⟩ ⟨2, zeroO, 4, [bO7, aO7]⟩ = false := by kernel_rfl
end Go.Proofs.Ythhfcambdmdgfaa
namespace Go.Proofs.Ythhfcambdmdgfaa
open Go.RowKit Go.Maps
set_option linter.unusedVariables false
set_option linter.unusedSimpArgs false
abbrev LX := Int × OX
def lgX (e : LX) : List Value := [.int .i64 e.1] ++ objX e.2 ++ [.int .i64 0, .slice none 0 0]
def lgC (L : List LX) : List Value := L.flatMap lgX
theorem lgC_app (L : List LX) (e : LX) : lgC (L ++ [e]) = lgC L ++ lgX e := by simp [lgC]
structure StoreAt (w : World) (base sp mb : Nat) (ver : Int) (M : AM KS OX) (lv : Value) (L : List LX) : Prop where
  cell : w.heap[sp]? = some (.cells #[.map (some mb), .int .i64 ver, lv] 94)
  map : OMap w mb M
  row : w.ownsRow base 30 11 lv L.length (lgC L)
  resM : ∀ q ∈ M, ResF w base q.2.2 q.2.1.charge ∧ oIn q.2.1 ∧ keySmall q.2.1.key ∧ q.1.1 = q.2.1.key
  resL : ∀ e ∈ L, ResF w base e.2.2 e.2.1.charge ∧ oIn e.2.1
  ge : base ≤ sp ∧ base ≤ mb
section
variable {w w' : World} {base sp mb : Nat} {ver : Int} {M : AM KS OX} {lv : Value} {L : List LX}
theorem StoreAt.below (h : StoreAt w base sp mb ver M lv L) (hb : Below w.heap.size w w') : StoreAt w' base sp mb ver M lv L :=
  ⟨blk_below h.cell hb, h.map.below hb, rw_below h.row hb, fun q hq => ⟨(h.resM q hq).1.below hb, (h.resM q hq).2⟩, fun e he => ⟨(h.resL e he).1.below hb, (h.resL e he).2⟩, h.ge⟩
theorem StoreAt.ptr (h : StoreAt w base sp mb ver M lv L) : sp < w.heap.size := blk_lt h.cell
end
set_option maxRecDepth 100000 in
set_option maxHeartbeats 4000000 in
theorem snew_calls (w : World) : Calls Try.prog 28 #[] w fun e w' => ∃ sp mb, e = .returned (.pointer (some ⟨sp, 0, none⟩)) ∧ StoreAt w' w.heap.size sp mb 0 [] (.slice none 0 0) [] ∧ Below w.heap.size w w' := by
  have hmm := @run_makeMap Try.prog
  have HO := Lib.hid (World.ownsMap_made w Try.prog 24 RV)
  go_enter Try.func28, Try.ntmps28
  go_wp2_with fail
  go_ret
  refine ⟨w.heap.size + 1, w.heap.size, rfl, ⟨?_, ?_, ⟨rfl, .inl ⟨rfl, rfl⟩⟩, by rintro q ⟨⟩, by rintro q ⟨⟩, by omega, Nat.le_refl _⟩, ((Below.refl _ _).alloc (Nat.le_refl _) _).alloc (by simp) _⟩
  · exact blk_new1 w _ _
  · exact OMap.below (M := []) (mv_tight HO.out) ((Below.refl _ _).alloc (Nat.le_refl _) _)
set_option maxRecDepth 100000 in
set_option maxHeartbeats 4000000 in
theorem sversion_calls (w : World) {base sp mb : Nat} {ver : Int} {M : AM KS OX} {lv : Value} {L : List LX} (h : StoreAt w base sp mb ver M lv L) :
    Calls Try.prog 36 #[.pointer (some ⟨sp, 0, none⟩)] w fun e w' => e = .returned (.int .i64 ver) ∧ Below w.heap.size w w' := by
  have c1 : w.cell? ⟨sp, 1, none⟩ = some (.int .i64 ver) := blk_cell h.cell 1
  clear h
  have hB := Below.refl w.heap.size w
  go_enter Try.func36, Try.ntmps36
  go_wp2_with fail
  go_ret
  exact ⟨rfl, hB⟩
end Go.Proofs.Ythhfcambdmdgfaa
namespace Go.Proofs.Ythhfcambdmdgfaa
open Go.RowKit Go.Maps
set_option linter.unusedVariables false
set_option linter.unusedSimpArgs false
theorem getA_mem {κ β : Type} [DecidableEq κ] {M : AM κ β} {k : κ} {v : β} (h : getA M k = some v) : (k, v) ∈ M := by
  unfold getA at h
  cases q : M.find? (fun p => decide (p.1 = k)) with
  | none => rw [q] at h; cases h
  | some p =>
    rw [q] at h
    have h1 := List.find?_some q
    have h2 := List.mem_of_find?_eq_some q
    obtain ⟨a, b⟩ := p
    simp only [decide_eq_true_eq] at h1
    cases h
    rw [← h1]; exact h2
def objOf (M : AM KS OX) (k : KS) : ObjD := ((getA M k).map (·.1)).getD zeroO
end Go.Proofs.Ythhfcambdmdgfaa
namespace Go.Proofs.Ythhfcambdmdgfaa
open Go.RowKit Go.Maps
set_option linter.unusedVariables false
set_option linter.unusedSimpArgs false
/-- A map's update, by itself. -/
theorem wp_mapUpd {P : Program} {o : Oper} {a : Act} {K : Act → World → Prop} {Q : Exit → Act → World → Prop} (w : World) (m x v : Operand) (t : TypeId) (hop : o.op = Op.mapUpdate t m x v)
    (k e : TypeId) (Kk : Keyed P k) (ht : P.underlying t = some (.map k e)) (b n : Nat) (D : DataW Value) (hm : a.eval m = .map (some b)) (hown : w.ownsMap P k RV b n D) (hn : n < maxLen) (key val : Value) (kl : Lit) (hx : a.eval x = key) (hv : a.eval v = val) (hkey : keyOf P k key = some kl)
    (hK : ∀ w', w'.ownsMap P k RV b (n + 1) (D.put kl (.held val)) → w.grownBy w' (some b) → K (a.put o.dst undef) w') : o.wp P a w K Q := by
  obtain ⟨w', hrun, r1, r2⟩ := hown.update Kk ht hn hkey (d := .held val) (ps := []) rfl
  unfold Oper.wp
  simp [execOp, hop, hm, hx, hv, hrun, Result.andThen]
  exact hK w' r1 r2
/-- A map's delete, by itself. -/
theorem wp_mapDel {P : Program} {o : Oper} {a : Act} {K : Act → World → Prop} {Q : Exit → Act → World → Prop} (w : World) (m x : Operand) (t k : TypeId) (hop : o.op = Op.call { callee := Callee.builtin Builtin.delete, args := #[m, x], argTypes := #[t, k] })
    (e : TypeId) (Kk : Keyed P k) (ht : P.underlying t = some (.map k e)) (b n : Nat) (D : DataW Value) (hm : a.eval m = .map (some b)) (hown : w.ownsMap P k RV b n D) (key : Value) (kl : Lit) (hx : a.eval x = key) (hkey : keyOf P k key = some kl)
    (hK : ∀ w', w'.ownsMap P k RV b n (D.del kl) → w.mapTurned w' b → K (a.put o.dst (.tuple #[])) w') : o.wp P a w K Q := by
  obtain ⟨w', hrun, r1, r2⟩ := hown.drop Kk ht hkey o.type
  unfold Oper.wp
  simp [execOp, hop, resolve, invoke, builtin, hm, hx, hrun, Result.andThen]
  exact hK w' r1 r2
end Go.Proofs.Ythhfcambdmdgfaa
namespace Go.Proofs.Ythhfcambdmdgfaa
open Go.RowKit Go.Maps
set_option linter.unusedVariables false
set_option linter.unusedSimpArgs false
theorem info_ev : (Try.prog.info? 30).map (fun i => (i.zero, i.size, i.bytes)) = some (some (.agg #[.int .i64 0, .string ⟨#[]⟩, .string ⟨#[]⟩, .string ⟨#[]⟩, .int .i64 0, .string ⟨#[]⟩, .bool false, .bool false, .slice none 0 0, .int .i64 0, .slice none 0 0]), 11, 144) := by kernel_rfl
theorem app_ev_at {o : Oper} {a : Act} {K : Act → World → Prop} {Q : Exit → Act → World → Prop} {w : World} (s x : Operand)
    (ho : o.op = .call { callee := .builtin .append, args := #[s, x], argTypes := #[48, 48] })
    (base : Nat) {tb : TypeId} (v : Value) (n : Nat) (l : List LX) (kd : Int) (u : ObjD) (g n1 c1 : Nat) (hs : a.eval s = v) (hown : w.ownsRow base 30 11 v n (lgC l)) (g0 c : Nat) (hx : a.eval x = .slice (some ⟨g0, 0, none⟩) 1 c)
    (hcells : w.heap[g0]? = some (.cells #[.int .i64 kd, .string u.key.kind, .string u.key.space, .string u.key.name, .int .i64 u.ver, .string u.cls, .bool u.term, .bool u.best, .slice (some ⟨g, 0, none⟩) n1 c1, .int .i64 0, .slice none 0 0] tb)) (hbase : base ≤ w.heap.size) (hlen : n + 1 ≤ 100000000)
    (h : ∀ g2 cap w1, w1.ownsRow base 30 11 (.slice (some ⟨g2, 0, none⟩) (n + 1) cap) (n + 1) (lgC (l ++ [(kd, (u, .slice (some ⟨g, 0, none⟩) n1 c1))])) → Kept (fun k => v.ownBlock = some k) w w1 → K (a.put o.dst (.slice (some ⟨g2, 0, none⟩) (n + 1) cap)) w1) : o.wp Try.prog a w K Q := by
  obtain ⟨i0, hi, hz0, hz1, hz2⟩ := info_parts info_ev
  refine app_rw_at s x _ ho base _ i0 _ 11 144 Try.underlying48 hi hz0 hz1 hz2 rfl (by decide) v n (lgC l) [.int .i64 kd, .string u.key.kind, .string u.key.space, .string u.key.name, .int .i64 u.ver, .string u.cls, .bool u.term, .bool u.best, .slice (some ⟨g, 0, none⟩) n1 c1, .int .i64 0, .slice none 0 0] hs hown g0 c hx hcells rfl (by simp [Value.oneCell']) hbase hlen (by decide) ?_
  intro g2 cap w1 h1 h2 h3
  refine h g2 cap w1 ?_ h2
  rw [lgC_app]
  exact h1
section
variable {w w1 w' : World} {base sp mb : Nat} {ver : Int} {M : AM KS OX} {lv : Value} {L : List LX}
theorem StoreAt.kept {X : Nat → Prop} (h : StoreAt w base sp mb ver M lv L) (hk : Kept X w w') (h1 : ¬ X sp) (h2 : ¬ X mb) (h3 : ∀ k, lv.ownBlock = some k → ¬ X k) (h4 : ∀ k, X k → ∀ c, w.heap[k]? = some (.cells c 112) → False) : StoreAt w' base sp mb ver M lv L :=
  ⟨hk.heap h.cell h1, h.map.kept hk h2, rw_kept h.row hk h3, fun q hq => ⟨(h.resM q hq).1.kept hk h4, (h.resM q hq).2⟩, fun e he => ⟨(h.resL e he).1.kept hk h4, (h.resL e he).2⟩, h.ge⟩
theorem StoreAt.ne_map (h : StoreAt w base sp mb ver M lv L) : sp ≠ mb := mv_other h.map h.cell
theorem StoreAt.ne_log (h : StoreAt w base sp mb ver M lv L) : lv.ownBlock ≠ some sp := rw_other h.row h.cell (by decide)
theorem StoreAt.ne_log_map (h : StoreAt w base sp mb ver M lv L) : lv.ownBlock ≠ some mb := fun e => by
  obtain ⟨_, cs, hc⟩ := rw_type h.row e
  exact mv_other h.map hc rfl
/-- The version, or whatever else, is laid into the store's own cells. -/
theorem StoreAt.laid {ver' : Int} (h : StoreAt w base sp mb ver M lv L) (hk : Kept (fun k => k = sp) w w') (hc : w'.heap[sp]? = some (.cells #[.map (some mb), .int .i64 ver', lv] 94)) : StoreAt w' base sp mb ver' M lv L :=
  have h4 : ∀ k, k = sp → ∀ c, w.heap[k]? = some (.cells c 112) → False := fun k e c hc' => by subst e; rw [h.cell] at hc'; cases hc'
  ⟨hc, h.map.kept hk (fun e => h.ne_map e.symm), rw_kept h.row hk (fun k e q => by subst q; exact h.ne_log e), fun q hq => ⟨(h.resM q hq).1.kept hk h4, (h.resM q hq).2⟩, fun e he => ⟨(h.resL e he).1.kept hk h4, (h.resL e he).2⟩, h.ge⟩
theorem StoreAt.pushed {lv' : Value} {e : LX} (h : StoreAt w base sp mb ver M lv L) (hk : Kept (fun k => lv.ownBlock = some k) w w1) (hr : w1.ownsRow base 30 11 lv' (L.length + 1) (lgC (L ++ [e]))) (he : ResF w base e.2.2 e.2.1.charge) (hi : oIn e.2.1) :
    StoreAt (w1.setCell ⟨sp, 2, none⟩ lv') base sp mb ver M lv' (L ++ [e]) ∧ Kept (fun k => k = sp ∨ lv.ownBlock = some k) w (w1.setCell ⟨sp, 2, none⟩ lv') := by
  have hc1 := hk.heap h.cell h.ne_log
  have hc2 := heap_setCell_same w1 sp 2 _ _ lv' hc1
  have hk2 : Kept (fun k => k = sp) w1 (w1.setCell ⟨sp, 2, none⟩ lv') := (Kept.refl _ _).setCell _ _ (.inl rfl)
  have hkk : Kept (fun k => k = sp ∨ lv.ownBlock = some k) w (w1.setCell ⟨sp, 2, none⟩ lv') := (hk.wider (fun _ q => .inr q)).setCell _ _ (.inl (.inl rfl))
  have h4 : ∀ k, (k = sp ∨ lv.ownBlock = some k) → ∀ c, w.heap[k]? = some (.cells c 112) → False := fun k q c hc' => by
    rcases q with rfl | q
    · rw [h.cell] at hc'; cases hc'
    · exact rw_other h.row hc' (by decide) q
  refine ⟨⟨by simpa using hc2, h.map.kept hkk ?_, ?_, fun q hq => ⟨(h.resM q hq).1.kept hkk h4, (h.resM q hq).2⟩, fun q hq => ?_, h.ge⟩, hkk⟩
  · rintro (q | q)
    · exact h.ne_map q.symm
    · exact h.ne_log_map q
  · rw [List.length_append, List.length_singleton]
    exact rw_kept hr hk2 (fun k e q => by subst q; exact rw_other hr hc1 (by decide) e)
  · rcases List.mem_append.1 hq with r | r
    · exact ⟨(h.resL q r).1.kept hkk h4, (h.resL q r).2⟩
    · obtain rfl := List.mem_singleton.1 r; exact ⟨he.kept hkk h4, hi⟩
theorem StoreAt.put {k : KS} {p : OX} (h : StoreAt w base sp mb ver M lv L) (hg : w.grownBy w1 (some mb)) (hm : OMap w1 mb (putA ltKS M k p)) (he : ResF w base p.2 p.1.charge) (hi : oIn p.1) (hk : k.1 = p.1.key) :
    StoreAt w1 base sp mb ver (putA ltKS M k p) lv L ∧ Kept (fun q => q = mb) w w1 := by
  have hkk : Kept (fun q => q = mb) w w1 := (Kept.refl _ w).grown hg (fun q e => .inl (by cases e; rfl))
  have h4 : ∀ q, q = mb → ∀ c, w.heap[q]? = some (.cells c 112) → False := fun q e c hc' => mv_other h.map hc' e
  refine ⟨⟨hkk.heap h.cell h.ne_map, hm, rw_kept h.row hkk (fun q e r => by subst r; exact h.ne_log_map e), fun q hq => ?_, fun e he => ⟨(h.resL e he).1.kept hkk h4, (h.resL e he).2⟩, h.ge⟩, hkk⟩
  rcases mem_put.1 hq with rfl | ⟨r, _⟩
  · exact ⟨he.kept hkk h4, hi, hk ▸ k.2, hk⟩
  · exact ⟨(h.resM q r).1.kept hkk h4, (h.resM q r).2⟩
end
/-- What is written, and what is left as it was. -/
def Wrote (w : World) (base sp mb : Nat) (ver : Int) (M : AM KS OX) (lv : Value) (L : List LX) (kd : Int) (k : KS) (o : ObjD) (e : Ending) (w' : World) : Prop :=
  ∃ lv' x y, e = .returned (.int .i64 (ver + 1)) ∧ StoreAt w' base sp mb (ver + 1) (if kd = 0 then putA ltKS M k ({ o with ver := ver + 1 }, y) else M) lv' (L ++ [(kd, ({ o with ver := ver + 1 }, x))]) ∧ Kept (fun b => b = sp ∨ b = mb ∨ lv.ownBlock = some b) w w'
set_option maxRecDepth 100000 in
set_option maxHeartbeats 8000000 in
theorem written_calls (w : World) {base sp mb : Nat} {ver : Int} {M : AM KS OX} {lv : Value} {L : List LX} (h : StoreAt w base sp mb ver M lv L) (kd : Int) {o : ObjD} {k : KS} {sl : Value} (hk : k.1 = o.key)
    (hO : ∀ U, Kept (fun b => b = sp ∨ b = mb ∨ lv.ownBlock = some b) w U → ObjS U sl o) (hs : objSmall o) (hv : 0 ≤ ver ∧ ver ≤ 1000000000) (hM : M.length ≤ 1000000) (hL : L.length ≤ 1000000) :
    Calls Try.prog 69 #[.pointer (some ⟨sp, 0, none⟩), .int .i64 kd, objV o sl] w (Wrote w base sp mb ver M lv L kd k o) := by
  have hsp := h.ptr
  obtain ⟨al, cl, rfl⟩ := rw_form h.row
  have HST0 := Lib.hid h
  obtain ⟨ao, co, rfl⟩ := (hO w (Kept.refl _ _)).1.form
  have m1 : w.cell? ⟨sp, 1, none⟩ = some (.int .i64 ver) := blk_cell h.cell 1
  have mf1 : w.frozen? ⟨sp, 1, none⟩ = false := blk_free h.cell 1
  have hw1 : IntKind.i64.wrap (ver + 1) = ver + 1 := IntWalk.i64_in _ (by omega)
  have HO1 := Lib.hid (fun U (hq : Kept (fun b => b = sp ∨ b = mb ∨ (Value.slice al L.length cl).ownBlock = some b) w U) => show ObjS U (.slice ao o.charge.length co) { o with ver := ver + 1 } from ⟨(hO U hq).1, (show in64 (ver + 1) by unfold in64; omega)⟩)
  have HS := Lib.hid (show objSmall { o with ver := ver + 1 } from hs)
  have HV := Lib.hid hv; have HM := Lib.hid hM; have HL := Lib.hid hL; have HK := Lib.hid hk
  have HRES := Lib.hid (show oIn { o with ver := ver + 1 } from (HO1.out w (Kept.refl _ _)).oIn)
  clear h hO hs hv hM hL hk
  unfold objV
  go_enter Try.func69, Try.ntmps69
  go_upto_region 3 with fail
  first | with_reducible refine name_wp ?_ | with_reducible refine name_calls ?_
  intro V hV
  have d0 : V.cell? ⟨w.heap.size, 0, none⟩ = some (.string o.key.kind) := by rw [hV]; go_simp
  have d1 : V.cell? ⟨w.heap.size, 1, none⟩ = some (.string o.key.space) := by rw [hV]; go_simp
  have d2 : V.cell? ⟨w.heap.size, 2, none⟩ = some (.string o.key.name) := by rw [hV]; go_simp
  have d3 : V.cell? ⟨w.heap.size, 3, none⟩ = some (.int .i64 (ver + 1)) := by rw [hV]; go_simp
  have d4 : V.cell? ⟨w.heap.size, 4, none⟩ = some (.string o.cls) := by rw [hV]; go_simp
  have d5 : V.cell? ⟨w.heap.size, 5, none⟩ = some (.bool o.term) := by rw [hV]; go_simp
  have d6 : V.cell? ⟨w.heap.size, 6, none⟩ = some (.bool o.best) := by rw [hV]; go_simp
  have d7 : V.cell? ⟨w.heap.size, 7, none⟩ = some (.slice ao o.charge.length co) := by rw [hV]; go_simp
  have HKV : Hid (Kept (fun b => b = sp) w V) := Lib.hid (by
    rw [hV]
    exact ((Kept.refl (fun b => b = sp) w).setCell ⟨sp, 1, none⟩ _ (.inl rfl)).alloc _)
  have HB0 := Lib.hid (show ∃ c, V.heap[w.heap.size]? = some (.cells c 27) by
    rw [hV]
    exact ⟨_, blk_newAt _ _ (by simp)⟩)
  have HSV := Lib.hid (show StoreAt V base sp mb (ver + 1) M (.slice al L.length cl) L from HST0.out.laid HKV.out (by
    rw [hV]
    refine blk_old ?_ _
    have q := heap_setCell_same w sp 1 _ _ (.int .i64 (ver + 1)) HST0.out.cell
    simpa using q))
  clear hV m1 mf1 hw1
  have s0 : V.cell? ⟨sp, 0, none⟩ = some (.map (some mb)) := blk_cell HSV.out.cell 0
  have s2 : V.cell? ⟨sp, 2, none⟩ = some (.slice al L.length cl) := blk_cell HSV.out.cell 2
  have HOV := Lib.hid (HO1.out V (HKV.out.wider (fun _ e => .inl e)))
  have HC := Lib.hid (fun (U : World) (hb : Below V.heap.size V U) => ownO_calls U (HOV.out.below hb) HS.out)
  unfold objV at HC
  simp only at HC
  have HGE := Lib.hid (show base ≤ V.heap.size by have := HST0.out.ge.1; have := HKV.out.size; omega)
  have hB := Below.refl V.heap.size V
  have hB := hB.drew
  refine region_seqM (fun w' => Below V.heap.size V w') 10 [(0, 2), (1, 1), (2, 1), (3, 1), (4, 1), (5, 1), (6, 1), (7, 0), (8, 1), (9, 0), (10, 0), (11, 2), (12, 2), (13, 3)] (by kernel_rfl) (by kernel_rfl) (fun _ _ _ _ h => h) hB ?_
  try generalize World.drew _ = wS at hB ⊢
  refine sm_free (v := ?_) (a' := ?_) (some 19) rfl rfl (by rfl) ?_ ?_ ?_
  rotate_left; rotate_left
  · intro w'; go_simp; with_reducible rfl
  · simp only [Act.put, List.setIfInBounds_toArray, List.set_cons_zero, List.set_cons_succ]; rfl
  refine sm_take (v := ?_) (a' := ?_) (some 20) rfl rfl (by rfl) ?_ ?_ ?_
  rotate_left; rotate_left
  · intro w' hS; go_simp; with_reducible rfl
  · simp only [Act.put, List.setIfInBounds_toArray, List.set_cons_zero, List.set_cons_succ]; rfl
  refine sm_take (v := ?_) (a' := ?_) (some 21) rfl rfl (by rfl) ?_ ?_ ?_
  rotate_left; rotate_left
  · intro w' hS; go_simp; with_reducible rfl
  · simp only [Act.put, List.setIfInBounds_toArray, List.set_cons_zero, List.set_cons_succ]; rfl
  refine sm_take (v := ?_) (a' := ?_) (some 22) rfl rfl (by rfl) ?_ ?_ ?_
  rotate_left; rotate_left
  · intro w' hS; go_simp; with_reducible rfl
  · simp only [Act.put, List.setIfInBounds_toArray, List.set_cons_zero, List.set_cons_succ]; rfl
  refine sm_take (v := ?_) (a' := ?_) (some 23) rfl rfl (by rfl) ?_ ?_ ?_
  rotate_left; rotate_left
  · intro w' hS; have p0 := cb hS s0; have p2 := cb hS s2; have q0 := cb hS d0; have q1 := cb hS d1; have q2 := cb hS d2; have q3 := cb hS d3; have q4 := cb hS d4; have q5 := cb hS d5; have q6 := cb hS d6; have q7 := cb hS d7; go_simp; with_reducible rfl
  · simp only [Act.put, List.setIfInBounds_toArray, List.set_cons_zero, List.set_cons_succ]; rfl
  refine sm_take (v := ?_) (a' := ?_) (some 24) rfl rfl (by rfl) ?_ ?_ ?_
  rotate_left; rotate_left
  · intro w' hS; go_simp; with_reducible rfl
  · simp only [Act.put, List.setIfInBounds_toArray, List.set_cons_zero, List.set_cons_succ]; rfl
  refine sm_take (v := ?_) (a' := ?_) (some 25) rfl rfl (by rfl) ?_ ?_ ?_
  rotate_left; rotate_left
  · intro w' hS; have p0 := cb hS s0; have p2 := cb hS s2; have q0 := cb hS d0; have q1 := cb hS d1; have q2 := cb hS d2; have q3 := cb hS d3; have q4 := cb hS d4; have q5 := cb hS d5; have q6 := cb hS d6; have q7 := cb hS d7; go_simp; with_reducible rfl
  · simp only [Act.put, List.setIfInBounds_toArray, List.set_cons_zero, List.set_cons_succ]; rfl
  refine sm_call (args := ?_) Try.func56 (by kernel_rfl) rfl (some 26) rfl rfl (by rfl) rfl rfl ?_ ?_
  rotate_left
  · simp only [List.map_toArray, List.map_cons, List.map_nil]; go_simp; rfl
  with_reducible refine ((HC.out _ hB)).mono ?_
  rintro e w' ⟨g, rfl, HF, hb⟩
  have HF1 := Lib.hid (HF.out.mono (b' := base) (by have := HGE.out; have := hB.size; omega))
  refine ⟨_, rfl, .inr (bl_next (by repeat (first | with_reducible exact hB | refine Below.alloc ?_ (by have := hB.size; simp; omega) _ | refine bl_dN ?_ _ | refine Below.drew ?_ | refine Below.setCell ?_ (by have := hB.size; simp; omega) _)) hb), ?_⟩
  have hB := bl_next (by repeat (first | with_reducible exact hB | refine Below.alloc ?_ (by have := hB.size; simp; omega) _ | refine bl_dN ?_ _ | refine Below.drew ?_ | refine Below.setCell ?_ (by have := hB.size; simp; omega) _)) hb; clear hb
  simp only [Act.put, List.setIfInBounds_toArray, List.set_cons_zero, List.set_cons_succ]
  refine sm_take (v := ?_) (a' := ?_) (some 27) rfl rfl (by rfl) ?_ ?_ ?_
  rotate_left; rotate_left
  · intro w' hS; go_simp; with_reducible rfl
  · simp only [Act.put, List.setIfInBounds_toArray, List.set_cons_zero, List.set_cons_succ]; rfl
  refine sm_op (some 28) rfl rfl (by rfl) ?_
  apply Exists.intro; apply Exists.intro; apply And.intro
  · go_simp; first | exact ⟨rfl, rfl⟩ | rfl
  apply Exists.intro; apply And.intro
  · simp only [Act.put, List.setIfInBounds_toArray, List.set_cons_zero, List.set_cons_succ]; rfl
  apply And.intro
  · exact .inr (by repeat (first | with_reducible exact hB | refine Below.alloc ?_ (by have := hB.size; simp; omega) _ | refine bl_dN ?_ _ | refine Below.drew ?_ | refine Below.setCell ?_ (by have := hB.size; simp; omega) _))
  refine sm_law rfl (by rfl) ?_
  refine app_ev_at (.tmp 23) (.tmp 28) rfl base (.slice al L.length cl) L.length L kd { o with ver := ver + 1 } g _ _ rfl (World.ownsRow.alloc (rw_below HSV.out.row hB) _) _ 1 rfl (blk_new _ _) (by have := HGE.out; have := hB.size; simp; omega) (by have := HL.out; omega) ?_
  intro g3 cap3 w3 hown3 hk3; have HZ1 := Lib.hid (hk3.heap (blk_old (blk_below HSV.out.cell hB) _) HSV.out.ne_log); have HP := Lib.hid (StoreAt.pushed (hk := hk3) (h := by exact HSV.out.below (hB.alloc hB.size _)) (hr := hown3) (he := by exact HF1.out.below ((Below.refl _ _).alloc (Nat.le_refl _) _)) (hi := HRES.out)); have HKP := Lib.hid (((kept_of_below (X := fun k => k = sp ∨ (Value.slice al L.length cl).ownBlock = some k) (hB.alloc hB.size _)).trans HP.out.2 (fun _ q => .inl q)))
  refine ⟨.inl rfl, ?_⟩
  simp only [Act.put, List.setIfInBounds_toArray, List.set_cons_zero, List.set_cons_succ]
  refine sm_free (v := ?_) (a' := ?_) (some 30) rfl rfl (by rfl) ?_ ?_ ?_
  rotate_left; rotate_left
  · intro w'; go_simp; with_reducible rfl
  · simp only [Act.put, List.setIfInBounds_toArray, List.set_cons_zero, List.set_cons_succ]; rfl
  refine sm_free (v := ?_) (a' := ?_) (some 31) rfl rfl (by rfl) ?_ ?_ ?_
  rotate_left; rotate_left
  · intro w'; go_simp; with_reducible rfl
  · simp only [Act.put, List.setIfInBounds_toArray, List.set_cons_zero, List.set_cons_succ]; rfl
  refine sm_after none rfl rfl (by rfl) ?_
  apply Exists.intro; apply And.intro
  · have z2 := blk_cell HZ1.out 2; have z3 := blk_free HZ1.out 2; go_simp; first | exact ⟨rfl, rfl⟩ | rfl
  apply Exists.intro; apply And.intro
  · simp only [Act.put, List.setIfInBounds_toArray, List.set_cons_zero, List.set_cons_succ]; rfl
  refine sm_done ?_
  refine name_exit ?_
  intro U hU
  rw [← hU] at HP HKP
  have HSU := Lib.hid HP.out.1
  have HKU := Lib.hid HKP.out
  have HNB := Lib.hid (show ¬ (w.heap.size = sp ∨ (Value.slice al L.length cl).ownBlock = some w.heap.size) by
    rintro (q | q)
    · omega
    · obtain ⟨_, cs, hc⟩ := rw_type HST0.out.row q
      have := blk_lt hc; omega)
  have e0 := HKU.out.cell d0 HNB.out
  have e1 := HKU.out.cell d1 HNB.out
  have e2 := HKU.out.cell d2 HNB.out
  have e3 := HKU.out.cell d3 HNB.out
  have e4 := HKU.out.cell d4 HNB.out
  have e5 := HKU.out.cell d5 HNB.out
  have e6 := HKU.out.cell d6 HNB.out
  have e7 := HKU.out.cell d7 HNB.out
  have HKW := Lib.hid (show Kept (fun b => b = sp ∨ b = mb ∨ (Value.slice al L.length cl).ownBlock = some b) w U from
    (HKV.out.wider (fun _ e => .inl e)).trans HKU.out (fun n q => .inl (q.elim .inl (fun r => .inr (.inr r)))))
  have t0 : U.cell? ⟨sp, 0, none⟩ = some (.map (some mb)) := blk_cell HSU.out.cell 0
  have t1 : U.cell? ⟨sp, 1, none⟩ = some (.int .i64 (ver + 1)) := blk_cell HSU.out.cell 1
  have HOU := Lib.hid (HO1.out U HKW.out)
  clear hU HP HKP hown3 hk3 HZ1 hB HF HF1 HC HOV s0 s2 d0 d1 d2 d3 d4 d5 d6 d7 HO1
  have HC := Lib.hid (fun (X : World) (hb : Below U.heap.size U X) => ownO_calls X (HOU.out.below hb) HS.out)
  unfold objV at HC
  simp only at HC
  have HGU := Lib.hid (show base ≤ U.heap.size by have := HGE.out; have := HKU.out.size; omega)
  have HKEY := Lib.hid (show keyOf Try.prog 24 (.agg #[.string o.key.kind, .string o.key.space, .string o.key.name]) = some (kL k) by have q := kL_key k; rw [HK.out] at q; exact q)
  have hB := Below.refl U.heap.size U
  by_cases h0 : kd = 0
  · subst h0
    go_upto_region 5 with fail
    have hB := hB.drew
    refine region_seqM (fun w' => Below U.heap.size U w') 8 [(0, 1), (1, 1), (2, 1), (3, 1), (4, 1), (5, 1), (6, 1), (7, 0), (8, 0)] (by kernel_rfl) (by kernel_rfl) (fun _ _ _ _ h => h) hB ?_
    try generalize World.drew _ = wS at hB ⊢
    refine sm_take (v := ?_) (a' := ?_) (some 34) rfl rfl (by rfl) ?_ ?_ ?_
    rotate_left; rotate_left
    · intro w' hS; go_simp; with_reducible rfl
    · simp only [Act.put, List.setIfInBounds_toArray, List.set_cons_zero, List.set_cons_succ]; rfl
    refine sm_take (v := ?_) (a' := ?_) (some 35) rfl rfl (by rfl) ?_ ?_ ?_
    rotate_left; rotate_left
    · intro w' hS; go_simp; with_reducible rfl
    · simp only [Act.put, List.setIfInBounds_toArray, List.set_cons_zero, List.set_cons_succ]; rfl
    refine sm_take (v := ?_) (a' := ?_) (some 36) rfl rfl (by rfl) ?_ ?_ ?_
    rotate_left; rotate_left
    · intro w' hS; go_simp; with_reducible rfl
    · simp only [Act.put, List.setIfInBounds_toArray, List.set_cons_zero, List.set_cons_succ]; rfl
    refine sm_take (v := ?_) (a' := ?_) (some 37) rfl rfl (by rfl) ?_ ?_ ?_
    rotate_left; rotate_left
    · intro w' hS; have p0 := cb hS t0; have q0 := cb hS e0; have q1 := cb hS e1; have q2 := cb hS e2; have q3 := cb hS e3; have q4 := cb hS e4; have q5 := cb hS e5; have q6 := cb hS e6; have q7 := cb hS e7; go_simp; with_reducible rfl
    · simp only [Act.put, List.setIfInBounds_toArray, List.set_cons_zero, List.set_cons_succ]; rfl
    refine sm_take (v := ?_) (a' := ?_) (some 38) rfl rfl (by rfl) ?_ ?_ ?_
    rotate_left; rotate_left
    · intro w' hS; go_simp; with_reducible rfl
    · simp only [Act.put, List.setIfInBounds_toArray, List.set_cons_zero, List.set_cons_succ]; rfl
    refine sm_take (v := ?_) (a' := ?_) (some 39) rfl rfl (by rfl) ?_ ?_ ?_
    rotate_left; rotate_left
    · intro w' hS; have p0 := cb hS t0; have q0 := cb hS e0; have q1 := cb hS e1; have q2 := cb hS e2; have q3 := cb hS e3; have q4 := cb hS e4; have q5 := cb hS e5; have q6 := cb hS e6; have q7 := cb hS e7; go_simp; with_reducible rfl
    · simp only [Act.put, List.setIfInBounds_toArray, List.set_cons_zero, List.set_cons_succ]; rfl
    refine sm_take (v := ?_) (a' := ?_) (some 40) rfl rfl (by rfl) ?_ ?_ ?_
    rotate_left; rotate_left
    · intro w' hS; have p0 := cb hS t0; have q0 := cb hS e0; have q1 := cb hS e1; have q2 := cb hS e2; have q3 := cb hS e3; have q4 := cb hS e4; have q5 := cb hS e5; have q6 := cb hS e6; have q7 := cb hS e7; go_simp; with_reducible rfl
    · simp only [Act.put, List.setIfInBounds_toArray, List.set_cons_zero, List.set_cons_succ]; rfl
    refine sm_call (args := ?_) Try.func56 (by kernel_rfl) rfl (some 41) rfl rfl (by rfl) rfl rfl ?_ ?_
    rotate_left
    · simp only [List.map_toArray, List.map_cons, List.map_nil]; go_simp; rfl
    with_reducible refine ((HC.out _ hB)).mono ?_
    rintro e w' ⟨g2, rfl, HF, hb⟩
    have HF1 := Lib.hid (HF.out.mono (b' := base) (by have := HGU.out; have := hB.size; omega))
    refine ⟨_, rfl, .inr (bl_next (by repeat (first | with_reducible exact hB | refine Below.alloc ?_ (by have := hB.size; simp; omega) _ | refine bl_dN ?_ _ | refine Below.drew ?_ | refine Below.setCell ?_ (by have := hB.size; simp; omega) _)) hb), ?_⟩
    have hB := bl_next (by repeat (first | with_reducible exact hB | refine Below.alloc ?_ (by have := hB.size; simp; omega) _ | refine bl_dN ?_ _ | refine Below.drew ?_ | refine Below.setCell ?_ (by have := hB.size; simp; omega) _)) hb; clear hb
    simp only [Act.put, List.setIfInBounds_toArray, List.set_cons_zero, List.set_cons_succ]
    refine sm_law rfl (by rfl) ?_
    refine wp_mapUpd _ (.tmp 37) (.tmp 39) (.tmp 41) 92 rfl 24 27 kS_keyed Try.underlying92 mb M.length (dmA kL (fun p => Value.agg (objX p).toArray) M) rfl (HSU.out.map.below hB) (by have := HM.out; unfold maxLen; omega) (.agg #[.string o.key.kind, .string o.key.space, .string o.key.name]) (.agg #[.string o.key.kind, .string o.key.space, .string o.key.name, .int .i64 (ver + 1), .string o.cls, .bool o.term, .bool o.best, .slice (some ⟨g2, 0, none⟩) o.charge.length o.charge.length]) (kL k) rfl rfl HKEY.out ?_
    intro w4 hown4 hgrow4
    refine ⟨.inl rfl, ?_⟩
    simp only [Act.put, List.setIfInBounds_toArray, List.set_cons_zero, List.set_cons_succ]
    refine sm_done ?_
    have HPUT := Lib.hid (StoreAt.put (k := k) (p := ({ o with ver := ver + 1 }, .slice (some ⟨g2, 0, none⟩) o.charge.length o.charge.length)) (HSU.out.below hB) hgrow4 (omap_put hown4) HF1.out HRES.out HK.out)
    have HKF := Lib.hid (show Kept (fun b => b = sp ∨ b = mb ∨ (Value.slice al L.length cl).ownBlock = some b) w w4 from (HKW.out.trans (kept_of_below (X := fun _ => False) hB) (fun _ q => q.elim)).trans HPUT.out.2 (fun n q => .inl (.inr (.inl q))))
    have t2 : w4.cell? ⟨sp, 1, none⟩ = some (.int .i64 (ver + 1)) := blk_cell HPUT.out.1.cell 1
    clear hown4 hgrow4 hB t0 t1 e0 e1 e2 e3 e4 e5 e6 e7
    go_wp2_with fail
    go_ret
    exact ⟨_, _, _, rfl, by rw [if_pos rfl]; exact HPUT.out.1, HKF.out⟩
  · have h1 : (kd == 0) = false := by simpa using h0
    have H0 := Lib.hid h0
    go_wp2_with fail
    go_ret
    exact ⟨_, _, undef, rfl, by rw [if_neg H0.out]; exact HSU.out, HKW.out⟩
end Go.Proofs.Ythhfcambdmdgfaa
namespace Go.Proofs.Ythhfcambdmdgfaa
open Go.RowKit Go.Maps
set_option linter.unusedVariables false
set_option linter.unusedSimpArgs false
theorem store_look {w : World} {base sp mb : Nat} {ver : Int} {M : AM KS OX} {lv : Value} {L : List LX} (h : StoreAt w base sp mb ver M lv L) (k : KS) {kk : KeyD} (hk : k.1 = kk) :
    ∃ (q : ObjD) (A : Option Addr) (n c : Nat), ∀ U, Below w.heap.size w U → (Instr.lookup 92 (.map (some mb)) (.agg #[.string kk.kind, .string kk.space, .string kk.name]) true).run Try.prog U = .ok (.tuple #[.agg #[.string q.key.kind, .string q.key.space, .string q.key.name, .int .i64 q.ver, .string q.cls, .bool q.term, .bool q.best, .slice A n c], .bool (hasA M k)]) U := by
  subst hk
  cases hg : getA M k with
  | none =>
    refine ⟨zeroO, none, 0, 0, fun U hb => ?_⟩
    have q := omap_look (h.map.below hb) k
    rw [hg] at q; exact q
  | some p =>
    obtain ⟨o, so⟩ := p
    obtain ⟨g, hso⟩ := (h.resM _ (getA_mem hg)).1.form
    simp only at hso
    subst hso
    refine ⟨o, some ⟨g, 0, none⟩, o.charge.length, o.charge.length, fun U hb => ?_⟩
    have q := omap_look (h.map.below hb) k
    rw [hg] at q; exact q
/-- What an act of the store yields: an error, or a version more. -/
def Act9 (w : World) (base sp mb : Nat) (ver : Int) (M1 : Value → AM KS OX) (lv : Value) (L : List LX) (kd : Int) (o : ObjD) (er : Int) (e : Ending) (w' : World) : Prop :=
  (er ≠ 0 ∧ e = .returned (.tuple #[.int .i64 0, .int .i64 er]) ∧ Below w.heap.size w w') ∨
  (er = 0 ∧ ∃ lv' x y, e = .returned (.tuple #[.int .i64 (ver + 1), .int .i64 0]) ∧ StoreAt w' base sp mb (ver + 1) (M1 y) lv' (L ++ [(kd, ({ o with ver := ver + 1 }, x))]) ∧ Kept (fun b => b = sp ∨ b = mb ∨ lv.ownBlock = some b) w w')
def putErr (M : AM KS OX) (k : KS) (o : ObjD) : Int := if rightO { o with ver := 1 } then if hasA M k || decide (M.length < 1000) then 0 else 3 else 1
set_option maxRecDepth 100000 in
set_option maxHeartbeats 8000000 in
theorem sput_calls (w : World) {base sp mb : Nat} {ver : Int} {M : AM KS OX} {lv : Value} {L : List LX} (h : StoreAt w base sp mb ver M lv L) {o : ObjD} {k : KS} {sl : Value} (hk : k.1 = o.key)
    (hO : ∀ U, Kept (fun b => b = sp ∨ b = mb ∨ lv.ownBlock = some b) w U → ObjS U sl o) (hs : objSmall o) (hv : 0 ≤ ver ∧ ver ≤ 1000000000) (hM : M.length ≤ 1000000) (hL : L.length ≤ 1000000) :
    Calls Try.prog 39 #[.pointer (some ⟨sp, 0, none⟩), objV o sl] w (Act9 w base sp mb ver (fun y => putA ltKS M k ({ o with ver := ver + 1 }, y)) lv L 0 o (putErr M k o)) := by
  have hsp := h.ptr
  obtain ⟨al, cl, rfl⟩ := rw_form h.row
  have HST := Lib.hid h
  obtain ⟨ao, co, rfl⟩ := (hO w (Kept.refl _ _)).1.form
  have HO1 := Lib.hid (fun U (hq : Kept (fun b => b = sp ∨ b = mb ∨ (Value.slice al L.length cl).ownBlock = some b) w U) => show ObjS U (.slice ao o.charge.length co) { o with ver := 1 } from ⟨(hO U hq).1, (show in64 1 by unfold in64; omega)⟩)
  have HS := Lib.hid (show objSmall { o with ver := 1 } from hs)
  have HR := Lib.hid (fun (U : World) (hb : Below w.heap.size w U) => oright_calls U (HO1.out U (kept_of_below hb)) HS.out)
  have HWR := Lib.hid (fun (U : World) (hb : Below w.heap.size w U) => written_calls U (h.below hb) 0 (o := { o with ver := 1 }) (k := k) hk (fun X hX => HO1.out X ((kept_of_below (X := fun b => b = sp ∨ b = mb ∨ (Value.slice al L.length cl).ownBlock = some b) hb).trans hX (fun _ q => .inl q))) HS.out hv hM hL)
  unfold objV at HR HWR
  simp only at HR HWR
  obtain ⟨q, A, n, c, HLK⟩ := store_look h k hk
  have m0 : w.cell? ⟨sp, 0, none⟩ = some (.map (some mb)) := blk_cell h.cell 0
  have HLK2 := Lib.hid HLK
  have HPE := Lib.hid (show putErr M k o = if rightO { o with ver := 1 } then if hasA M k || decide (M.length < 1000) then 0 else 3 else 1 from rfl)
  generalize putErr M k o = pe at HPE ⊢
  clear h hO hs hv hM hL hk HLK
  unfold objV
  go_enter Try.func39, Try.ntmps39
  go_upto_region 2 with fail
  first | with_reducible refine name_wp ?_ | with_reducible refine name_calls ?_
  intro W hW
  have Hw := Lib.hid (show Below w.heap.size w W by rw [hW]; exact (Below.refl _ _).alloc (Nat.le_refl _) _)
  have c0_0 : W.cell? ⟨w.heap.size, 0, none⟩ = some (.string o.key.kind) := by rw [hW]; exact blk_cell (blk_new w _) 0
  have c0_1 : W.cell? ⟨w.heap.size, 1, none⟩ = some (.string o.key.space) := by rw [hW]; exact blk_cell (blk_new w _) 1
  have c0_2 : W.cell? ⟨w.heap.size, 2, none⟩ = some (.string o.key.name) := by rw [hW]; exact blk_cell (blk_new w _) 2
  have c0_3 : W.cell? ⟨w.heap.size, 3, none⟩ = some (.int .i64 1) := by rw [hW]; exact blk_cell (blk_new w _) 3
  have c0_4 : W.cell? ⟨w.heap.size, 4, none⟩ = some (.string o.cls) := by rw [hW]; exact blk_cell (blk_new w _) 4
  have c0_5 : W.cell? ⟨w.heap.size, 5, none⟩ = some (.bool o.term) := by rw [hW]; exact blk_cell (blk_new w _) 5
  have c0_6 : W.cell? ⟨w.heap.size, 6, none⟩ = some (.bool o.best) := by rw [hW]; exact blk_cell (blk_new w _) 6
  have c0_7 : W.cell? ⟨w.heap.size, 7, none⟩ = some (.slice ao o.charge.length co) := by rw [hW]; exact blk_cell (blk_new w _) 7
  clear hW
  cases hr : rightO { o with ver := 1 } with
  | false =>
    have HRR := Lib.hid hr
    have HE := Lib.hid (show pe = 1 by rw [HPE.out, hr]; rfl)
    clear hr
    go_wp2_with (go_at_call 68; refine (HR.out _ Hw.out).mono ?_; rintro e w1 ⟨rfl, hb⟩; rw [HRR.out]; have k0 := cb hb c0_0; have k1 := cb hb c0_1; have k2 := cb hb c0_2; have k3 := cb hb c0_3; have k4 := cb hb c0_4; have k5 := cb hb c0_5; have k6 := cb hb c0_6; have k7 := cb hb c0_7; have HB1 := Lib.hid hb; have n0 := cb (bl_from Hw.out hb) m0; clear hb)
    refine bodyPost_ret (v := .tuple #[.int .i64 0, .int .i64 1]) (by simp [results, Try.results39, go_sem]) rfl ?_
    exact .inl ⟨by rw [HE.out]; decide, by rw [HE.out], bl_from Hw.out HB1.out⟩
  | true =>
    have HRR := Lib.hid hr
    have HE := Lib.hid (show pe = if hasA M k || decide (M.length < 1000) then 0 else 3 by rw [HPE.out, hr]; rfl)
    clear hr
    go_upto_region 4 with (go_at_call 68; refine (HR.out _ Hw.out).mono ?_; rintro e w1 ⟨rfl, hb⟩; rw [HRR.out]; have k0 := cb hb c0_0; have k1 := cb hb c0_1; have k2 := cb hb c0_2; have k3 := cb hb c0_3; have k4 := cb hb c0_4; have k5 := cb hb c0_5; have k6 := cb hb c0_6; have k7 := cb hb c0_7; have HB1 := Lib.hid hb; have n0 := cb (bl_from Hw.out hb) m0; clear hb)
    have HBW := Lib.hid (bl_from Hw.out HB1.out)
    have hB := Below.refl w1.heap.size w1
    clear c0_0 c0_1 c0_2 c0_3 c0_4 c0_5 c0_6 c0_7
    have hB := hB.drew
    refine region_seq (fun w' => Below w1.heap.size w1 w') [(0, true), (1, true), (2, true), (3, true), (4, true), (5, true), (6, true), (7, true), (8, true), (9, true), (10, false), (11, false), (12, true)] (by kernel_rfl) (by kernel_rfl) (fun _ _ _ _ h => h) hB ?_
    try generalize World.drew _ = wS at hB ⊢
    refine seq_take (v := ?_) (a' := ?_) (some 17) rfl rfl (by rfl) ?_ ?_ ?_
    rotate_left; rotate_left
    · intro w' hS; go_simp; with_reducible rfl
    · simp only [Act.put, List.setIfInBounds_toArray, List.set_cons_zero, List.set_cons_succ]; rfl
    refine seq_take (v := ?_) (a' := ?_) (some 18) rfl rfl (by rfl) ?_ ?_ ?_
    rotate_left; rotate_left
    · intro w' hS; go_simp; with_reducible rfl
    · simp only [Act.put, List.setIfInBounds_toArray, List.set_cons_zero, List.set_cons_succ]; rfl
    refine seq_take (v := ?_) (a' := ?_) (some 19) rfl rfl (by rfl) ?_ ?_ ?_
    rotate_left; rotate_left
    · intro w' hS; go_simp; with_reducible rfl
    · simp only [Act.put, List.setIfInBounds_toArray, List.set_cons_zero, List.set_cons_succ]; rfl
    refine seq_take (v := ?_) (a' := ?_) (some 20) rfl rfl (by rfl) ?_ ?_ ?_
    rotate_left; rotate_left
    · intro w' hS; have z := cb hS n0; have q0 := cb hS k0; have q1 := cb hS k1; have q2 := cb hS k2; have q3 := cb hS k3; have q4 := cb hS k4; have q5 := cb hS k5; have q6 := cb hS k6; have q7 := cb hS k7; have hl := HLK2.out _ (bl_from HBW.out hS); go_simp; with_reducible rfl
    · simp only [Act.put, List.setIfInBounds_toArray, List.set_cons_zero, List.set_cons_succ]; rfl
    refine seq_take (v := ?_) (a' := ?_) (some 21) rfl rfl (by rfl) ?_ ?_ ?_
    rotate_left; rotate_left
    · intro w' hS; go_simp; with_reducible rfl
    · simp only [Act.put, List.setIfInBounds_toArray, List.set_cons_zero, List.set_cons_succ]; rfl
    refine seq_take (v := ?_) (a' := ?_) (some 22) rfl rfl (by rfl) ?_ ?_ ?_
    rotate_left; rotate_left
    · intro w' hS; have z := cb hS n0; have q0 := cb hS k0; have q1 := cb hS k1; have q2 := cb hS k2; have q3 := cb hS k3; have q4 := cb hS k4; have q5 := cb hS k5; have q6 := cb hS k6; have q7 := cb hS k7; have hl := HLK2.out _ (bl_from HBW.out hS); go_simp; with_reducible rfl
    · simp only [Act.put, List.setIfInBounds_toArray, List.set_cons_zero, List.set_cons_succ]; rfl
    refine seq_take (v := ?_) (a' := ?_) (some 23) rfl rfl (by rfl) ?_ ?_ ?_
    rotate_left; rotate_left
    · intro w' hS; have z := cb hS n0; have q0 := cb hS k0; have q1 := cb hS k1; have q2 := cb hS k2; have q3 := cb hS k3; have q4 := cb hS k4; have q5 := cb hS k5; have q6 := cb hS k6; have q7 := cb hS k7; have hl := HLK2.out _ (bl_from HBW.out hS); go_simp; with_reducible rfl
    · simp only [Act.put, List.setIfInBounds_toArray, List.set_cons_zero, List.set_cons_succ]; rfl
    refine seq_take (v := ?_) (a' := ?_) (some 16) rfl rfl (by rfl) ?_ ?_ ?_
    rotate_left; rotate_left
    · intro w' hS; go_simp; with_reducible rfl
    · simp only [Act.put, List.setIfInBounds_toArray, List.set_cons_zero, List.set_cons_succ]; rfl
    refine seq_take (v := ?_) (a' := ?_) (some 24) rfl rfl (by rfl) ?_ ?_ ?_
    rotate_left; rotate_left
    · intro w' hS; go_simp; with_reducible rfl
    · simp only [Act.put, List.setIfInBounds_toArray, List.set_cons_zero, List.set_cons_succ]; rfl
    refine seq_take (v := ?_) (a' := ?_) (some 25) rfl rfl (by rfl) ?_ ?_ ?_
    rotate_left; rotate_left
    · intro w' hS; go_simp; with_reducible rfl
    · simp only [Act.put, List.setIfInBounds_toArray, List.set_cons_zero, List.set_cons_succ]; rfl
    refine seq_op (some 6) rfl rfl (by rfl) ?_
    apply Exists.intro; apply Exists.intro; apply And.intro
    · go_simp; first | exact ⟨rfl, rfl⟩ | rfl
    apply Exists.intro; apply And.intro
    · simp only [Act.put, List.setIfInBounds_toArray, List.set_cons_zero, List.set_cons_succ]; rfl
    apply And.intro
    · exact (by repeat (first | with_reducible exact hB | refine Below.alloc ?_ (by have := hB.size; simp; omega) _ | refine bl_dN ?_ _ | refine Below.drew ?_ | refine Below.setCell ?_ (by have := hB.size; simp; omega) _))
    refine seq_store none rfl rfl (by rfl) ?_
    apply Exists.intro; apply And.intro
    · go_simp; first | exact ⟨rfl, rfl⟩ | rfl
    apply Exists.intro; apply And.intro
    · simp only [Act.put, List.setIfInBounds_toArray, List.set_cons_zero, List.set_cons_succ]; rfl
    apply And.intro
    · exact (by repeat (first | with_reducible exact hB | refine Below.alloc ?_ (by have := hB.size; simp; omega) _ | refine bl_dN ?_ _ | refine Below.drew ?_ | refine Below.setCell ?_ (by have := hB.size; simp; omega) _))
    refine seq_take (v := ?_) (a' := ?_) (some 7) rfl rfl (by rfl) ?_ ?_ ?_
    rotate_left; rotate_left
    · intro w' hS; go_simp; with_reducible rfl
    · simp only [Act.put, List.setIfInBounds_toArray, List.set_cons_zero, List.set_cons_succ]; rfl
    refine seq_done ?_
    refine name_exit ?_
    intro U hU
    have hbU : Below w1.heap.size w1 U := by rw [hU]; exact hB.alloc hB.size _
    have HBU := Lib.hid (bl_from HBW.out hbU)
    have z0 := cb hbU n0
    have e0 := cb hbU k0
    have e1 := cb hbU k1
    have e2 := cb hbU k2
    have e3 := cb hbU k3
    have e4 := cb hbU k4
    have e5 := cb hbU k5
    have e6 := cb hbU k6
    have e7 := cb hbU k7
    have HSU := Lib.hid (HST.out.below HBU.out)
    have hln := omap_len HSU.out.map 3
    clear hU hB hbU n0 k0 k1 k2 k3 k4 k5 k6 k7
    cases hh : hasA M k with
    | true =>
      have HE2 := Lib.hid (show pe = 0 by rw [HE.out, hh]; rfl)
      clear hh
      go_wp2_with (go_at_call 69; refine (HWR.out _ HBU.out).mono ?_; rintro e w' ⟨lv', x, y, rfl, hst, hkp⟩; have HF := Lib.hid hst; have HK := Lib.hid hkp; clear hst hkp)
      refine bodyPost_ret (v := .tuple #[.int .i64 (ver + 1), .int .i64 0]) (by simp [results, Try.results39, go_sem]) rfl ?_
      have q1 := HF.out
      first | rw [if_pos rfl] at q1 | rw [if_pos trivial] at q1
      exact .inr ⟨HE2.out, lv', x, y, rfl, q1, (kept_of_below (X := fun b => b = sp ∨ b = mb ∨ (Value.slice al L.length cl).ownBlock = some b) HBU.out).trans HK.out (fun _ q => .inl q)⟩
    | false =>
      by_cases hc : M.length < 1000
      · have HE2 := Lib.hid (show pe = 0 by rw [HE.out, hh, if_pos (by simpa using hc)])
        have hI : ¬ (1000 : Int) ≤ M.length := by omega
        clear hh hc
        go_wp2_with (go_at_call 69; refine (HWR.out _ HBU.out).mono ?_; rintro e w' ⟨lv', x, y, rfl, hst, hkp⟩; have HF := Lib.hid hst; have HK := Lib.hid hkp; clear hst hkp)
        refine bodyPost_ret (v := .tuple #[.int .i64 (ver + 1), .int .i64 0]) (by simp [results, Try.results39, go_sem]) rfl ?_
        have q1 := HF.out
        first | rw [if_pos rfl] at q1 | rw [if_pos trivial] at q1
        exact .inr ⟨HE2.out, lv', x, y, rfl, q1, (kept_of_below (X := fun b => b = sp ∨ b = mb ∨ (Value.slice al L.length cl).ownBlock = some b) HBU.out).trans HK.out (fun _ q => .inl q)⟩
      · have HE2 := Lib.hid (show pe = 3 by rw [HE.out, hh, if_neg (by simpa using hc)])
        have hI : (1000 : Int) ≤ M.length := by omega
        clear hh hc
        go_wp2_with fail
        refine bodyPost_ret (v := .tuple #[.int .i64 0, .int .i64 3]) (by simp [results, Try.results39, go_sem]) rfl ?_
        exact .inl ⟨by rw [HE2.out]; decide, by rw [HE2.out], HBU.out⟩
end Go.Proofs.Ythhfcambdmdgfaa
namespace Go.Proofs.Ythhfcambdmdgfaa
open Go.RowKit Go.Maps
set_option linter.unusedVariables false
set_option linter.unusedSimpArgs false
def goneO (k : KeyD) : ObjD := ⟨k, 0, ⟨#[]⟩, false, false, []⟩
def delErr (M : AM KS OX) (k : KS) : Int := if keyOk k.1 then if hasA M k then 0 else 4 else 1
theorem StoreAt.del {w w1 : World} {base sp mb : Nat} {ver : Int} {M : AM KS OX} {lv : Value} {L : List LX} {k : KS} (h : StoreAt w base sp mb ver M lv L) (hg : w.mapTurned w1 mb) (hm : w1.ownsMap Try.prog 24 RV mb M.length ((dmA kL (fun p => Value.agg (objX p).toArray) M).del (kL k))) :
    StoreAt w1 base sp mb ver (delA M k) lv L ∧ Kept (fun q => q = mb) w w1 := by
  have hkk : Kept (fun q => q = mb) w w1 := kept_turned hg
  have h4 : ∀ q, q = mb → ∀ c, w.heap[q]? = some (.cells c 112) → False := fun q e c hc' => mv_other h.map hc' e
  refine ⟨⟨hkk.heap h.cell h.ne_map, ?_, rw_kept h.row hkk (fun q e r => by subst r; exact h.ne_log_map e), fun q hq => ?_, fun e he => ⟨(h.resL e he).1.kept hkk h4, (h.resL e he).2⟩, h.ge⟩, hkk⟩
  · rw [del_dmA kL_lit] at hm
    have := mv_tight hm
    rw [size_dmA kL_lit] at this
    exact this
  · have r := (mem_del.1 hq).1
    exact ⟨(h.resM q r).1.kept hkk h4, (h.resM q r).2⟩
def WroteD (w : World) (base sp mb : Nat) (ver : Int) (M : AM KS OX) (lv : Value) (L : List LX) (kd : Int) (o : ObjD) (e : Ending) (w' : World) : Prop :=
  ∃ lv' x, e = .returned (.int .i64 (ver + 1)) ∧ StoreAt w' base sp mb (ver + 1) M lv' (L ++ [(kd, ({ o with ver := ver + 1 }, x))]) ∧ Kept (fun b => b = sp ∨ b = mb ∨ lv.ownBlock = some b) w w'
theorem wrote_ne {w : World} {base sp mb : Nat} {ver : Int} {M : AM KS OX} {lv : Value} {L : List LX} {kd : Int} {k : KS} {o : ObjD} {e : Ending} {w' : World} (h : Wrote w base sp mb ver M lv L kd k o e w') (hk : kd ≠ 0) : WroteD w base sp mb ver M lv L kd o e w' := by
  obtain ⟨lv', x, y, h1, h2, h3⟩ := h
  rw [if_neg hk] at h2
  exact ⟨lv', x, h1, h2, h3⟩
set_option maxRecDepth 100000 in
set_option maxHeartbeats 8000000 in
theorem sdelete_calls (w : World) {base sp mb : Nat} {ver : Int} {M : AM KS OX} {lv : Value} {L : List LX} (h : StoreAt w base sp mb ver M lv L) (k : KS)
    (hv : 0 ≤ ver ∧ ver ≤ 1000000000) (hM : M.length ≤ 1000000) (hL : L.length ≤ 1000000) :
    Calls Try.prog 40 #[.pointer (some ⟨sp, 0, none⟩), .agg #[.string k.1.kind, .string k.1.space, .string k.1.name]] w (Act9 w base sp mb ver (fun _ => delA M k) lv L 1 (goneO k.1) (delErr M k)) := by
  have hsp := h.ptr
  obtain ⟨al, cl, rfl⟩ := rw_form h.row
  have HST := Lib.hid h
  have HKS := Lib.hid k.2
  have HWR := Lib.hid (fun (U : World) (hu : StoreAt U base sp mb ver (delA M k) (.slice al L.length cl) L) => written_calls U hu 1 (o := goneO k.1) (k := k) (sl := .slice none 0 0) rfl (fun X hX => ⟨⟨sliS_nil X 2, by rintro p ⟨⟩⟩, (show in64 0 by unfold in64; omega)⟩) ⟨k.2, (show (ByteArray.mk #[]).size ≤ 1000 by decide), (show (0:Nat) ≤ 300 by omega), by rintro p ⟨⟩⟩ hv (Nat.le_trans (del_le M k) hM) hL |>.mono fun e w' q => wrote_ne q (by decide))
  unfold objV goneO at HWR
  simp only at HWR
  obtain ⟨q, A, n, c, HLK⟩ := store_look h k rfl
  have m0 : w.cell? ⟨sp, 0, none⟩ = some (.map (some mb)) := blk_cell h.cell 0
  have HLK2 := Lib.hid HLK
  have HM := Lib.hid hM
  have HKEY := Lib.hid (show keyOf Try.prog 24 (.agg #[.string k.1.kind, .string k.1.space, .string k.1.name]) = some (kL k) from kL_key k)
  have HPE := Lib.hid (show delErr M k = if keyOk k.1 then if hasA M k then 0 else 4 else 1 from rfl)
  generalize delErr M k = pe at HPE ⊢
  clear h hv hM hL HLK
  go_enter Try.func40, Try.ntmps40
  go_upto_region 1 with fail
  first | with_reducible refine name_wp ?_ | with_reducible refine name_calls ?_
  intro W hW
  have Hw := Lib.hid (show Below w.heap.size w W by rw [hW]; exact (Below.refl _ _).alloc (Nat.le_refl _) _)
  have c0_0 : W.cell? ⟨w.heap.size, 0, none⟩ = some (.string k.1.kind) := by rw [hW]; exact blk_cell (blk_new w _) 0
  have c0_1 : W.cell? ⟨w.heap.size, 1, none⟩ = some (.string k.1.space) := by rw [hW]; exact blk_cell (blk_new w _) 1
  have c0_2 : W.cell? ⟨w.heap.size, 2, none⟩ = some (.string k.1.name) := by rw [hW]; exact blk_cell (blk_new w _) 2
  clear hW
  cases hr : keyB k.1.kind k.1.space k.1.name with
  | false =>
    have HRR := Lib.hid hr
    have HE := Lib.hid (show pe = 1 by rw [HPE.out]; unfold keyOk; rw [hr]; rfl)
    clear hr
    go_wp2_with (go_at_call 70; refine (key_calls _ _ _ _ (by have := HKS.out; unfold keySmall at this; omega) (by have := HKS.out; unfold keySmall at this; omega) (by have := HKS.out; unfold keySmall at this; omega)).mono ?_; rintro e w1 ⟨rfl, hb⟩; rw [HRR.out]; have k0 := cb hb c0_0; have k1 := cb hb c0_1; have k2 := cb hb c0_2; have HB1 := Lib.hid hb; have n0 := cb (bl_from Hw.out hb) m0; clear hb)
    refine bodyPost_ret (v := .tuple #[.int .i64 0, .int .i64 1]) (by simp [results, Try.results40, go_sem]) rfl ?_
    exact .inl ⟨by rw [HE.out]; decide, by rw [HE.out], bl_from Hw.out HB1.out⟩
  | true =>
    have HRR := Lib.hid hr
    have HE := Lib.hid (show pe = if hasA M k then 0 else 4 by rw [HPE.out]; unfold keyOk; rw [hr]; rfl)
    clear hr
    go_upto_region 3 with (go_at_call 70; refine (key_calls _ _ _ _ (by have := HKS.out; unfold keySmall at this; omega) (by have := HKS.out; unfold keySmall at this; omega) (by have := HKS.out; unfold keySmall at this; omega)).mono ?_; rintro e w1 ⟨rfl, hb⟩; rw [HRR.out]; have k0 := cb hb c0_0; have k1 := cb hb c0_1; have k2 := cb hb c0_2; have HB1 := Lib.hid hb; have n0 := cb (bl_from Hw.out hb) m0; clear hb)
    have HBW := Lib.hid (bl_from Hw.out HB1.out)
    have hB := Below.refl w1.heap.size w1
    clear c0_0 c0_1 c0_2
    have hB := hB.drew
    refine region_seq (fun w' => Below w1.heap.size w1 w') [(0, true), (1, true), (2, true), (3, true), (4, true), (5, true), (6, true), (7, true), (8, true), (9, false), (10, false), (11, true)] (by kernel_rfl) (by kernel_rfl) (fun _ _ _ _ h => h) hB ?_
    try generalize World.drew _ = wS at hB ⊢
    refine seq_take (v := ?_) (a' := ?_) (some 16) rfl rfl (by rfl) ?_ ?_ ?_
    rotate_left; rotate_left
    · intro w' hS; go_simp; with_reducible rfl
    · simp only [Act.put, List.setIfInBounds_toArray, List.set_cons_zero, List.set_cons_succ]; rfl
    refine seq_take (v := ?_) (a' := ?_) (some 17) rfl rfl (by rfl) ?_ ?_ ?_
    rotate_left; rotate_left
    · intro w' hS; go_simp; with_reducible rfl
    · simp only [Act.put, List.setIfInBounds_toArray, List.set_cons_zero, List.set_cons_succ]; rfl
    refine seq_take (v := ?_) (a' := ?_) (some 18) rfl rfl (by rfl) ?_ ?_ ?_
    rotate_left; rotate_left
    · intro w' hS; go_simp; with_reducible rfl
    · simp only [Act.put, List.setIfInBounds_toArray, List.set_cons_zero, List.set_cons_succ]; rfl
    refine seq_take (v := ?_) (a' := ?_) (some 19) rfl rfl (by rfl) ?_ ?_ ?_
    rotate_left; rotate_left
    · intro w' hS; have z := cb hS n0; have q0 := cb hS k0; have q1 := cb hS k1; have q2 := cb hS k2; have hl := HLK2.out _ (bl_from HBW.out hS); go_simp; with_reducible rfl
    · simp only [Act.put, List.setIfInBounds_toArray, List.set_cons_zero, List.set_cons_succ]; rfl
    refine seq_take (v := ?_) (a' := ?_) (some 20) rfl rfl (by rfl) ?_ ?_ ?_
    rotate_left; rotate_left
    · intro w' hS; have z := cb hS n0; have q0 := cb hS k0; have q1 := cb hS k1; have q2 := cb hS k2; have hl := HLK2.out _ (bl_from HBW.out hS); go_simp; with_reducible rfl
    · simp only [Act.put, List.setIfInBounds_toArray, List.set_cons_zero, List.set_cons_succ]; rfl
    refine seq_take (v := ?_) (a' := ?_) (some 21) rfl rfl (by rfl) ?_ ?_ ?_
    rotate_left; rotate_left
    · intro w' hS; have z := cb hS n0; have q0 := cb hS k0; have q1 := cb hS k1; have q2 := cb hS k2; have hl := HLK2.out _ (bl_from HBW.out hS); go_simp; with_reducible rfl
    · simp only [Act.put, List.setIfInBounds_toArray, List.set_cons_zero, List.set_cons_succ]; rfl
    refine seq_take (v := ?_) (a' := ?_) (some 15) rfl rfl (by rfl) ?_ ?_ ?_
    rotate_left; rotate_left
    · intro w' hS; go_simp; with_reducible rfl
    · simp only [Act.put, List.setIfInBounds_toArray, List.set_cons_zero, List.set_cons_succ]; rfl
    refine seq_take (v := ?_) (a' := ?_) (some 22) rfl rfl (by rfl) ?_ ?_ ?_
    rotate_left; rotate_left
    · intro w' hS; go_simp; with_reducible rfl
    · simp only [Act.put, List.setIfInBounds_toArray, List.set_cons_zero, List.set_cons_succ]; rfl
    refine seq_take (v := ?_) (a' := ?_) (some 23) rfl rfl (by rfl) ?_ ?_ ?_
    rotate_left; rotate_left
    · intro w' hS; go_simp; with_reducible rfl
    · simp only [Act.put, List.setIfInBounds_toArray, List.set_cons_zero, List.set_cons_succ]; rfl
    refine seq_op (some 6) rfl rfl (by rfl) ?_
    apply Exists.intro; apply Exists.intro; apply And.intro
    · go_simp; first | exact ⟨rfl, rfl⟩ | rfl
    apply Exists.intro; apply And.intro
    · simp only [Act.put, List.setIfInBounds_toArray, List.set_cons_zero, List.set_cons_succ]; rfl
    apply And.intro
    · exact (by repeat (first | with_reducible exact hB | refine Below.alloc ?_ (by have := hB.size; simp; omega) _ | refine bl_dN ?_ _ | refine Below.drew ?_ | refine Below.setCell ?_ (by have := hB.size; simp; omega) _))
    refine seq_store none rfl rfl (by rfl) ?_
    apply Exists.intro; apply And.intro
    · go_simp; first | exact ⟨rfl, rfl⟩ | rfl
    apply Exists.intro; apply And.intro
    · simp only [Act.put, List.setIfInBounds_toArray, List.set_cons_zero, List.set_cons_succ]; rfl
    apply And.intro
    · exact (by repeat (first | with_reducible exact hB | refine Below.alloc ?_ (by have := hB.size; simp; omega) _ | refine bl_dN ?_ _ | refine Below.drew ?_ | refine Below.setCell ?_ (by have := hB.size; simp; omega) _))
    refine seq_take (v := ?_) (a' := ?_) (some 7) rfl rfl (by rfl) ?_ ?_ ?_
    rotate_left; rotate_left
    · intro w' hS; go_simp; with_reducible rfl
    · simp only [Act.put, List.setIfInBounds_toArray, List.set_cons_zero, List.set_cons_succ]; rfl
    refine seq_done ?_
    refine name_exit ?_
    intro U hU
    have hbU : Below w1.heap.size w1 U := by rw [hU]; exact hB.alloc hB.size _
    have HBU := Lib.hid (bl_from HBW.out hbU)
    have z0 := cb hbU n0
    have e0 := cb hbU k0
    have e1 := cb hbU k1
    have e2 := cb hbU k2
    have HSU := Lib.hid (HST.out.below HBU.out)
    clear hU hB hbU n0 k0 k1 k2
    cases hh : hasA M k with
    | false =>
      have HE2 := Lib.hid (show pe = 4 by rw [HE.out, hh]; rfl)
      clear hh
      go_wp2_with fail
      refine bodyPost_ret (v := .tuple #[.int .i64 0, .int .i64 4]) (by simp [results, Try.results40, go_sem]) rfl ?_
      exact .inl ⟨by rw [HE2.out]; decide, by rw [HE2.out], HBU.out⟩
    | true =>
      have HE2 := Lib.hid (show pe = 0 by rw [HE.out, hh]; rfl)
      clear hh
      go_upto_region 6 with fail
      have hB := Below.refl U.heap.size U
      have hB := hB.drew
      refine region_seqM (fun w' => Below U.heap.size U w') 5 [(0, 1), (1, 1), (2, 1), (3, 1), (4, 1), (5, 0)] (by kernel_rfl) (by kernel_rfl) (fun _ _ _ _ h => h) hB ?_
      try generalize World.drew _ = wS at hB ⊢
      refine sm_take (v := ?_) (a' := ?_) (some 26) rfl rfl (by rfl) ?_ ?_ ?_
      rotate_left; rotate_left
      · intro w' hS; go_simp; with_reducible rfl
      · simp only [Act.put, List.setIfInBounds_toArray, List.set_cons_zero, List.set_cons_succ]; rfl
      refine sm_take (v := ?_) (a' := ?_) (some 27) rfl rfl (by rfl) ?_ ?_ ?_
      rotate_left; rotate_left
      · intro w' hS; go_simp; with_reducible rfl
      · simp only [Act.put, List.setIfInBounds_toArray, List.set_cons_zero, List.set_cons_succ]; rfl
      refine sm_take (v := ?_) (a' := ?_) (some 28) rfl rfl (by rfl) ?_ ?_ ?_
      rotate_left; rotate_left
      · intro w' hS; go_simp; with_reducible rfl
      · simp only [Act.put, List.setIfInBounds_toArray, List.set_cons_zero, List.set_cons_succ]; rfl
      refine sm_take (v := ?_) (a' := ?_) (some 29) rfl rfl (by rfl) ?_ ?_ ?_
      rotate_left; rotate_left
      · intro w' hS; have p0 := cb hS z0; have q0 := cb hS e0; have q1 := cb hS e1; have q2 := cb hS e2; go_simp; with_reducible rfl
      · simp only [Act.put, List.setIfInBounds_toArray, List.set_cons_zero, List.set_cons_succ]; rfl
      refine sm_take (v := ?_) (a' := ?_) (some 30) rfl rfl (by rfl) ?_ ?_ ?_
      rotate_left; rotate_left
      · intro w' hS; have p0 := cb hS z0; have q0 := cb hS e0; have q1 := cb hS e1; have q2 := cb hS e2; go_simp; with_reducible rfl
      · simp only [Act.put, List.setIfInBounds_toArray, List.set_cons_zero, List.set_cons_succ]; rfl
      refine sm_law rfl (by rfl) ?_
      refine wp_mapDel _ (.tmp 29) (.tmp 30) 92 24 rfl 27 kS_keyed Try.underlying92 mb M.length (dmA kL (fun p => Value.agg (objX p).toArray) M) rfl (HSU.out.map.below hB) (.agg #[.string k.1.kind, .string k.1.space, .string k.1.name]) (kL k) rfl HKEY.out ?_
      intro w4 hown4 hturn4
      refine ⟨.inl rfl, ?_⟩
      simp only [Act.put, List.setIfInBounds_toArray, List.set_cons_zero, List.set_cons_succ]
      refine sm_done ?_
      have HD := Lib.hid ((HSU.out.below hB).del hturn4 hown4)
      have HKF := Lib.hid (show Kept (fun b => b = sp ∨ b = mb ∨ (Value.slice al L.length cl).ownBlock = some b) w w4 from (kept_of_below (X := fun b => b = sp ∨ b = mb ∨ (Value.slice al L.length cl).ownBlock = some b) (bl_from HBU.out hB)).trans HD.out.2 (fun _ q => .inl (.inr (.inl q))))
      have hNB : ¬ (w.heap.size = mb) := by
        obtain ⟨es, clock, hb, _⟩ := HST.out.map
        have := blk_lt hb; omega
      have f0 := HD.out.2.cell (cb hB e0) hNB
      have f1 := HD.out.2.cell (cb hB e1) hNB
      have f2 := HD.out.2.cell (cb hB e2) hNB
      clear hown4 hturn4 hB e0 e1 e2 z0 hNB
      go_wp2_with (go_at_call 69; refine (HWR.out _ HD.out.1).mono ?_; rintro e w' ⟨lv', x, rfl, hst, hkp⟩; have HF := Lib.hid hst; have HK := Lib.hid hkp; clear hst hkp)
      refine bodyPost_ret (v := .tuple #[.int .i64 (ver + 1), .int .i64 0]) (by simp [results, Try.results40, go_sem]) rfl ?_
      exact .inr ⟨HE2.out, lv', x, undef, rfl, HF.out, HKF.out.trans HK.out (fun _ q => .inl q)⟩
end Go.Proofs.Ythhfcambdmdgfaa
