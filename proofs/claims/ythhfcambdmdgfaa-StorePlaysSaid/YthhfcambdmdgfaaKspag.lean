import Derived.Test.YthhfcambdmdgfaaKspaf
import Derived.IntWalk
import Derived.Test.YthhfcambdmdgfaaKspad
import Derived.DeepKeys4
import Derived.DeepKeys5
import Derived.Test.YthhfcambdmdgfaaKspaa
import Derived.OrdersHeld
import Derived.TacticsInMore
namespace Go.Proofs.Ythhfcambdmdgfaa
open Go.RowKit Go.Maps Srt
set_option linter.unusedVariables false
set_option linter.unusedSimpArgs false
set_option linter.unusedSectionVars false
section
variable {α κ : Type} [DecidableEq κ] {K : α → κ} {lt : κ → κ → Bool} {d d1 d2 : Nat → α} {s n q a b : Nat}
def BlkTo (K : α → κ) (lt : κ → κ → Bool) (d : Nat → α) (s a : Nat) : Prop := ∀ r, (r + 1) * s ≤ a → SrtF K lt d (r * s) ((r + 1) * s)
def BlkAll (K : α → κ) (lt : κ → κ → Bool) (d : Nat → α) (s n : Nat) : Prop := ∀ r, SrtF K lt d (r * s) (min ((r + 1) * s) n)
def BlkRest (K : α → κ) (lt : κ → κ → Bool) (d : Nat → α) (s n a : Nat) : Prop := ∀ r, a ≤ r * s → SrtF K lt d (r * s) (min ((r + 1) * s) n)
theorem blk_lt_iff (hs : 0 < s) {r q : Nat} : (r + 1) * s ≤ q * s ↔ r < q := ⟨fun h => Nat.le_of_mul_le_mul_right h hs, fun h => Nat.mul_le_mul_right s h⟩
theorem blkTo_0 : BlkTo K lt d s 0 := fun r hr i j h1 h2 h3 => by omega
theorem blkTo_step (hs : 0 < s) (h : BlkTo K lt d1 s (q * s)) (hw : Wk K n d1 d2 (q * s) ((q + 1) * s)) (k : SrtF K lt d2 (q * s) ((q + 1) * s)) : BlkTo K lt d2 s ((q + 1) * s) := by
  intro r hr
  have hrq : r < q + 1 := (blk_lt_iff hs).1 hr
  by_cases e : r = q
  · subst e; exact k
  · have h1 : (r + 1) * s ≤ q * s := (blk_lt_iff hs).2 (by omega)
    exact srt_same (h r h1) (fun i _ hi => hw.out i (.inl (by omega)))
theorem blkAll_of (hs : 0 < s) (h : BlkTo K lt d1 s (q * s)) (hn : n < (q + 1) * s) (hw : Wk K n d1 d2 (q * s) n) (k : SrtF K lt d2 (q * s) n) : BlkAll K lt d2 s n := by
  intro r
  by_cases e : r = q
  · subst e; rw [Nat.min_eq_right (Nat.le_of_lt hn)]; exact k
  · by_cases e2 : r < q
    · have h1 : (r + 1) * s ≤ q * s := (blk_lt_iff hs).2 e2
      refine srt_sub (b := (r + 1) * s) (srt_same (h r h1) (fun i _ hi => hw.out i (.inl (by omega)))) (Nat.le_refl _) (Nat.min_le_left _ _)
    · have h1 : (q + 1) * s ≤ r * s := (blk_lt_iff hs).2 (by omega)
      intro i j h2 h3 h4
      have := Nat.lt_of_lt_of_le h4 (Nat.min_le_right _ _)
      omega
theorem blkRest_of (h : BlkAll K lt d s n) : BlkRest K lt d s n 0 := fun r _ => h r
theorem two_mul_s (q s : Nat) : q * (2 * s) = 2 * q * s := by rw [Nat.mul_comm 2 s, ← Nat.mul_assoc, Nat.mul_comm (q * s) 2, ← Nat.mul_assoc]
theorem rest_lo (h : BlkRest K lt d s n (q * (2 * s))) (hn : q * (2 * s) + s ≤ n) : SrtF K lt d (q * (2 * s)) (q * (2 * s) + s) := by
  have := h (2 * q) (by rw [two_mul_s]; exact Nat.le_refl _)
  rw [Nat.add_mul, Nat.one_mul, ← two_mul_s, Nat.min_eq_left hn] at this
  exact this
theorem rest_lo' (h : BlkRest K lt d s n (q * (2 * s))) (hn : n ≤ q * (2 * s) + s) : SrtF K lt d (q * (2 * s)) n := by
  have := h (2 * q) (by rw [two_mul_s]; exact Nat.le_refl _)
  rw [Nat.add_mul, Nat.one_mul, ← two_mul_s, Nat.min_eq_right hn] at this
  exact this
theorem rest_hi (h : BlkRest K lt d s n (q * (2 * s))) : SrtF K lt d (q * (2 * s) + s) (min (q * (2 * s) + 2 * s) n) := by
  have := h (2 * q + 1) (by rw [Nat.add_mul, ← two_mul_s]; omega)
  rw [show (2 * q + 1 + 1) * s = q * (2 * s) + 2 * s by rw [two_mul_s, ← Nat.add_mul], show (2 * q + 1) * s = q * (2 * s) + s by rw [two_mul_s, Nat.add_mul, Nat.one_mul]] at this
  exact this
theorem rest_step {m : Nat} (h : BlkRest K lt d1 s n a) (hw : Wk K m d1 d2 a b) (hab : a ≤ b) : BlkRest K lt d2 s n b := fun r hr =>
  srt_same (h r (by omega)) (fun i hi _ => hw.out i (.inr (by omega)))
theorem blkAll_end (h : BlkAll K lt d s n) (hn : n ≤ s) : SrtF K lt d 0 n := by
  have := h 0
  rw [Nat.zero_mul, Nat.zero_add, Nat.one_mul, Nat.min_eq_right hn] at this
  exact this
end
set_option maxRecDepth 100000 in
set_option maxHeartbeats 16000000 in
theorem stable_calls {w0 W : World} {B g N cap : Nat} {d : Nat → OX} (h : SW w0 B g N cap d W) (hP : AllP N d) (hN : N ≤ 1000000) :
    Calls Try.prog 80 #[.slice (some ⟨g, 0, none⟩) N cap, .int .i64 (N : Int), .func (.func 58) #[] #[]] W (Done w0 B g N cap d 0 N) := by
  have HSW0 := Lib.hid h; have HP := Lib.hid hP
  clear h hP
  have hNI : (N : Int) ≤ 1000000 := by omega
  go_enter Try.func80, Try.ntmps80
  go_wp2_with fail
  go_loopw [7, 8] (fun sa sb wr => ∃ (a b : Nat) (d1 : Nat → OX), sa = .int .i64 (a : Int) ∧ sb = .int .i64 (b : Int) ∧ a ≤ N ∧ b = a + 20 ∧ Hid (∃ q, a = q * 20 ∧ Wk kX N d d1 0 N ∧ BlkTo kX ltB d1 20 (q * 20) ∧ AllP N d1 ∧ SW w0 B g N cap d1 wr)) (fun sa _ _ => N + 20 - (intOf sa).toNat)
  case atStart => exact ⟨0, 20, d, rfl, rfl, Nat.zero_le _, rfl, Lib.hid ⟨0, rfl, Wk.refl _ _ _, blkTo_0, HP.out, HSW0.out⟩⟩
  case round =>
    obtain ⟨a, b, d1, rfl, rfl, haN, hba, HQ⟩ := hrel
    have HBA := Lib.hid hba
    have hab : a < b := by omega
    have hbb : b ≤ a + 20 := by omega
    clear hba
    by_cases hbN : b ≤ N
    · have hbI : (b : Int) ≤ N := by omega
      have HC : Hid (Calls Try.prog 104 #[.slice (some ⟨g, 0, none⟩) N cap, .int .i64 (a : Int), .int .i64 (b : Int), .func (.func 58) #[] #[]] wr (Done w0 B g N cap d1 a b)) := Lib.hid (by
        obtain ⟨q, _, _, _, q3, q4⟩ := HQ.out
        exact insS_calls q4 q3 (Nat.le_of_lt hab) hbN hN)
      go_wp2_with (go_at_call 104; refine HC.out.mono ?_; rintro e w4 ⟨rfl, D2, e1, e2, e3, e4⟩; have HE := Lib.hid (And.intro e1 (And.intro e2 (And.intro e3 e4))); clear e1 e2 e3 e4)
      go_roundw
      case rel =>
        refine ⟨b, b + 20, D2, rfl, by simp, hbN, rfl, Lib.hid ?_⟩
        obtain ⟨q, hq, q1, q2, q3, q4⟩ := HQ.out
        obtain ⟨e1, e2, e3, e4⟩ := HE.out
        have hb2 : b = (q + 1) * 20 := by have := HBA.out; omega
        rw [hq, hb2] at e1 e2
        exact ⟨q + 1, hb2, q1.trans (e1.wider (Nat.zero_le _) (by omega)), blkTo_step (by decide) q2 e1 e2, e3, e4⟩
      case measure => have := HBA.out; simp [intOf]; omega
    · have hbI : ¬ (b : Int) ≤ N := by omega
      have HC : Hid (Calls Try.prog 104 #[.slice (some ⟨g, 0, none⟩) N cap, .int .i64 (a : Int), .int .i64 (N : Int), .func (.func 58) #[] #[]] wr (Done w0 B g N cap d1 a N)) := Lib.hid (by
        obtain ⟨q, _, _, _, q3, q4⟩ := HQ.out
        exact insS_calls q4 q3 haN (Nat.le_refl _) hN)
      go_wp2_with (go_at_call 104; refine HC.out.mono ?_; rintro e w4 ⟨rfl, D2, e1, e2, e3, e4⟩; have HE := Lib.hid (And.intro e1 (And.intro e2 (And.intro e3 e4))); clear e1 e2 e3 e4)
      have HSTART : Hid (Wk kX N d D2 0 N ∧ BlkAll kX ltB D2 20 N ∧ AllP N D2 ∧ SW w0 B g N cap D2 w4) := Lib.hid (by
        obtain ⟨q, hq, q1, q2, q3, q4⟩ := HQ.out
        obtain ⟨e1, e2, e3, e4⟩ := HE.out
        rw [hq] at e1 e2
        exact ⟨q1.trans (e1.wider (Nat.zero_le _) (Nat.le_refl _)), blkAll_of (by decide) q2 (by have := HBA.out; omega) e1 e2, e3, e4⟩)
      clear HC HQ HE HBA hbI hbb hab
      go_loopw [6] (fun ss wr => ∃ (s : Nat) (d2 : Nat → OX), ss = .int .i64 (s : Int) ∧ 20 ≤ s ∧ s ≤ 2000000 ∧ Hid (Wk kX N d d2 0 N ∧ BlkAll kX ltB d2 s N ∧ AllP N d2 ∧ SW w0 B g N cap d2 wr)) (fun ss _ => N - (intOf ss).toNat)
      case atStart => exact ⟨20, D2, rfl, Nat.le_refl _, by omega, HSTART⟩
      case round =>
        clear HSTART
        obtain ⟨s, d2, rfl, hs1, hs2, HQ⟩ := hrel
        by_cases hsN : s < N
        · have hsI : (s : Int) < N := by omega
          have hs3 : (20 : Int) ≤ s := by omega
          have HST : Hid (Wk kX N d d2 0 N ∧ BlkTo kX ltB d2 (2 * s) (0 * (2 * s)) ∧ BlkRest kX ltB d2 s N (0 * (2 * s)) ∧ AllP N d2 ∧ SW w0 B g N cap d2 wr) := Lib.hid (by
            obtain ⟨q1, q2, q3, q4⟩ := HQ.out
            exact ⟨q1, by rw [Nat.zero_mul]; exact blkTo_0, by rw [Nat.zero_mul]; exact blkRest_of q2, q3, q4⟩)
          go_wp2_with fail
          go_loopw [7, 8] (fun sa sb wr => ∃ (a b : Nat) (d3 : Nat → OX), sa = .int .i64 (a : Int) ∧ sb = .int .i64 (b : Int) ∧ a ≤ N ∧ b = a + 2 * s ∧ Hid (∃ q, a = q * (2 * s) ∧ Wk kX N d d3 0 N ∧ BlkTo kX ltB d3 (2 * s) (q * (2 * s)) ∧ BlkRest kX ltB d3 s N (q * (2 * s)) ∧ AllP N d3 ∧ SW w0 B g N cap d3 wr)) (fun sa _ _ => N + 2 * s - (intOf sa).toNat)
          case atStart => exact ⟨0, 2 * s, d2, rfl, by (rw [show ((2 * s : Nat) : Int) = 2 * (s : Int) by omega]), Nat.zero_le _, by omega, Lib.hid ⟨0, by omega, HST.out⟩⟩
          case round =>
            clear HST
            obtain ⟨a, b, d3, rfl, rfl, haN, hba, HR⟩ := hrel
            have HBA := Lib.hid hba
            have hab : a + s < b := by omega
            have hbb : b ≤ 4000000 := by omega
            have hal : (a : Int) ≤ 1000000 := by omega
            have hsl : (s : Int) ≤ 1000000 := by omega
            have hbl : (b : Int) ≤ 4000000 := by omega
            clear hba
            have e1 : ((a + s : Nat) : Int) = (a : Int) + s := by omega
            by_cases hbN : b ≤ N
            · have hbI : (b : Int) ≤ N := by omega
              have HC : Hid (Calls Try.prog 105 #[.slice (some ⟨g, 0, none⟩) N cap, .int .i64 (a : Int), .int .i64 ((a : Int) + s), .int .i64 (b : Int), .func (.func 58) #[] #[]] wr (Done w0 B g N cap d3 a b)) := Lib.hid (by
                obtain ⟨q, hq, _, _, q2, q3, q4⟩ := HR.out
                have z1 := rest_lo q2 (by rw [← hq]; omega)
                have z2 := rest_hi q2
                rw [← hq] at z1 z2
                rw [Nat.min_eq_left (by have := HBA.out; omega), ← HBA.out] at z2
                rw [← e1]
                exact symM_calls (b - a) a (a + s) b (Nat.le_refl _) (by omega) hab hbN hN q4 q3 z1 z2)
              clear e1
              go_wp2_with (go_at_call 105; refine HC.out.mono ?_; rintro e w4 ⟨rfl, D3, e1, e2, e3, e4⟩; have HE := Lib.hid (And.intro e1 (And.intro e2 (And.intro e3 e4))); clear e1 e2 e3 e4)
              go_roundw
              case rel =>
                refine ⟨b, b + 2 * s, D3, rfl, by (rw [show ((b + 2 * s : Nat) : Int) = (b : Int) + 2 * s by omega]), hbN, rfl, Lib.hid ?_⟩
                obtain ⟨q, hq, q1, q2, q2', q3, q4⟩ := HR.out
                obtain ⟨e1, e2, e3, e4⟩ := HE.out
                have hb2 : b = (q + 1) * (2 * s) := by have := HBA.out; rw [Nat.add_mul, Nat.one_mul, ← hq]; exact this
                have q5 := rest_step q2' (b := b) (by rw [← hq]; exact e1) (by rw [← hq]; omega)
                rw [hb2] at q5
                rw [hq, hb2] at e1 e2
                exact ⟨q + 1, hb2, q1.trans (e1.wider (Nat.zero_le _) (by rw [← hb2]; exact hbN)), blkTo_step (by omega) q2 e1 e2, q5, e3, e4⟩
              case measure => have := HBA.out; simp [intOf]; omega
            · have hbI : ¬ (b : Int) ≤ N := by omega
              have FIN : Hid (∀ (D3 : Nat → OX) (w4 : World), Wk kX N d3 D3 a N → SrtF kX ltB D3 a N → AllP N D3 → SW w0 B g N cap D3 w4 → Wk kX N d D3 0 N ∧ BlkAll kX ltB D3 (2 * s) N ∧ AllP N D3 ∧ SW w0 B g N cap D3 w4) := Lib.hid (by
                intro D3 w4 e1 e2 e3 e4
                obtain ⟨q, hq, q1, q2, q2', q3, q4⟩ := HR.out
                rw [hq] at e1 e2
                exact ⟨q1.trans (e1.wider (Nat.zero_le _) (Nat.le_refl _)), blkAll_of (by omega) q2 (by have := HBA.out; rw [Nat.add_mul, Nat.one_mul, ← hq]; omega) e1 e2, e3, e4⟩)
              by_cases hmN : a + s < N
              · have hmI : (a : Int) + s < N := by omega
                have HC : Hid (Calls Try.prog 105 #[.slice (some ⟨g, 0, none⟩) N cap, .int .i64 (a : Int), .int .i64 ((a : Int) + s), .int .i64 (N : Int), .func (.func 58) #[] #[]] wr (Done w0 B g N cap d3 a N)) := Lib.hid (by
                  obtain ⟨q, hq, _, _, q2, q3, q4⟩ := HR.out
                  have z1 := rest_lo q2 (by rw [← hq]; omega)
                  have z2 := rest_hi q2
                  rw [← hq] at z1 z2
                  rw [Nat.min_eq_right (by have := HBA.out; omega)] at z2
                  rw [← e1]
                  exact symM_calls (N - a) a (a + s) N (Nat.le_refl _) (by omega) hmN (Nat.le_refl _) hN q4 q3 z1 z2)
                clear e1
                go_wp2_with (go_at_call 105; refine HC.out.mono ?_; rintro e w4 ⟨rfl, D3, e1, e2, e3, e4⟩; have HE := Lib.hid (FIN.out D3 w4 e1 e2 e3 e4); clear e1 e2 e3 e4)
                go_roundw
                case rel => exact ⟨s * 2, D3, by (rw [show ((s * 2 : Nat) : Int) = (s : Int) * 2 by omega]), by omega, by omega, by rw [Nat.mul_comm]; exact HE⟩
                case measure => simp [intOf]; omega
              · have hmI : ¬ (a : Int) + s < N := by omega
                have HE : Hid (Wk kX N d d3 0 N ∧ BlkAll kX ltB d3 (2 * s) N ∧ AllP N d3 ∧ SW w0 B g N cap d3 wr) := Lib.hid (by
                  obtain ⟨q, hq, _, _, q2, q3, q4⟩ := HR.out
                  have z1 := rest_lo' q2 (by rw [← hq]; omega)
                  rw [← hq] at z1
                  exact FIN.out d3 wr (Wk.refl _ _ _) z1 q3 q4)
                clear e1
                go_wp2_with fail
                go_roundw
                case rel => exact ⟨s * 2, d3, by (rw [show ((s * 2 : Nat) : Int) = (s : Int) * 2 by omega]), by omega, by omega, by rw [Nat.mul_comm]; exact HE⟩
                case measure => simp [intOf]; omega
        · have hsI : ¬ (s : Int) < N := by omega
          go_wp2_with fail
          go_end0
          obtain ⟨q1, q2, q3, q4⟩ := HQ.out
          exact ⟨rfl, d2, q1, blkAll_end q2 (by omega), q3, q4⟩
set_option maxRecDepth 100000 in
set_option maxHeartbeats 4000000 in
theorem sortS_calls {w0 W : World} {B g N cap : Nat} {d : Nat → OX} (h : SW w0 B g N cap d W) (hP : AllP N d) (hN : N ≤ 1000000) :
    Calls Try.prog 57 #[.slice (some ⟨g, 0, none⟩) N cap, .func (.func 58) #[] #[]] W (Done w0 B g N cap d 0 N) := by
  have HC := Lib.hid (stable_calls h hP hN)
  clear h hP
  go_enter Try.func57, Try.ntmps57
  go_wp2_with (go_at_call 80; refine HC.out.mono ?_; rintro e w4 ⟨rfl, hd⟩; have HD := Lib.hid hd; clear hd)
  go_end0
  exact ⟨rfl, HD.out⟩
end Go.Proofs.Ythhfcambdmdgfaa
namespace Go.Proofs.Ythhfcambdmdgfaa
open Go.RowKit Go.Maps Srt
set_option linter.unusedVariables false
set_option linter.unusedSimpArgs false
set_option maxRecDepth 100000 in
set_option maxHeartbeats 4000000 in
theorem insS_nil (W : World) :
    Calls Try.prog 104 #[.slice none 0 0, .int .i64 0, .int .i64 0, .func (.func 58) #[] #[]] W fun e w' => e = .returned (.tuple #[]) ∧ Below W.heap.size W w' := by
  have HB := Lib.hid (Below.refl W.heap.size W)
  go_enter Try.func104, Try.ntmps104
  go_wp2_with fail
  go_loopw [8] (fun s wr => s = .int .i64 1 ∧ Hid (Below W.heap.size W wr)) (fun _ _ => 0)
  case atStart => exact ⟨rfl, HB⟩
  case round =>
    obtain ⟨rfl, HB⟩ := hrel
    go_wp2_with fail
    go_end0
    exact ⟨rfl, HB.out⟩
set_option maxRecDepth 100000 in
set_option maxHeartbeats 4000000 in
theorem stable_nil (W : World) :
    Calls Try.prog 80 #[.slice none 0 0, .int .i64 0, .func (.func 58) #[] #[]] W fun e w' => e = .returned (.tuple #[]) ∧ Below W.heap.size W w' := by
  have HB := Lib.hid (Below.refl W.heap.size W)
  go_enter Try.func80, Try.ntmps80
  go_wp2_with fail
  go_loopw [7, 8] (fun s t wr => s = .int .i64 0 ∧ t = .int .i64 20 ∧ Hid (Below W.heap.size W wr)) (fun _ _ _ => 0)
  case atStart => exact ⟨rfl, rfl, HB⟩
  case round =>
    clear HB
    obtain ⟨rfl, rfl, HB⟩ := hrel
    go_wp2_with (go_at_call 104; refine (insS_nil _).mono ?_; rintro e w2 ⟨rfl, hb⟩; have HB2 := Lib.hid (bl_next HB.out hb); clear hb)
    go_loopw [6] (fun s wr => s = .int .i64 20 ∧ Hid (Below W.heap.size W wr)) (fun _ _ => 0)
    case atStart => exact ⟨rfl, HB2⟩
    case round =>
      obtain ⟨rfl, HB3⟩ := hrel
      go_wp2_with fail
      go_end0
      exact ⟨rfl, HB3.out⟩
set_option maxRecDepth 100000 in
set_option maxHeartbeats 4000000 in
theorem sortS_nil (W : World) :
    Calls Try.prog 57 #[.slice none 0 0, .func (.func 58) #[] #[]] W fun e w' => e = .returned (.tuple #[]) ∧ Below W.heap.size W w' := by
  have HC := Lib.hid (stable_nil W)
  go_enter Try.func57, Try.ntmps57
  go_wp2_with (go_at_call 80; refine HC.out.mono ?_; rintro e w4 ⟨rfl, hd⟩; have HD := Lib.hid hd; clear hd)
  go_end0
  exact ⟨rfl, HD.out⟩
theorem field_objs (w : World) (v0 v1 v2 v3 v4 v5 v6 v7 v8 v9 : Value) (A : Option Addr) (n c : Nat) : (Instr.field 30 (.agg #[v0, v1, v2, v3, v4, v5, v6, v7, v8, v9, .slice A n c]) 3).run Try.prog w = .ok (.slice A n c) w := by kernel_rfl
def zeroO : ObjD := ⟨⟨⟨#[]⟩, ⟨#[]⟩, ⟨#[]⟩⟩, 0, ⟨#[]⟩, false, false, []⟩
theorem zeroO_S (w : World) : ObjS w (.slice none 0 0) zeroO := ⟨⟨sliS_nil w 2, by rintro p ⟨⟩⟩, by decide, by decide⟩
theorem zeroO_small : objSmall zeroO := ⟨⟨by decide, by decide, by decide⟩, by decide, by decide, by rintro p ⟨⟩⟩
def dOf (ys : List OX) : Nat → OX := fun i => ys.getD i (zeroO, .slice none 0 0)
theorem rowF_dOf (ys : List OX) : rowF (dOf ys) ys.length = ys := by
  apply List.ext_getElem?
  intro i
  by_cases hi : i < ys.length
  · rw [rowF_get _ _ hi]; unfold dOf; rw [List.getD_eq_getElem?_getD, List.getElem?_eq_getElem hi]; rfl
  · rw [List.getElem?_eq_none (by rw [rowF_len]; omega), List.getElem?_eq_none (by omega)]
theorem dOf_mem {ys : List OX} {i : Nat} (h : i < ys.length) : dOf ys i ∈ ys := by
  unfold dOf; rw [List.getD_eq_getElem?_getD, List.getElem?_eq_getElem h]; exact List.getElem_mem h
theorem oxs_srt {ys : List OX} (h : ys.Pairwise (fun x y => ltB (kX y) (kX x) = false)) : SrtL kTO (oxs ys) := by
  unfold SrtL oxs; rw [List.pairwise_map]; exact h
theorem oxs_stab {ys zs : List OX} (h : Stab kX ys zs) : Stab kTO (oxs ys) (oxs zs) := by
  intro c
  unfold oxs
  rw [List.filter_map, List.filter_map]
  exact congrArg (List.map (·.1)) (h c)
def SortO (w : World) (l : List ObjD) (e : Ending) (w' : World) : Prop := ∃ v zs, e = .returned v ∧ ObjsF w' w.heap.size v zs ∧ oxs zs = srtX kTO l ∧ Below w.heap.size w w'
theorem sort_step {w W : World} {v : Value} {ys : List OX} {xs : List OX} (hf : ObjsF W w.heap.size v ys) (hb : Below w.heap.size w W) (he : oxs ys = oxs xs) (hs : OSmall (oxs xs)) (hl : xs.length ≤ 1000000) :
    Calls Try.prog 57 #[v, .func (.func 58) #[] #[]] W fun e w' => e = .returned (.tuple #[]) ∧ ∃ zs, ObjsF w' w.heap.size v zs ∧ oxs zs = srtX kTO (oxs xs) ∧ Below w.heap.size w w' := by
  have hlen : ys.length = xs.length := by rw [← oxs_len ys, he, oxs_len]
  have hrow := hf.1
  rcases hf.1.2 with ⟨hv, h0⟩ | ⟨g, cap, cur, hv, hg, _⟩
  · subst hv
    have hy : ys = [] := List.eq_nil_of_length_eq_zero h0
    refine (sortS_nil W).mono fun e w' q => ⟨q.1, ys, hf.below q.2, ?_, hb.trans (q.2.mono hb.size)⟩
    rw [← he, hy]; rfl
  · subst hv
    have S0 : SW W w.heap.size g ys.length cap (dOf ys) W := ⟨by rw [rowF_dOf]; exact hf.1, Kept.refl _ _⟩
    have P0 : AllP ys.length (dOf ys) := fun i hi => by
      have hm := dOf_mem hi
      refine ⟨hs _ (by rw [← he]; exact List.mem_map.2 ⟨_, hm, rfl⟩), ?_⟩
      obtain ⟨g2, e2⟩ := (hf.2 _ hm).form
      exact ⟨_, _, _, e2⟩
    refine (sortS_calls S0 P0 (by omega)).mono fun e w' q => ?_
    obtain ⟨q0, d', q1, q2, q3, q4⟩ := q
    have hst := q1.stab
    rw [rowF_dOf] at hst
    have hX : ∀ k, k = g → w.heap.size ≤ k := fun k e => by rw [e]; exact hg
    refine ⟨q0, rowF d' ys.length, ⟨by rw [rowF_len]; exact q4.row, fun p hp => ?_⟩, ?_, hb.trans (q4.kept.below hb.size hX)⟩
    · exact (hf.2 p (hst.mem.2 hp)).kept q4.kept (fun k e c hc => row_apart hrow k (by rw [e]; rfl) c hc)
    · rw [← he]; exact srtX_of (oxs_srt (srt_row q2)) (oxs_stab hst)
set_option maxRecDepth 100000 in
set_option maxHeartbeats 4000000 in
theorem evsorted_calls (w : World) {ol : Value} {xs : List OX} (hx : ObjsS w ol xs) (hxs : OSmall (oxs xs)) (hl : xs.length ≤ 1000000) :
    Calls Try.prog 19 #[ol] w (SortO w (oxs xs)) := by
  have HC := Lib.hid (evown_calls w 0 (o := zeroO) 0 (zeroO_S w) zeroO_small hx hxs hl)
  have HS := Lib.hid (fun (W : World) (v : Value) (ys : List OX) (hf : ObjsF W w.heap.size v ys) (hb : Below w.heap.size w W) (he : oxs ys = oxs xs) => sort_step hf hb he hxs hl)
  obtain ⟨al, cl, rfl⟩ := hx.form
  clear hx hxs hl
  have HC' : Hid (Calls Try.prog 17 #[.agg #[.int .i64 0, .string ⟨#[]⟩, .string ⟨#[]⟩, .string ⟨#[]⟩, .int .i64 0, .string ⟨#[]⟩, .bool false, .bool false, .slice none 0 0, .int .i64 0, .slice al xs.length cl]] w (fun e w' => ∃ A c ga, e = .returned (.agg #[.int .i64 0, .string ⟨#[]⟩, .string ⟨#[]⟩, .string ⟨#[]⟩, .int .i64 0, .string ⟨#[]⟩, .bool false, .bool false, .slice ga 0 0, .int .i64 0, .slice A xs.length c]) ∧ Hid (∃ ys, ObjsF w' w.heap.size (.slice A xs.length c) ys ∧ oxs ys = oxs xs) ∧ Below w.heap.size w w')) := Lib.hid (HC.out.mono fun e w' q => by
    obtain ⟨x, ov, ys, q1, q2, q3, q4, q5⟩ := q
    obtain ⟨A, c, rfl⟩ := q3.form
    obtain ⟨gx, rfl⟩ := q2.form
    have hlen : ys.length = xs.length := by rw [← oxs_len ys, q4, oxs_len]
    rw [hlen] at q1 q3
    exact ⟨A, c, some ⟨gx, 0, none⟩, q1, Lib.hid ⟨ys, q3, q4⟩, q5⟩)
  clear HC
  have hfld := field_objs
  go_enter Try.func19, Try.ntmps19
  go_upto_region 2 with (go_at_call 17; refine HC'.out.mono ?_; rintro e w2 ⟨A, c, ga, rfl, HY, hb⟩; have HB := Lib.hid hb; clear hb)
  have HC2 : Hid (Calls Try.prog 57 #[.slice A xs.length c, .func (.func 58) #[] #[]] w2 fun e w' => e = .returned (.tuple #[]) ∧ Hid (∃ zs, ObjsF w' w.heap.size (.slice A xs.length c) zs ∧ oxs zs = srtX kTO (oxs xs) ∧ Below w.heap.size w w')) := Lib.hid (by
    obtain ⟨ys, q1, q2⟩ := HY.out
    exact (HS.out _ _ ys q1 HB.out q2).mono fun e w' q => ⟨q.1, Lib.hid q.2⟩)
  clear HY HB HC' HS hfld
  go_wp2_with (go_at_call 57; refine HC2.out.mono ?_; rintro e w3 ⟨rfl, HZ⟩)
  go_ret
  obtain ⟨zs, q1, q2, q3⟩ := HZ.out
  exact ⟨_, zs, rfl, q1, q2, q3⟩
set_option maxRecDepth 100000 in
set_option maxHeartbeats 16000000 in
theorem rsorted_calls (w : World) {ol : Value} {xs : List OX} (hx : ObjsS w ol xs) (hxs : OSmall (oxs xs)) (hl : xs.length ≤ 1000000) :
    Calls Try.prog 20 #[ol] w fun e w' => ∃ v, e = .returned v ∧ w'.ownsRow w.heap.size 27 8 v (srtX kX xs).length (objC (srtX kX xs)) ∧ Below w.heap.size w w' := by
  have HX := Lib.hid hx; have HSM := Lib.hid hxs
  have HOP := Lib.hid (show ∀ p ∈ xs, OP p from fun p hp => ⟨hxs _ (List.mem_map.2 ⟨p, hp, rfl⟩), by obtain ⟨A, c, e⟩ := (hx.2 p hp).1.form; exact ⟨_, _, _, e⟩⟩)
  obtain ⟨al, cl, rfl⟩ := hx.form
  clear hx hxs
  have HNIL := Lib.hid (objsF_nil w w.heap.size).1
  have HB0 := Lib.hid (Below.refl w.heap.size w)
  go_enter Try.func20, Try.ntmps20
  go_wp2_with fail
  go_loopw [3, 4] (fun s i wr => ∃ (k : Nat) (A : Option Addr) (c : Nat), i = .int .i64 (k : Int) ∧ k ≤ xs.length ∧ s = .slice A k c ∧ Hid (wr.ownsRow w.heap.size 27 8 (.slice A k c) (srtX kX (xs.take k)).length (objC (srtX kX (xs.take k)))) ∧ Hid (Below w.heap.size w wr)) (fun _ i _ => xs.length - (intOf i).toNat)
  case atStart => exact ⟨0, none, 0, rfl, Nat.zero_le _, rfl, HNIL, HB0⟩
  case round =>
    clear HNIL HB0
    obtain ⟨k, A, c, rfl, hk, rfl, HR, HB⟩ := hrel
    by_cases hkl : k < xs.length
    · have hkI : (k : Int) < xs.length := by omega
      obtain ⟨b, of, c2, he, q, s⟩ := HX.out.at' hkl
      cases he
      have HPX := Lib.hid (HOP.out _ (List.getElem_mem hkl))
      have HT := Lib.hid (show srtX kX (xs.take (k + 1)) = insX kX (xs[k]'hkl) (srtX kX (xs.take k)) by rw [List.take_succ_eq_append_getElem hkl, srtX_snoc])
      have HOO := Lib.hid (show ∀ p ∈ srtX kX (xs.take k), OP p from fun p hp => HOP.out p (List.mem_of_mem_take (srtX_mem.1 hp)))
      have HOL := Lib.hid (show (srtX kX (xs.take k)).length = k by rw [srtX_len, List.length_take]; omega)
      generalize srtX kX (xs.take k) = o at HR HT HOO HOL
      generalize xs[k]'hkl = x at q s HPX HT
      obtain ⟨x, sx⟩ := x
      obtain ⟨zx, ax, nx, cx, ex⟩ := HPX.out
      simp only at ex zx
      subst ex
      obtain ⟨⟨zx1, zx2, zx3⟩, _⟩ := zx
      obtain ⟨V, rfl⟩ : ∃ V : World, V = wr := ⟨_, rfl⟩
      have QX := Lib.hid (q.below HB.out)
      clear q s
      have HNIL := Lib.hid (objsF_nil V V.heap.size).1
      have HV0 := Lib.hid (Below.refl V.heap.size V)
      go_wp2_with fail
      go_loopw [5, 6, 7] (fun sn sd sk wr => ∃ (j : Nat) (dn : Bool) (A' : Option Addr) (m c' : Nat), sk = .int .i64 (j : Int) ∧ sd = .bool dn ∧ sn = .slice A' m c' ∧ j ≤ k ∧ m ≤ j + 1 ∧ Hid (dn = (insTo kX (x, Value.slice ax nx cx) o j).2 ∧ m = (insTo kX (x, Value.slice ax nx cx) o j).1.length ∧ wr.ownsRow V.heap.size 27 8 (.slice A' m c') m (objC (insTo kX (x, Value.slice ax nx cx) o j).1)) ∧ Hid (Below V.heap.size V wr)) (fun _ _ sk _ => k - (intOf sk).toNat)
      case atStart => exact ⟨0, false, none, 0, 0, rfl, rfl, rfl, Nat.zero_le _, by omega, Lib.hid ⟨rfl, rfl, HNIL.out⟩, HV0⟩
      case round =>
        clear HNIL HV0
        obtain ⟨j, dn, A', m, c', rfl, rfl, rfl, hj, hm, HQ, HV⟩ := hrel
        by_cases hjk : j < k
        · have hjI : (j : Int) < k := by omega
          have hjo : j < o.length := by rw [HOL.out]; exact hjk
          have HST := Lib.hid (insTo_succ (t := kX) (x := (x, Value.slice ax nx cx)) hjo)
          have HPY := Lib.hid (HOO.out _ (List.getElem_mem hjo))
          obtain ⟨y, hy⟩ : ∃ y, o[j]'hjo = y := ⟨_, rfl⟩
          rw [hy] at HST HPY
          obtain ⟨gb, gc, hgv⟩ := rw_pos HR.out (by rw [HOL.out]; omega)
          have hgv2 : A = some ⟨gb, 0, none⟩ := by cases hgv; rfl
          subst hgv2
          have HCY : Hid (ObjAt V gb (j * 8) y) := Lib.hid (by
            have z := HR.out
            rw [HOL.out] at z
            have hc := (rw_cells z).2.2.1
            have g8 : ∀ i, i < 8 → ∀ u, (objX y)[i]? = some u → V.cell? ⟨gb, j * 8 + i, none⟩ = some u := fun i hi u hu => by
              have e := objC_get o j hjo i hi
              rw [hy, hu] at e
              have := hc (j * 8 + i) (by omega)
              rw [List.getD_eq_getElem?_getD, e] at this
              exact this
            exact ⟨g8 0 (by omega) _ rfl, g8 1 (by omega) _ rfl, g8 2 (by omega) _ rfl, g8 3 (by omega) _ rfl, g8 4 (by omega) _ rfl, g8 5 (by omega) _ rfl, g8 6 (by omega) _ rfl, g8 7 (by omega) _ rfl⟩)
          clear hy hgv
          obtain ⟨y, sy⟩ := y
          obtain ⟨zy, ay, ny, cy, ey⟩ := HPY.out
          simp only at ey zy
          subst ey
          obtain ⟨⟨zy1, zy2, zy3⟩, _⟩ := zy
          obtain ⟨U, rfl⟩ : ∃ U : World, U = wr := ⟨_, rfl⟩
          have p1 := QX.out.below HV.out; have p2 := HCY.out.below HV.out
          have a0 := p1.c0; have a1 := p1.c1; have a2 := p1.c2; have a3 := p1.c3; have a4 := p1.c4; have a5 := p1.c5; have a6 := p1.c6; have a7 := p1.c7
          have b0 := p2.c0; have b1 := p2.c1; have b2 := p2.c2; have b3 := p2.c3; have b4 := p2.c4; have b5 := p2.c5; have b6 := p2.c6; have b7 := p2.c7
          simp only at a0 a1 a2 a3 a4 a5 a6 a7 b0 b1 b2 b3 b4 b5 b6 b7
          clear p1 p2
          have hB := Below.refl U.heap.size U
          have hml : m ≤ 2000000 := by omega
          obtain ⟨lt, hlt⟩ : ∃ l, ltB (kX (x, Value.slice ax nx cx)) (kX (y, Value.slice ay ny cy)) = l := ⟨_, rfl⟩
          have HLT := Lib.hid (show Op.bytesLess (keyText x.key.kind x.key.space x.key.name).toList (keyText y.key.kind y.key.space y.key.name).toList = lt from hlt)
          rw [hlt] at HST
          clear hlt
          go_upto_region 10 with fail
          have hB := hB.drew
          refine region_seq (fun w' => Below U.heap.size U w') [(0, true), (1, true), (2, true), (3, true), (4, true), (5, true), (6, true), (7, true), (8, true), (9, true), (10, false), (11, true)] (by kernel_rfl) (by kernel_rfl) (fun _ _ _ _ h => h) hB ?_
          try generalize World.drew _ = wS at hB ⊢
          refine seq_take (v := ?_) (a' := ?_) (some 21) rfl rfl (by rfl) ?_ ?_ ?_
          rotate_left; rotate_left
          · intro w' hS; go_simp; with_reducible rfl
          · simp only [Act.put, List.setIfInBounds_toArray, List.set_cons_zero, List.set_cons_succ]; rfl
          refine seq_take (v := ?_) (a' := ?_) (some 22) rfl rfl (by rfl) ?_ ?_ ?_
          rotate_left; rotate_left
          · intro w' hS; go_simp; with_reducible rfl
          · simp only [Act.put, List.setIfInBounds_toArray, List.set_cons_zero, List.set_cons_succ]; rfl
          refine seq_take (v := ?_) (a' := ?_) (some 23) rfl rfl (by rfl) ?_ ?_ ?_
          rotate_left; rotate_left
          · intro w' hS; go_simp; with_reducible rfl
          · simp only [Act.put, List.setIfInBounds_toArray, List.set_cons_zero, List.set_cons_succ]; rfl
          refine seq_take (v := ?_) (a' := ?_) (some 24) rfl rfl (by rfl) ?_ ?_ ?_
          rotate_left; rotate_left
          · intro w' hS; go_simp; with_reducible rfl
          · simp only [Act.put, List.setIfInBounds_toArray, List.set_cons_zero, List.set_cons_succ]; rfl
          refine seq_take (v := ?_) (a' := ?_) (some 25) rfl rfl (by rfl) ?_ ?_ ?_
          rotate_left; rotate_left
          · intro w' hS; have t0 := cb hS a0; have t1 := cb hS a1; have t2 := cb hS a2; have s0 := cb hS b0; have s1 := cb hS b1; have s2 := cb hS b2; go_simp; with_reducible rfl
          · simp only [Act.put, List.setIfInBounds_toArray, List.set_cons_zero, List.set_cons_succ]; rfl
          refine seq_take (v := ?_) (a' := ?_) (some 26) rfl rfl (by rfl) ?_ ?_ ?_
          rotate_left; rotate_left
          · intro w' hS; go_simp; with_reducible rfl
          · simp only [Act.put, List.setIfInBounds_toArray, List.set_cons_zero, List.set_cons_succ]; rfl
          refine seq_take (v := ?_) (a' := ?_) (some 27) rfl rfl (by rfl) ?_ ?_ ?_
          rotate_left; rotate_left
          · intro w' hS; go_simp; with_reducible rfl
          · simp only [Act.put, List.setIfInBounds_toArray, List.set_cons_zero, List.set_cons_succ]; rfl
          refine seq_take (v := ?_) (a' := ?_) (some 28) rfl rfl (by rfl) ?_ ?_ ?_
          rotate_left; rotate_left
          · intro w' hS; go_simp; with_reducible rfl
          · simp only [Act.put, List.setIfInBounds_toArray, List.set_cons_zero, List.set_cons_succ]; rfl
          refine seq_take (v := ?_) (a' := ?_) (some 29) rfl rfl (by rfl) ?_ ?_ ?_
          rotate_left; rotate_left
          · intro w' hS; go_simp; with_reducible rfl
          · simp only [Act.put, List.setIfInBounds_toArray, List.set_cons_zero, List.set_cons_succ]; rfl
          refine seq_take (v := ?_) (a' := ?_) (some 30) rfl rfl (by rfl) ?_ ?_ ?_
          rotate_left; rotate_left
          · intro w' hS; have t0 := cb hS a0; have t1 := cb hS a1; have t2 := cb hS a2; have s0 := cb hS b0; have s1 := cb hS b1; have s2 := cb hS b2; go_simp; with_reducible rfl
          · simp only [Act.put, List.setIfInBounds_toArray, List.set_cons_zero, List.set_cons_succ]; rfl
          refine seq_call (args := ?_) Try.func59 (by kernel_rfl) rfl (some 31) rfl rfl (by rfl) rfl ?_ ?_
          rotate_left
          · simp only [List.map_toArray, List.map_cons, List.map_nil]; go_simp; rfl
          with_reducible refine (refLess_calls _ _ _ _ _ _ _ (by omega) (by omega)).mono ?_
          rintro e w' ⟨rfl, hb⟩
          rw [HLT.out]
          refine ⟨_, rfl, bl_next (by repeat (first | with_reducible exact hB | refine Below.alloc ?_ (by have := hB.size; simp; omega) _ | refine bl_dN ?_ _ | refine Below.drew ?_ | refine Below.setCell ?_ (by have := hB.size; simp; omega) _)) hb, ?_⟩
          have hB := bl_next (by repeat (first | with_reducible exact hB | refine Below.alloc ?_ (by have := hB.size; simp; omega) _ | refine bl_dN ?_ _ | refine Below.drew ?_ | refine Below.setCell ?_ (by have := hB.size; simp; omega) _)) hb; clear hb
          simp only [Act.put, List.setIfInBounds_toArray, List.set_cons_zero, List.set_cons_succ]
          refine seq_take (v := ?_) (a' := ?_) (some 8) rfl rfl (by rfl) ?_ ?_ ?_
          rotate_left; rotate_left
          · intro w' hS; go_simp; with_reducible rfl
          · simp only [Act.put, List.setIfInBounds_toArray, List.set_cons_zero, List.set_cons_succ]; rfl
          refine seq_done ?_
          have HQ2 := Lib.hid (rw_below HQ.out.2.2 hB)
          have HV2 := Lib.hid (bl_next HV.out hB)
          have a0 := cb hB a0; have a1 := cb hB a1; have a2 := cb hB a2; have a3 := cb hB a3; have a4 := cb hB a4; have a5 := cb hB a5; have a6 := cb hB a6; have a7 := cb hB a7; have b0 := cb hB b0; have b1 := cb hB b1; have b2 := cb hB b2; have b3 := cb hB b3; have b4 := cb hB b4; have b5 := cb hB b5; have b6 := cb hB b6; have b7 := cb hB b7
          obtain ⟨U2, rfl⟩ : ∃ U2 : World, U2 = w' := ⟨_, rfl⟩
          have HL := Lib.hid (And.intro HQ.out.1 HQ.out.2.1)
          clear hB HQ HV
          obtain ⟨nl, hnl⟩ : ∃ nl, (insTo kX (x, Value.slice ax nx cx) o j).1 = nl := ⟨_, rfl⟩
          obtain ⟨nb, hnb⟩ : ∃ nb, (insTo kX (x, Value.slice ax nx cx) o j).2 = nb := ⟨_, rfl⟩
          have HLEN := Lib.hid (insTo_len (t := kX) (x, Value.slice ax nx cx) o j (by omega))
          rw [hnl, hnb] at HLEN
          rw [hnl] at HQ2
          rw [hnl, hnb] at HST HL
          obtain ⟨hL1, hL2⟩ := HL.out
          subst hL1; subst hL2
          clear hnl hnb HL
          cases dn with
          | true =>
            have HEND := Lib.hid (show insTo kX (x, Value.slice ax nx cx) o (j + 1) = (nl ++ [(y, Value.slice ay ny cy)], true) by rw [HST.out]; rfl)
            go_wp2_with (at_builtin; refine app_obj rfl (.tmp 44) (.tmp 49) rfl V.heap.size _ (.slice A' nl.length c') nl (y, .slice ay ny cy) _ _ _ rfl rfl HQ2.out 1 rfl HV2.out.size (by omega) ?_; intro g3 cap w3 hown' hk'; have HN := Lib.hid hown'; have HB3 := Lib.hid (HV2.out.trans (row_below HQ2.out hk' HV2.out.size)); clear hown' hk')
            go_roundw
            case rel => exact ⟨j + 1, true, _, _, cap, by simp, rfl, rfl, by omega, by omega, Lib.hid ⟨by rw [HEND.out], by rw [HEND.out]; simp, by rw [HEND.out]; have z := HN.out; simpa using z⟩, HB3⟩
            case measure => simp [intOf]; omega
          | false =>
            cases lt with
            | false =>
              have HEND := Lib.hid (show insTo kX (x, Value.slice ax nx cx) o (j + 1) = (nl ++ [(y, Value.slice ay ny cy)], false) by rw [HST.out]; rfl)
              go_wp2_with (at_builtin; refine app_obj rfl (.tmp 44) (.tmp 49) rfl V.heap.size _ (.slice A' nl.length c') nl (y, .slice ay ny cy) _ _ _ rfl rfl HQ2.out 1 rfl HV2.out.size (by omega) ?_; intro g3 cap w3 hown' hk'; have HN := Lib.hid hown'; have HB3 := Lib.hid (HV2.out.trans (row_below HQ2.out hk' HV2.out.size)); clear hown' hk')
              go_roundw
              case rel => exact ⟨j + 1, false, _, _, cap, by simp, rfl, rfl, by omega, by omega, Lib.hid ⟨by rw [HEND.out], by rw [HEND.out]; simp, by rw [HEND.out]; have z := HN.out; simpa using z⟩, HB3⟩
              case measure => simp [intOf]; omega
            | true =>
              have HEND := Lib.hid (show insTo kX (x, Value.slice ax nx cx) o (j + 1) = (nl ++ [(x, Value.slice ax nx cx), (y, Value.slice ay ny cy)], true) by rw [HST.out]; rfl)
              go_upto_region 13 with (at_builtin; refine app_obj rfl (.tmp 37) (.tmp 42) rfl V.heap.size _ (.slice A' nl.length c') nl (x, .slice ax nx cx) _ _ _ rfl rfl HQ2.out 1 rfl HV2.out.size (by omega) ?_; intro g3 cap w3 hown' hk'; have HN := Lib.hid hown'; have HB3 := Lib.hid (HV2.out.trans (row_below HQ2.out hk' HV2.out.size)); clear hown' hk'; have p2 := HCY.out.below HB3.out; have b0 := p2.c0; have b1 := p2.c1; have b2 := p2.c2; have b3 := p2.c3; have b4 := p2.c4; have b5 := p2.c5; have b6 := p2.c6; have b7 := p2.c7; simp only at b0 b1 b2 b3 b4 b5 b6 b7; clear p2)
              go_wp2_with (at_builtin; refine app_obj rfl (.tmp 44) (.tmp 49) rfl V.heap.size _ (.slice (some ⟨g3, 0, none⟩) (nl.length + 1) cap) (nl ++ [(x, .slice ax nx cx)]) (y, .slice ay ny cy) _ _ _ rfl rfl HN.out 1 rfl HB3.out.size (by simp; omega) ?_; intro g4 cap4 w4 hown' hk'; have HN4 := Lib.hid hown'; have HB4 := Lib.hid (HB3.out.trans (row_below HN.out hk' HB3.out.size)); clear hown' hk')
              go_roundw
              case rel => exact ⟨j + 1, true, _, _, cap4, by simp, rfl, rfl, by omega, (by have z := HLEN.out; simp at z ⊢; omega), Lib.hid ⟨by rw [HEND.out], by rw [HEND.out]; simp, by rw [HEND.out]; have z := HN4.out; simpa using z⟩, HB4⟩
              case measure => simp [intOf]; omega
        · obtain rfl : j = k := by omega
          have HEND := Lib.hid (insTo_end (t := kX) (x, Value.slice ax nx cx) o)
          rw [HOL.out] at HEND
          have HL := Lib.hid (And.intro HQ.out.1 HQ.out.2.1)
          have HQ2 := Lib.hid HQ.out.2.2
          clear HQ
          obtain ⟨nl, hnl⟩ : ∃ nl, (insTo kX (x, Value.slice ax nx cx) o j).1 = nl := ⟨_, rfl⟩
          obtain ⟨nb, hnb⟩ : ∃ nb, (insTo kX (x, Value.slice ax nx cx) o j).2 = nb := ⟨_, rfl⟩
          rw [hnl] at HQ2
          rw [hnl, hnb] at HEND HL
          obtain ⟨hL1, hL2⟩ := HL.out
          subst hL1; subst hL2
          clear hnl hnb HL
          obtain ⟨U, rfl⟩ : ∃ U : World, U = wr := ⟨_, rfl⟩
          have p1 := QX.out.below HV.out
          have a0 := p1.c0; have a1 := p1.c1; have a2 := p1.c2; have a3 := p1.c3; have a4 := p1.c4; have a5 := p1.c5; have a6 := p1.c6; have a7 := p1.c7
          simp only at a0 a1 a2 a3 a4 a5 a6 a7
          clear p1
          cases dn with
          | true =>
            have HFIN := Lib.hid (show srtX kX (xs.take (j + 1)) = nl by rw [HT.out, HEND.out]; rfl)
            have HNL := Lib.hid (show nl.length = j + 1 by rw [← HFIN.out, srtX_len, List.length_take]; omega)
            go_wp2_with fail
            go_roundw
            case rel => exact ⟨j + 1, A', c', by simp, by omega, by rw [HNL.out], Lib.hid (by rw [HFIN.out, ← HNL.out]; exact rw_mono HQ2.out HB.out.size), Lib.hid (HB.out.trans (HV.out.mono HB.out.size))⟩
            case measure => simp [intOf]; omega
          | false =>
            have HFIN := Lib.hid (show srtX kX (xs.take (j + 1)) = nl ++ [(x, Value.slice ax nx cx)] by rw [HT.out, HEND.out]; rfl)
            have HNL := Lib.hid (show nl.length = j by have z := congrArg List.length HFIN.out; rw [srtX_len, List.length_take, List.length_append] at z; simp at z; omega)
            have hml : nl.length ≤ 2000000 := by omega
            go_wp2_with (at_builtin; refine app_obj rfl (.tmp 53) (.tmp 58) rfl V.heap.size _ (.slice A' nl.length c') nl (x, .slice ax nx cx) _ _ _ rfl rfl HQ2.out 1 rfl HV.out.size (by omega) ?_; intro g3 cap w3 hown' hk'; have HN := Lib.hid hown'; have HB3 := Lib.hid (HV.out.trans (row_below HQ2.out hk' HV.out.size)); clear hown' hk')
            go_roundw
            case rel => exact ⟨j + 1, _, cap, by simp, by omega, by rw [HNL.out], Lib.hid (by rw [HFIN.out, ← HNL.out]; exact rw_mono HN.out HB.out.size), Lib.hid (HB.out.trans (HB3.out.mono HB.out.size))⟩
            case measure => simp [intOf]; omega
    · obtain rfl : k = xs.length := by omega
      have hr := HR.out
      rw [List.take_length] at hr
      have HR2 := Lib.hid hr
      clear hr
      go_wp2_with fail
      go_ret
      exact ⟨_, rfl, HR2.out, HB.out⟩
end Go.Proofs.Ythhfcambdmdgfaa
namespace Go.Proofs.Ythhfcambdmdgfaa
open Go.RowKit Go.Maps
set_option linter.unusedVariables false
set_option linter.unusedSimpArgs false
theorem obj_cells {w : World} {ok : Nat → Prop} {o : ObjD} {cs : List Value} (h : kObj.K w ok o cs) : ∃ sl, cs = objX (o, sl) ∧ ObjS w sl o := by
  obtain ⟨sl, e, hs⟩ := obj_of h
  refine ⟨sl, ?_, hs⟩
  unfold objV at e
  have := Value.agg.inj e
  have h2 := congrArg Array.toList this
  simpa [objX] using h2
end Go.Proofs.Ythhfcambdmdgfaa
namespace Go.Proofs.Ythhfcambdmdgfaa
open Go.RowKit Go.Maps
set_option linter.unusedVariables false
set_option linter.unusedSimpArgs false
abbrev KS := {k : KeyD // keySmall k}
def keyV (k : KeyD) : Value := .agg #[.string k.kind, .string k.space, .string k.name]
theorem laidOutP : laidOutB Try.prog = true := by kernel_rfl
theorem kS_law : Go.WideMaps.KeyLaw Try.prog 24 := deep_law_laid laidOutP (m := 2) (by omega) (of_decide_eq_true (by kernel_rfl)) (by kernel_rfl) (by kernel_rfl)
theorem kS_keyed : Keyed Try.prog 24 := Keyed.of_law kS_law
theorem kS_struct : ∃ fs, Try.prog.underlying 24 = some (.struct fs) := ⟨_, Try.underlying24⟩
theorem kS_size : ∃ n, Try.prog.types.size = n + 1 := ⟨Try.prog.types.size - 1, by have : 0 < Try.prog.types.size := of_decide_eq_true (by kernel_rfl); omega⟩
theorem kS_formed (k : KeyD) : (keyV k).formed Try.prog 24 = true := by
  obtain ⟨fs, hu⟩ := kS_struct
  have hc : Try.prog.cellsOf 24 = 3 := by kernel_rfl
  simp [keyV, Value.formed, hu, hc]
theorem kS_some {k : KeyD} (h : keySmall k) : ∃ l, keyOf Try.prog 24 (keyV k) = some l := by
  have hk : Try.prog.keyType 24 = true := by kernel_rfl
  have hc : Try.prog.cellsOf 24 = 3 := by kernel_rfl
  have hs : Try.prog.cellsOf 9 = 1 := by kernel_rfl
  obtain ⟨n, hn⟩ := kS_size
  obtain ⟨h1, h2, h3⟩ := h
  have m1 : k.kind.size ≤ maxLen := by unfold maxLen; omega
  have m2 : k.space.size ≤ maxLen := by unfold maxLen; omega
  have m3 : k.name.size ≤ maxLen := by unfold maxLen; omega
  unfold keyOf
  rw [Try.underlying24]
  simp only [hk, kS_formed, Bool.and_self, if_true]
  rw [hn]
  simp [Program.keyLits, Try.underlying24, Try.underlying9, keyV, Value.cells, hc, hs, m1, m2, m3]
noncomputable def kL (k : KS) : Lit := Classical.choose (kS_some k.2)
theorem kL_key (k : KS) : keyOf Try.prog 24 (keyV k.1) = some (kL k) := Classical.choose_spec (kS_some k.2)
theorem keyV_inj {a b : KeyD} (h : keyV a = keyV b) : a = b := by
  unfold keyV at h
  have h1 := congrArg Array.toList (Value.agg.inj h)
  simp at h1
  exact keyD_ext h1.1 h1.2.1 h1.2.2
noncomputable def ltKS (a b : KS) : Bool := (kL a).before (kL b)
theorem kL_lit : KeyLit kL ltKS where
  same := fun a b => by
    by_cases h : a = b
    · subst h; rw [decide_eq_true rfl]; exact Go.WideAt.sameKey_self (kS_keyed.key (kL_key a))
    · rw [decide_eq_false h]
      cases q : (kL a).sameKey (kL b) with
      | false => rfl
      | true =>
        have e := Go.WideAt.sameKey_eq q
        have h1 := kL_key a
        rw [e] at h1
        exact absurd (Subtype.ext (keyV_inj (kS_keyed.inj h1 (kL_key b)))) h
  before := fun a b => rfl
/-- A map of objects. -/
def OMap (w : World) (mb : Nat) (M : AM KS OX) : Prop := w.ownsMap Try.prog 24 RV mb M.length (dmA kL (fun p => Value.agg (objX p).toArray) M)
theorem zero_obj (w : World) : (zeroValue 27).run Try.prog w = .ok (.agg #[.string ⟨#[]⟩, .string ⟨#[]⟩, .string ⟨#[]⟩, .int .i64 0, .string ⟨#[]⟩, .bool false, .bool false, .slice none 0 0]) w := by kernel_rfl
section
variable {w w' : World} {mb : Nat} {M : AM KS OX}
theorem OMap.kept {X : Nat → Prop} (h : OMap w mb M) (hk : Kept X w w') (hx : ¬ X mb) : OMap w' mb M := mv_kept h hk hx
theorem OMap.below (h : OMap w mb M) (hb : Below w.heap.size w w') : OMap w' mb M := mv_below h hb
theorem omap_look (h : OMap w mb M) (k : KS) :
    (Instr.lookup 92 (.map (some mb)) (.agg #[.string k.1.kind, .string k.1.space, .string k.1.name]) true).run Try.prog w = .ok (.tuple #[((getA M k).map fun p => Value.agg (objX p).toArray).getD (.agg #[.string ⟨#[]⟩, .string ⟨#[]⟩, .string ⟨#[]⟩, .int .i64 0, .string ⟨#[]⟩, .bool false, .bool false, .slice none 0 0]), .bool (hasA M k)]) w := by
  have q := mv_look_ok h kS_keyed Try.underlying92 (zero_obj w) (kL_key k)
  rw [val_dmA kL_lit, has_dmA kL_lit] at q
  exact q
theorem omap_put {k : KS} {p : OX} (h : w.ownsMap Try.prog 24 RV mb (M.length + 1) ((dmA kL (fun p => Value.agg (objX p).toArray) M).put (kL k) (.held (.agg (objX p).toArray)))) : OMap w mb (putA ltKS M k p) := by
  rw [put_dmA kL_lit] at h
  have := mv_tight h
  rw [size_dmA kL_lit] at this
  exact this
theorem omap_len (h : OMap w mb M) (ty : TypeId) : (Builtin.len_ #[92] ty #[.map (some mb)]).run Try.prog w = .ok (.int .i64 M.length) w := by
  have := World.ownsMap.len h Try.underlying92 ty
  rw [size_dmA kL_lit] at this
  exact this
end
end Go.Proofs.Ythhfcambdmdgfaa
namespace Go.Proofs.Ythhfcambdmdgfaa
open Go.RowKit Go.Maps
set_option linter.unusedVariables false
set_option linter.unusedSimpArgs false
def aO7 : ObjD := ⟨⟨⟨#[112, 111, 100]⟩, ⟨#[97]⟩, ⟨#[120]⟩⟩, 3, ⟨#[]⟩, false, false, []⟩
def bO7 : ObjD := ⟨⟨⟨#[112, 111, 100]⟩, ⟨#[97]⟩, ⟨#[98]⟩⟩, 4, ⟨#[]⟩, false, false, []⟩
theorem s7 : sameE ⟨2, zeroO, 4, [aO7, bO7]⟩ ⟨2, zeroO, 4, [bO7, aO7]⟩ = false := by kernel_rfl
theorem objsS_nil (w : World) : ObjsS w (.slice none 0 0) [] := ⟨sliS_nil w 8, by rintro p ⟨⟩⟩
end Go.Proofs.Ythhfcambdmdgfaa
namespace Go.Proofs.Ythhfcambdmdgfaa
open Go.RowKit Go.Maps
set_option linter.unusedVariables false
set_option linter.unusedSimpArgs false
abbrev LX := Int × OX
def lgX (e : LX) : List Value := [.int .i64 e.1] ++ objX e.2 ++ [.int .i64 0, .slice none 0 0]
def lgC (L : List LX) : List Value := L.flatMap lgX
theorem lgC_app (L : List LX) (e : LX) : lgC (L ++ [e]) = lgC L ++ lgX e := by simp [lgC]
structure StoreAt (w : World) (base sp mb : Nat) (ver : Int) (M : AM KS OX) (lv : Value) (L : List LX) : Prop where
  cell : w.heap[sp]? = some (.cells #[.map (some mb), .int .i64 ver, lv] 94)
  map : OMap w mb M
  row : w.ownsRow base 30 11 lv L.length (lgC L)
  resM : ∀ q ∈ M, ResF w base q.2.2 q.2.1.charge ∧ oIn q.2.1 ∧ keySmall q.2.1.key ∧ q.1.1 = q.2.1.key
  resL : ∀ e ∈ L, ResF w base e.2.2 e.2.1.charge ∧ oIn e.2.1
  ge : base ≤ sp ∧ base ≤ mb
section
variable {w w' : World} {base sp mb : Nat} {ver : Int} {M : AM KS OX} {lv : Value} {L : List LX}
theorem StoreAt.below (h : StoreAt w base sp mb ver M lv L) (hb : Below w.heap.size w w') : StoreAt w' base sp mb ver M lv L :=
  ⟨blk_below h.cell hb, h.map.below hb, rw_below h.row hb, fun q hq => ⟨(h.resM q hq).1.below hb, (h.resM q hq).2⟩, fun e he => ⟨(h.resL e he).1.below hb, (h.resL e he).2⟩, h.ge⟩
theorem StoreAt.ptr (h : StoreAt w base sp mb ver M lv L) : sp < w.heap.size := blk_lt h.cell
end
set_option maxRecDepth 100000 in
set_option maxHeartbeats 4000000 in
theorem snew_calls (w : World) : Calls Try.prog 28 #[] w fun e w' => ∃ sp mb, e = .returned (.pointer (some ⟨sp, 0, none⟩)) ∧ StoreAt w' w.heap.size sp mb 0 [] (.slice none 0 0) [] ∧ Below w.heap.size w w' := by
  have hmm := @run_makeMap Try.prog
  have HO := Lib.hid (World.ownsMap_made w Try.prog 24 RV)
  go_enter Try.func28, Try.ntmps28
  go_wp2_with fail
  go_ret
  refine ⟨w.heap.size + 1, w.heap.size, rfl, ⟨?_, ?_, ⟨rfl, .inl ⟨rfl, rfl⟩⟩, by rintro q ⟨⟩, by rintro q ⟨⟩, by omega, Nat.le_refl _⟩, ((Below.refl _ _).alloc (Nat.le_refl _) _).alloc (by simp) _⟩
  · exact blk_new1 w _ _
  · exact OMap.below (M := []) (mv_tight HO.out) ((Below.refl _ _).alloc (Nat.le_refl _) _)
set_option maxRecDepth 100000 in
set_option maxHeartbeats 4000000 in
theorem sversion_calls (w : World) {base sp mb : Nat} {ver : Int} {M : AM KS OX} {lv : Value} {L : List LX} (h : StoreAt w base sp mb ver M lv L) :
    Calls Try.prog 36 #[.pointer (some ⟨sp, 0, none⟩)] w fun e w' => e = .returned (.int .i64 ver) ∧ Below w.heap.size w w' := by
  have c1 : w.cell? ⟨sp, 1, none⟩ = some (.int .i64 ver) := blk_cell h.cell 1
  clear h
  have hB := Below.refl w.heap.size w
  go_enter Try.func36, Try.ntmps36
  go_wp2_with fail
  go_ret
  exact ⟨rfl, hB⟩
set_option maxRecDepth 100000 in
set_option maxHeartbeats 4000000 in
theorem sversion_nil (w : World) : Calls Try.prog 36 #[.pointer none] w fun e w' => e = .returned (.int .i64 0) ∧ Below w.heap.size w w' := by
  have hB := Below.refl w.heap.size w
  go_enter Try.func36, Try.ntmps36
  go_wp2_with fail
  go_ret
  exact ⟨rfl, hB⟩
set_option maxRecDepth 100000 in
set_option maxHeartbeats 4000000 in
theorem slog_nil (w : World) : Calls Try.prog 38 #[.pointer none] w fun e w' => e = .returned (.slice none 0 0) ∧ Below w.heap.size w w' := by
  have hB := Below.refl w.heap.size w
  go_enter Try.func38, Try.ntmps38
  go_wp2_with fail
  go_ret
  exact ⟨rfl, hB⟩
end Go.Proofs.Ythhfcambdmdgfaa
namespace Go.Proofs.Ythhfcambdmdgfaa
open Go.RowKit Go.Maps
set_option linter.unusedVariables false
set_option linter.unusedSimpArgs false
theorem getA_mem {κ β : Type} [DecidableEq κ] {M : AM κ β} {k : κ} {v : β} (h : getA M k = some v) : (k, v) ∈ M := by
  unfold getA at h
  cases q : M.find? (fun p => decide (p.1 = k)) with
  | none => rw [q] at h; cases h
  | some p =>
    rw [q] at h
    have h1 := List.find?_some q
    have h2 := List.mem_of_find?_eq_some q
    obtain ⟨a, b⟩ := p
    simp only [decide_eq_true_eq] at h1
    cases h
    rw [← h1]; exact h2
def objOf (M : AM KS OX) (k : KS) : ObjD := ((getA M k).map (·.1)).getD zeroO
def GetOut (w : World) (o : ObjD) (is : Bool) (e : Ending) (w' : World) : Prop := ∃ x, e = .returned (.tuple #[objV o x, .bool is]) ∧ ResF w' w.heap.size x o.charge ∧ Below w.heap.size w w'
set_option maxRecDepth 100000 in
set_option maxHeartbeats 8000000 in
theorem sget_calls (w : World) {base sp mb : Nat} {ver : Int} {M : AM KS OX} {lv : Value} {L : List LX} (h : StoreAt w base sp mb ver M lv L) (hS : ∀ q ∈ M, objSmall q.2.1) (k : KS) :
    Calls Try.prog 32 #[.pointer (some ⟨sp, 0, none⟩), .agg #[.string k.1.kind, .string k.1.space, .string k.1.name]] w (GetOut w (objOf M k) (hasA M k)) := by
  have hsp := h.ptr
  have HG := Lib.hid (fun p (e : getA M k = some p) => And.intro (h.resM _ (getA_mem e)) (hS _ (getA_mem e)))
  have HLK := Lib.hid (fun (U : World) (hb : Below w.heap.size w U) => omap_look (h.map.below hb) k)
  have m0 : w.cell? ⟨sp, 0, none⟩ = some (.map (some mb)) := blk_cell h.cell 0
  clear h hS
  go_enter Try.func32, Try.ntmps32
  go_upto_region 3 with fail
  first | with_reducible refine name_wp ?_ | with_reducible refine name_calls ?_
  intro W hWeq
  have g0 : W.heap[w.heap.size]? = some (.cells #[.string k.1.kind, .string k.1.space, .string k.1.name] 24) := by rw [hWeq]; repeat (first | (with_reducible exact blk_newAt _ _ (by simp)) | with_reducible refine blk_drew ?_ | with_reducible refine blk_dN ?_ _ | with_reducible refine blk_old ?_ _)
  have g1 : W.heap[w.heap.size + 1]? = some (.cells #[.string ⟨#[]⟩, .string ⟨#[]⟩, .string ⟨#[]⟩, .int .i64 0, .string ⟨#[]⟩, .bool false, .bool false, .slice none 0 0] 27) := by rw [hWeq]; repeat (first | (with_reducible exact blk_newAt _ _ (by simp)) | with_reducible refine blk_drew ?_ | with_reducible refine blk_dN ?_ _ | with_reducible refine blk_old ?_ _)
  have hw : Below w.heap.size w W := by rw [hWeq]; repeat (first | with_reducible exact Below.refl _ _ | with_reducible refine Below.drew ?_ | with_reducible refine bl_dN ?_ _ | with_reducible refine Below.alloc ?_ (by simp <;> omega) _)
  clear hWeq
  have hz : w.heap.size + 2 ≤ W.heap.size := by have := blk_lt g1; omega
  have c0_0 : W.cell? ⟨w.heap.size, 0, none⟩ = some (.string k.1.kind) := blk_cell g0 0
  have c0_1 : W.cell? ⟨w.heap.size, 1, none⟩ = some (.string k.1.space) := blk_cell g0 1
  have c0_2 : W.cell? ⟨w.heap.size, 2, none⟩ = some (.string k.1.name) := blk_cell g0 2
  have f0 : ∀ j, W.frozen? ⟨w.heap.size, j, none⟩ = false := blk_free g0
  have c1_0 : W.cell? ⟨w.heap.size + 1, 0, none⟩ = some (.string ⟨#[]⟩) := blk_cell g1 0
  have c1_1 : W.cell? ⟨w.heap.size + 1, 1, none⟩ = some (.string ⟨#[]⟩) := blk_cell g1 1
  have c1_2 : W.cell? ⟨w.heap.size + 1, 2, none⟩ = some (.string ⟨#[]⟩) := blk_cell g1 2
  have c1_3 : W.cell? ⟨w.heap.size + 1, 3, none⟩ = some (.int .i64 0) := blk_cell g1 3
  have c1_4 : W.cell? ⟨w.heap.size + 1, 4, none⟩ = some (.string ⟨#[]⟩) := blk_cell g1 4
  have c1_5 : W.cell? ⟨w.heap.size + 1, 5, none⟩ = some (.bool false) := blk_cell g1 5
  have c1_6 : W.cell? ⟨w.heap.size + 1, 6, none⟩ = some (.bool false) := blk_cell g1 6
  have c1_7 : W.cell? ⟨w.heap.size + 1, 7, none⟩ = some (.slice none 0 0) := blk_cell g1 7
  have f1 : ∀ j, W.frozen? ⟨w.heap.size + 1, j, none⟩ = false := blk_free g1
  have hB : Below W.heap.size W W := Below.refl _ _
  have G0 := Lib.hid g0; clear g0
  have F0 := Lib.hid f0; clear f0
  have G1 := Lib.hid g1; clear g1
  have F1 := Lib.hid f1; clear f1
  have Hw := Lib.hid hw; clear hw
  have m0 := cb Hw.out m0
  cases hg : getA M k with
  | none =>
    have HE := Lib.hid (show objOf M k = zeroO ∧ hasA M k = false by rw [hasA_get]; unfold objOf; rw [hg]; exact ⟨rfl, rfl⟩)
    have HL2 : Hid (∀ U, Below W.heap.size W U → (Instr.lookup 92 (.map (some mb)) (.agg #[.string k.1.kind, .string k.1.space, .string k.1.name]) true).run Try.prog U = .ok (.tuple #[.agg #[.string ⟨#[]⟩, .string ⟨#[]⟩, .string ⟨#[]⟩, .int .i64 0, .string ⟨#[]⟩, .bool false, .bool false, .slice none 0 0], .bool false]) U) := Lib.hid fun U hb => by
      have q := HLK.out U (bl_from Hw.out hb)
      rw [hg, HE.out.2] at q; exact q
    clear hg HLK
    go_upto_region 3 with fail
    have hB := hB.drew
    refine region_seq (fun w' => Below W.heap.size W w') [(0, true), (1, true), (2, true), (3, true), (4, true), (5, true), (6, true), (7, true), (8, true), (9, false), (10, false), (11, true)] (by kernel_rfl) (by kernel_rfl) (fun _ _ _ _ h => h) hB ?_
    try generalize World.drew _ = wS at hB ⊢
    refine seq_take (v := ?_) (a' := ?_) (some 12) rfl rfl (by rfl) ?_ ?_ ?_
    rotate_left; rotate_left
    · intro w' hS; go_simp; with_reducible rfl
    · simp only [Act.put, List.setIfInBounds_toArray, List.set_cons_zero, List.set_cons_succ]; rfl
    refine seq_take (v := ?_) (a' := ?_) (some 13) rfl rfl (by rfl) ?_ ?_ ?_
    rotate_left; rotate_left
    · intro w' hS; go_simp; with_reducible rfl
    · simp only [Act.put, List.setIfInBounds_toArray, List.set_cons_zero, List.set_cons_succ]; rfl
    refine seq_take (v := ?_) (a' := ?_) (some 14) rfl rfl (by rfl) ?_ ?_ ?_
    rotate_left; rotate_left
    · intro w' hS; go_simp; with_reducible rfl
    · simp only [Act.put, List.setIfInBounds_toArray, List.set_cons_zero, List.set_cons_succ]; rfl
    refine seq_take (v := ?_) (a' := ?_) (some 15) rfl rfl (by rfl) ?_ ?_ ?_
    rotate_left; rotate_left
    · intro w' hS; have q0 := cb hS m0; have q1 := cb hS c0_0; have q2 := cb hS c0_1; have q3 := cb hS c0_2; have hl := HL2.out _ hS; go_simp; with_reducible rfl
    · simp only [Act.put, List.setIfInBounds_toArray, List.set_cons_zero, List.set_cons_succ]; rfl
    refine seq_take (v := ?_) (a' := ?_) (some 16) rfl rfl (by rfl) ?_ ?_ ?_
    rotate_left; rotate_left
    · intro w' hS; have q0 := cb hS m0; have q1 := cb hS c0_0; have q2 := cb hS c0_1; have q3 := cb hS c0_2; have hl := HL2.out _ hS; go_simp; with_reducible rfl
    · simp only [Act.put, List.setIfInBounds_toArray, List.set_cons_zero, List.set_cons_succ]; rfl
    refine seq_take (v := ?_) (a' := ?_) (some 17) rfl rfl (by rfl) ?_ ?_ ?_
    rotate_left; rotate_left
    · intro w' hS; have q0 := cb hS m0; have q1 := cb hS c0_0; have q2 := cb hS c0_1; have q3 := cb hS c0_2; have hl := HL2.out _ hS; go_simp; with_reducible rfl
    · simp only [Act.put, List.setIfInBounds_toArray, List.set_cons_zero, List.set_cons_succ]; rfl
    refine seq_take (v := ?_) (a' := ?_) (some 11) rfl rfl (by rfl) ?_ ?_ ?_
    rotate_left; rotate_left
    · intro w' hS; go_simp; with_reducible rfl
    · simp only [Act.put, List.setIfInBounds_toArray, List.set_cons_zero, List.set_cons_succ]; rfl
    refine seq_take (v := ?_) (a' := ?_) (some 18) rfl rfl (by rfl) ?_ ?_ ?_
    rotate_left; rotate_left
    · intro w' hS; go_simp; with_reducible rfl
    · simp only [Act.put, List.setIfInBounds_toArray, List.set_cons_zero, List.set_cons_succ]; rfl
    refine seq_take (v := ?_) (a' := ?_) (some 19) rfl rfl (by rfl) ?_ ?_ ?_
    rotate_left; rotate_left
    · intro w' hS; go_simp; with_reducible rfl
    · simp only [Act.put, List.setIfInBounds_toArray, List.set_cons_zero, List.set_cons_succ]; rfl
    refine seq_op (some 6) rfl rfl (by rfl) ?_
    apply Exists.intro; apply Exists.intro; apply And.intro
    · go_simp; first | exact ⟨rfl, rfl⟩ | rfl
    apply Exists.intro; apply And.intro
    · simp only [Act.put, List.setIfInBounds_toArray, List.set_cons_zero, List.set_cons_succ]; rfl
    apply And.intro
    · exact (by repeat (first | with_reducible exact hB | refine Below.alloc ?_ (by have := hB.size; simp; omega) _ | refine bl_dN ?_ _ | refine Below.drew ?_ | refine Below.setCell ?_ (by have := hB.size; simp; omega) _))
    refine seq_store none rfl rfl (by rfl) ?_
    apply Exists.intro; apply And.intro
    · have k0_0 := cb hB c0_0; have k0_1 := cb hB c0_1; have k0_2 := cb hB c0_2; have k1_0 := cb hB c1_0; have k1_1 := cb hB c1_1; have k1_2 := cb hB c1_2; have k1_3 := cb hB c1_3; have k1_4 := cb hB c1_4; have k1_5 := cb hB c1_5; have k1_6 := cb hB c1_6; have k1_7 := cb hB c1_7; have kf0_0 := fb hB (lt_of_cell c0_0) (F0.out 0); have kf0_1 := fb hB (lt_of_cell c0_1) (F0.out 1); have kf0_2 := fb hB (lt_of_cell c0_2) (F0.out 2); have kf1_0 := fb hB (lt_of_cell c1_0) (F1.out 0); have kf1_1 := fb hB (lt_of_cell c1_1) (F1.out 1); have kf1_2 := fb hB (lt_of_cell c1_2) (F1.out 2); have kf1_3 := fb hB (lt_of_cell c1_3) (F1.out 3); have kf1_4 := fb hB (lt_of_cell c1_4) (F1.out 4); have kf1_5 := fb hB (lt_of_cell c1_5) (F1.out 5); have kf1_6 := fb hB (lt_of_cell c1_6) (F1.out 6); have kf1_7 := fb hB (lt_of_cell c1_7) (F1.out 7); go_simp; first | exact ⟨rfl, rfl⟩ | rfl
    apply Exists.intro; apply And.intro
    · simp only [Act.put, List.setIfInBounds_toArray, List.set_cons_zero, List.set_cons_succ]; rfl
    apply And.intro
    · exact (by repeat (first | with_reducible exact hB | refine Below.alloc ?_ (by have := hB.size; simp; omega) _ | refine bl_dN ?_ _ | refine Below.drew ?_ | refine Below.setCell ?_ (by have := hB.size; simp; omega) _))
    refine seq_take (v := ?_) (a' := ?_) (some 7) rfl rfl (by rfl) ?_ ?_ ?_
    rotate_left; rotate_left
    · intro w' hS; go_simp; with_reducible rfl
    · simp only [Act.put, List.setIfInBounds_toArray, List.set_cons_zero, List.set_cons_succ]; rfl
    refine seq_done ?_
    refine name_exit ?_
    intro U hU
    have gU : U.heap[wS.heap.size]? = some (.cells #[.string ⟨#[]⟩, .string ⟨#[]⟩, .string ⟨#[]⟩, .int .i64 0, .string ⟨#[]⟩, .bool false, .bool false, .slice none 0 0] 27) := by rw [hU]; exact blk_new wS _
    have hbU : Below W.heap.size W U := by rw [hU]; exact hB.alloc hB.size _
    clear hU hB
    have d0 : U.cell? ⟨wS.heap.size, 0, none⟩ = some (.string ⟨#[]⟩) := blk_cell gU 0
    have d1 : U.cell? ⟨wS.heap.size, 1, none⟩ = some (.string ⟨#[]⟩) := blk_cell gU 1
    have d2 : U.cell? ⟨wS.heap.size, 2, none⟩ = some (.string ⟨#[]⟩) := blk_cell gU 2
    have d3 : U.cell? ⟨wS.heap.size, 3, none⟩ = some (.int .i64 0) := blk_cell gU 3
    have d4 : U.cell? ⟨wS.heap.size, 4, none⟩ = some (.string ⟨#[]⟩) := blk_cell gU 4
    have d5 : U.cell? ⟨wS.heap.size, 5, none⟩ = some (.bool false) := blk_cell gU 5
    have d6 : U.cell? ⟨wS.heap.size, 6, none⟩ = some (.bool false) := blk_cell gU 6
    have d7 : U.cell? ⟨wS.heap.size, 7, none⟩ = some (.slice none 0 0) := blk_cell gU 7
    clear gU
    have HC := Lib.hid (ownO_calls U (zeroO_S U) zeroO_small)
    unfold objV at HC
    have HBU := Lib.hid (bl_from Hw.out hbU)
    go_upto_region 4 with fail
    go_wp2_with (go_at_call 56; refine HC.out.mono ?_; rintro e w2 ⟨g, rfl, HF, hb⟩; have HB2 := Lib.hid (bl_next HBU.out hb); have k1_0 := cb (bl_next hbU hb) c1_0; have kf1_0 := fb (bl_next hbU hb) (lt_of_cell c1_0) (F1.out 0); have k1_1 := cb (bl_next hbU hb) c1_1; have kf1_1 := fb (bl_next hbU hb) (lt_of_cell c1_1) (F1.out 1); have k1_2 := cb (bl_next hbU hb) c1_2; have kf1_2 := fb (bl_next hbU hb) (lt_of_cell c1_2) (F1.out 2); have k1_3 := cb (bl_next hbU hb) c1_3; have kf1_3 := fb (bl_next hbU hb) (lt_of_cell c1_3) (F1.out 3); have k1_4 := cb (bl_next hbU hb) c1_4; have kf1_4 := fb (bl_next hbU hb) (lt_of_cell c1_4) (F1.out 4); have k1_5 := cb (bl_next hbU hb) c1_5; have kf1_5 := fb (bl_next hbU hb) (lt_of_cell c1_5) (F1.out 5); have k1_6 := cb (bl_next hbU hb) c1_6; have kf1_6 := fb (bl_next hbU hb) (lt_of_cell c1_6) (F1.out 6); have k1_7 := cb (bl_next hbU hb) c1_7; have kf1_7 := fb (bl_next hbU hb) (lt_of_cell c1_7) (F1.out 7); have HT := Lib.hid (TyB.below (w := W) ⟨_, G1.out⟩ (bl_next hbU hb)); clear hb)
    refine name_body ?_
    intro Z hZ
    have hkZ : Kept (fun k => k = w.heap.size + 1) w2 Z := by
      rw [hZ]
      iterate 8 (refine Kept.setCell ?_ _ _ (.inl rfl))
      exact Kept.refl _ _
    have r0 : Z.cell? ⟨w.heap.size + 1, 0, none⟩ = some (.string zeroO.key.kind) := by rw [hZ]; go_simp
    have r1 : Z.cell? ⟨w.heap.size + 1, 1, none⟩ = some (.string zeroO.key.space) := by rw [hZ]; go_simp
    have r2 : Z.cell? ⟨w.heap.size + 1, 2, none⟩ = some (.string zeroO.key.name) := by rw [hZ]; go_simp
    have r3 : Z.cell? ⟨w.heap.size + 1, 3, none⟩ = some (.int .i64 zeroO.ver) := by rw [hZ]; go_simp
    have r4 : Z.cell? ⟨w.heap.size + 1, 4, none⟩ = some (.string zeroO.cls) := by rw [hZ]; go_simp
    have r5 : Z.cell? ⟨w.heap.size + 1, 5, none⟩ = some (.bool zeroO.term) := by rw [hZ]; go_simp
    have r6 : Z.cell? ⟨w.heap.size + 1, 6, none⟩ = some (.bool zeroO.best) := by rw [hZ]; go_simp
    have r7 : Z.cell? ⟨w.heap.size + 1, 7, none⟩ = some (.slice (some ⟨g, 0, none⟩) zeroO.charge.length zeroO.charge.length) := by rw [hZ]; go_simp
    clear hZ
    have hsz : w.heap.size ≤ w2.heap.size := HB2.out.size
    refine bodyPost_ret (v := .tuple #[.agg #[.string zeroO.key.kind, .string zeroO.key.space, .string zeroO.key.name, .int .i64 zeroO.ver, .string zeroO.cls, .bool zeroO.term, .bool zeroO.best, .slice (some ⟨g, 0, none⟩) zeroO.charge.length zeroO.charge.length], .bool false]) (by simp [results, Try.results32, go_sem, r0, r1, r2, r3, r4, r5, r6, r7]) rfl ?_
    rw [HE.out.1, HE.out.2]
    refine ⟨_, rfl, (HF.out.mono HBU.out.size).kept hkZ (fun j e c hc => by rw [e] at hc; exact TyB.ne HT.out hc (by decide)), HB2.out.trans (hkZ.below hsz (fun j e => by omega))⟩
  | some p =>
    obtain ⟨⟨HR, HO, _, _⟩, HSM⟩ := HG.out p hg
    obtain ⟨o, so⟩ := p
    obtain ⟨go, hgo⟩ := HR.form
    simp only at hgo
    subst hgo
    have HE := Lib.hid (show objOf M k = o ∧ hasA M k = true by rw [hasA_get]; unfold objOf; rw [hg]; exact ⟨rfl, rfl⟩)
    have HOS := Lib.hid (show ObjS w (.slice (some ⟨go, 0, none⟩) o.charge.length o.charge.length) o from ⟨HR.resS HO.2, HO.1⟩)
    clear HR HO HG
    have HSM2 := Lib.hid HSM
    clear HSM
    have HL2 : Hid (∀ U, Below W.heap.size W U → (Instr.lookup 92 (.map (some mb)) (.agg #[.string k.1.kind, .string k.1.space, .string k.1.name]) true).run Try.prog U = .ok (.tuple #[.agg #[.string o.key.kind, .string o.key.space, .string o.key.name, .int .i64 o.ver, .string o.cls, .bool o.term, .bool o.best, .slice (some ⟨go, 0, none⟩) o.charge.length o.charge.length], .bool true]) U) := Lib.hid fun U hb => by
      have q := HLK.out U (bl_from Hw.out hb)
      rw [hg, HE.out.2] at q; exact q
    clear hg HLK
    go_upto_region 3 with fail
    have hB := hB.drew
    refine region_seq (fun w' => Below W.heap.size W w') [(0, true), (1, true), (2, true), (3, true), (4, true), (5, true), (6, true), (7, true), (8, true), (9, false), (10, false), (11, true)] (by kernel_rfl) (by kernel_rfl) (fun _ _ _ _ h => h) hB ?_
    try generalize World.drew _ = wS at hB ⊢
    refine seq_take (v := ?_) (a' := ?_) (some 12) rfl rfl (by rfl) ?_ ?_ ?_
    rotate_left; rotate_left
    · intro w' hS; go_simp; with_reducible rfl
    · simp only [Act.put, List.setIfInBounds_toArray, List.set_cons_zero, List.set_cons_succ]; rfl
    refine seq_take (v := ?_) (a' := ?_) (some 13) rfl rfl (by rfl) ?_ ?_ ?_
    rotate_left; rotate_left
    · intro w' hS; go_simp; with_reducible rfl
    · simp only [Act.put, List.setIfInBounds_toArray, List.set_cons_zero, List.set_cons_succ]; rfl
    refine seq_take (v := ?_) (a' := ?_) (some 14) rfl rfl (by rfl) ?_ ?_ ?_
    rotate_left; rotate_left
    · intro w' hS; go_simp; with_reducible rfl
    · simp only [Act.put, List.setIfInBounds_toArray, List.set_cons_zero, List.set_cons_succ]; rfl
    refine seq_take (v := ?_) (a' := ?_) (some 15) rfl rfl (by rfl) ?_ ?_ ?_
    rotate_left; rotate_left
    · intro w' hS; have q0 := cb hS m0; have q1 := cb hS c0_0; have q2 := cb hS c0_1; have q3 := cb hS c0_2; have hl := HL2.out _ hS; go_simp; with_reducible rfl
    · simp only [Act.put, List.setIfInBounds_toArray, List.set_cons_zero, List.set_cons_succ]; rfl
    refine seq_take (v := ?_) (a' := ?_) (some 16) rfl rfl (by rfl) ?_ ?_ ?_
    rotate_left; rotate_left
    · intro w' hS; have q0 := cb hS m0; have q1 := cb hS c0_0; have q2 := cb hS c0_1; have q3 := cb hS c0_2; have hl := HL2.out _ hS; go_simp; with_reducible rfl
    · simp only [Act.put, List.setIfInBounds_toArray, List.set_cons_zero, List.set_cons_succ]; rfl
    refine seq_take (v := ?_) (a' := ?_) (some 17) rfl rfl (by rfl) ?_ ?_ ?_
    rotate_left; rotate_left
    · intro w' hS; have q0 := cb hS m0; have q1 := cb hS c0_0; have q2 := cb hS c0_1; have q3 := cb hS c0_2; have hl := HL2.out _ hS; go_simp; with_reducible rfl
    · simp only [Act.put, List.setIfInBounds_toArray, List.set_cons_zero, List.set_cons_succ]; rfl
    refine seq_take (v := ?_) (a' := ?_) (some 11) rfl rfl (by rfl) ?_ ?_ ?_
    rotate_left; rotate_left
    · intro w' hS; go_simp; with_reducible rfl
    · simp only [Act.put, List.setIfInBounds_toArray, List.set_cons_zero, List.set_cons_succ]; rfl
    refine seq_take (v := ?_) (a' := ?_) (some 18) rfl rfl (by rfl) ?_ ?_ ?_
    rotate_left; rotate_left
    · intro w' hS; go_simp; with_reducible rfl
    · simp only [Act.put, List.setIfInBounds_toArray, List.set_cons_zero, List.set_cons_succ]; rfl
    refine seq_take (v := ?_) (a' := ?_) (some 19) rfl rfl (by rfl) ?_ ?_ ?_
    rotate_left; rotate_left
    · intro w' hS; go_simp; with_reducible rfl
    · simp only [Act.put, List.setIfInBounds_toArray, List.set_cons_zero, List.set_cons_succ]; rfl
    refine seq_op (some 6) rfl rfl (by rfl) ?_
    apply Exists.intro; apply Exists.intro; apply And.intro
    · go_simp; first | exact ⟨rfl, rfl⟩ | rfl
    apply Exists.intro; apply And.intro
    · simp only [Act.put, List.setIfInBounds_toArray, List.set_cons_zero, List.set_cons_succ]; rfl
    apply And.intro
    · exact (by repeat (first | with_reducible exact hB | refine Below.alloc ?_ (by have := hB.size; simp; omega) _ | refine bl_dN ?_ _ | refine Below.drew ?_ | refine Below.setCell ?_ (by have := hB.size; simp; omega) _))
    refine seq_store none rfl rfl (by rfl) ?_
    apply Exists.intro; apply And.intro
    · have k0_0 := cb hB c0_0; have k0_1 := cb hB c0_1; have k0_2 := cb hB c0_2; have k1_0 := cb hB c1_0; have k1_1 := cb hB c1_1; have k1_2 := cb hB c1_2; have k1_3 := cb hB c1_3; have k1_4 := cb hB c1_4; have k1_5 := cb hB c1_5; have k1_6 := cb hB c1_6; have k1_7 := cb hB c1_7; have kf0_0 := fb hB (lt_of_cell c0_0) (F0.out 0); have kf0_1 := fb hB (lt_of_cell c0_1) (F0.out 1); have kf0_2 := fb hB (lt_of_cell c0_2) (F0.out 2); have kf1_0 := fb hB (lt_of_cell c1_0) (F1.out 0); have kf1_1 := fb hB (lt_of_cell c1_1) (F1.out 1); have kf1_2 := fb hB (lt_of_cell c1_2) (F1.out 2); have kf1_3 := fb hB (lt_of_cell c1_3) (F1.out 3); have kf1_4 := fb hB (lt_of_cell c1_4) (F1.out 4); have kf1_5 := fb hB (lt_of_cell c1_5) (F1.out 5); have kf1_6 := fb hB (lt_of_cell c1_6) (F1.out 6); have kf1_7 := fb hB (lt_of_cell c1_7) (F1.out 7); go_simp; first | exact ⟨rfl, rfl⟩ | rfl
    apply Exists.intro; apply And.intro
    · simp only [Act.put, List.setIfInBounds_toArray, List.set_cons_zero, List.set_cons_succ]; rfl
    apply And.intro
    · exact (by repeat (first | with_reducible exact hB | refine Below.alloc ?_ (by have := hB.size; simp; omega) _ | refine bl_dN ?_ _ | refine Below.drew ?_ | refine Below.setCell ?_ (by have := hB.size; simp; omega) _))
    refine seq_take (v := ?_) (a' := ?_) (some 7) rfl rfl (by rfl) ?_ ?_ ?_
    rotate_left; rotate_left
    · intro w' hS; go_simp; with_reducible rfl
    · simp only [Act.put, List.setIfInBounds_toArray, List.set_cons_zero, List.set_cons_succ]; rfl
    refine seq_done ?_
    refine name_exit ?_
    intro U hU
    have gU : U.heap[wS.heap.size]? = some (.cells #[.string o.key.kind, .string o.key.space, .string o.key.name, .int .i64 o.ver, .string o.cls, .bool o.term, .bool o.best, .slice (some ⟨go, 0, none⟩) o.charge.length o.charge.length] 27) := by rw [hU]; exact blk_new wS _
    have hbU : Below W.heap.size W U := by rw [hU]; exact hB.alloc hB.size _
    clear hU hB
    have d0 : U.cell? ⟨wS.heap.size, 0, none⟩ = some (.string o.key.kind) := blk_cell gU 0
    have d1 : U.cell? ⟨wS.heap.size, 1, none⟩ = some (.string o.key.space) := blk_cell gU 1
    have d2 : U.cell? ⟨wS.heap.size, 2, none⟩ = some (.string o.key.name) := blk_cell gU 2
    have d3 : U.cell? ⟨wS.heap.size, 3, none⟩ = some (.int .i64 o.ver) := blk_cell gU 3
    have d4 : U.cell? ⟨wS.heap.size, 4, none⟩ = some (.string o.cls) := blk_cell gU 4
    have d5 : U.cell? ⟨wS.heap.size, 5, none⟩ = some (.bool o.term) := blk_cell gU 5
    have d6 : U.cell? ⟨wS.heap.size, 6, none⟩ = some (.bool o.best) := blk_cell gU 6
    have d7 : U.cell? ⟨wS.heap.size, 7, none⟩ = some (.slice (some ⟨go, 0, none⟩) o.charge.length o.charge.length) := blk_cell gU 7
    clear gU
    have HC := Lib.hid (ownO_calls U (HOS.out.below (bl_from Hw.out hbU)) HSM2.out)
    unfold objV at HC
    have HBU := Lib.hid (bl_from Hw.out hbU)
    go_upto_region 4 with fail
    go_wp2_with (go_at_call 56; refine HC.out.mono ?_; rintro e w2 ⟨g, rfl, HF, hb⟩; have HB2 := Lib.hid (bl_next HBU.out hb); have k1_0 := cb (bl_next hbU hb) c1_0; have kf1_0 := fb (bl_next hbU hb) (lt_of_cell c1_0) (F1.out 0); have k1_1 := cb (bl_next hbU hb) c1_1; have kf1_1 := fb (bl_next hbU hb) (lt_of_cell c1_1) (F1.out 1); have k1_2 := cb (bl_next hbU hb) c1_2; have kf1_2 := fb (bl_next hbU hb) (lt_of_cell c1_2) (F1.out 2); have k1_3 := cb (bl_next hbU hb) c1_3; have kf1_3 := fb (bl_next hbU hb) (lt_of_cell c1_3) (F1.out 3); have k1_4 := cb (bl_next hbU hb) c1_4; have kf1_4 := fb (bl_next hbU hb) (lt_of_cell c1_4) (F1.out 4); have k1_5 := cb (bl_next hbU hb) c1_5; have kf1_5 := fb (bl_next hbU hb) (lt_of_cell c1_5) (F1.out 5); have k1_6 := cb (bl_next hbU hb) c1_6; have kf1_6 := fb (bl_next hbU hb) (lt_of_cell c1_6) (F1.out 6); have k1_7 := cb (bl_next hbU hb) c1_7; have kf1_7 := fb (bl_next hbU hb) (lt_of_cell c1_7) (F1.out 7); have HT := Lib.hid (TyB.below (w := W) ⟨_, G1.out⟩ (bl_next hbU hb)); clear hb)
    refine name_body ?_
    intro Z hZ
    have hkZ : Kept (fun k => k = w.heap.size + 1) w2 Z := by
      rw [hZ]
      iterate 8 (refine Kept.setCell ?_ _ _ (.inl rfl))
      exact Kept.refl _ _
    have r0 : Z.cell? ⟨w.heap.size + 1, 0, none⟩ = some (.string o.key.kind) := by rw [hZ]; go_simp
    have r1 : Z.cell? ⟨w.heap.size + 1, 1, none⟩ = some (.string o.key.space) := by rw [hZ]; go_simp
    have r2 : Z.cell? ⟨w.heap.size + 1, 2, none⟩ = some (.string o.key.name) := by rw [hZ]; go_simp
    have r3 : Z.cell? ⟨w.heap.size + 1, 3, none⟩ = some (.int .i64 o.ver) := by rw [hZ]; go_simp
    have r4 : Z.cell? ⟨w.heap.size + 1, 4, none⟩ = some (.string o.cls) := by rw [hZ]; go_simp
    have r5 : Z.cell? ⟨w.heap.size + 1, 5, none⟩ = some (.bool o.term) := by rw [hZ]; go_simp
    have r6 : Z.cell? ⟨w.heap.size + 1, 6, none⟩ = some (.bool o.best) := by rw [hZ]; go_simp
    have r7 : Z.cell? ⟨w.heap.size + 1, 7, none⟩ = some (.slice (some ⟨g, 0, none⟩) o.charge.length o.charge.length) := by rw [hZ]; go_simp
    clear hZ
    have hsz : w.heap.size ≤ w2.heap.size := HB2.out.size
    refine bodyPost_ret (v := .tuple #[.agg #[.string o.key.kind, .string o.key.space, .string o.key.name, .int .i64 o.ver, .string o.cls, .bool o.term, .bool o.best, .slice (some ⟨g, 0, none⟩) o.charge.length o.charge.length], .bool true]) (by simp [results, Try.results32, go_sem, r0, r1, r2, r3, r4, r5, r6, r7]) rfl ?_
    rw [HE.out.1, HE.out.2]
    refine ⟨_, rfl, (HF.out.mono HBU.out.size).kept hkZ (fun j e c hc => by rw [e] at hc; exact TyB.ne HT.out hc (by decide)), HB2.out.trans (hkZ.below hsz (fun j e => by omega))⟩
set_option maxRecDepth 100000 in
set_option maxHeartbeats 4000000 in
theorem sget_nil (w : World) (k : KeyD) :
    Calls Try.prog 32 #[.pointer none, .agg #[.string k.kind, .string k.space, .string k.name]] w fun e w' => e = .returned (.tuple #[objV zeroO (.slice none 0 0), .bool false]) ∧ Below w.heap.size w w' := by
  have hB := Below.refl w.heap.size w
  go_enter Try.func32, Try.ntmps32
  go_wp2_with fail
  refine name_body ?_
  intro Z hZ
  have gZ : Z.heap[w.heap.size + 1]? = some (.cells #[.string ⟨#[]⟩, .string ⟨#[]⟩, .string ⟨#[]⟩, .int .i64 0, .string ⟨#[]⟩, .bool false, .bool false, .slice none 0 0] 27) := by rw [hZ]; exact blk_new1 w _ _
  have hbZ : Below w.heap.size w Z := by rw [hZ]; exact ((Below.refl _ _).alloc (Nat.le_refl _) _).alloc (by simp) _
  clear hZ hB
  have r0 : Z.cell? ⟨w.heap.size + 1, 0, none⟩ = some (.string ⟨#[]⟩) := blk_cell gZ 0
  have r1 : Z.cell? ⟨w.heap.size + 1, 1, none⟩ = some (.string ⟨#[]⟩) := blk_cell gZ 1
  have r2 : Z.cell? ⟨w.heap.size + 1, 2, none⟩ = some (.string ⟨#[]⟩) := blk_cell gZ 2
  have r3 : Z.cell? ⟨w.heap.size + 1, 3, none⟩ = some (.int .i64 0) := blk_cell gZ 3
  have r4 : Z.cell? ⟨w.heap.size + 1, 4, none⟩ = some (.string ⟨#[]⟩) := blk_cell gZ 4
  have r5 : Z.cell? ⟨w.heap.size + 1, 5, none⟩ = some (.bool false) := blk_cell gZ 5
  have r6 : Z.cell? ⟨w.heap.size + 1, 6, none⟩ = some (.bool false) := blk_cell gZ 6
  have r7 : Z.cell? ⟨w.heap.size + 1, 7, none⟩ = some (.slice none 0 0) := blk_cell gZ 7
  exact bodyPost_ret (v := .tuple #[.agg #[.string ⟨#[]⟩, .string ⟨#[]⟩, .string ⟨#[]⟩, .int .i64 0, .string ⟨#[]⟩, .bool false, .bool false, .slice none 0 0], .bool false]) (by simp [results, Try.results32, go_sem, r0, r1, r2, r3, r4, r5, r6, r7]) rfl ⟨rfl, hbZ⟩
end Go.Proofs.Ythhfcambdmdgfaa
namespace Go.Proofs.Ythhfcambdmdgfaa
open Go.RowKit Go.Maps
set_option linter.unusedVariables false
set_option linter.unusedSimpArgs false
/-- A map's update, by itself. -/
theorem wp_mapUpd {P : Program} {o : Oper} {a : Act} {K : Act → World → Prop} {Q : Exit → Act → World → Prop} (w : World) (m x v : Operand) (t : TypeId) (hop : o.op = Op.mapUpdate t m x v)
    (k e : TypeId) (Kk : Keyed P k) (ht : P.underlying t = some (.map k e)) (b n : Nat) (D : DataW Value) (hm : a.eval m = .map (some b)) (hown : w.ownsMap P k RV b n D) (hn : n < maxLen) (key val : Value) (kl : Lit) (hx : a.eval x = key) (hv : a.eval v = val) (hkey : keyOf P k key = some kl)
    (hK : ∀ w', w'.ownsMap P k RV b (n + 1) (D.put kl (.held val)) → w.grownBy w' (some b) → K (a.put o.dst undef) w') : o.wp P a w K Q := by
  obtain ⟨w', hrun, r1, r2⟩ := hown.update Kk ht hn hkey (d := .held val) (ps := []) rfl
  unfold Oper.wp
  simp [execOp, hop, hm, hx, hv, hrun, Result.andThen]
  exact hK w' r1 r2
/-- A map's delete, by itself. -/
theorem wp_mapDel {P : Program} {o : Oper} {a : Act} {K : Act → World → Prop} {Q : Exit → Act → World → Prop} (w : World) (m x : Operand) (t k : TypeId) (hop : o.op = Op.call { callee := Callee.builtin Builtin.delete, args := #[m, x], argTypes := #[t, k] })
    (e : TypeId) (Kk : Keyed P k) (ht : P.underlying t = some (.map k e)) (b n : Nat) (D : DataW Value) (hm : a.eval m = .map (some b)) (hown : w.ownsMap P k RV b n D) (key : Value) (kl : Lit) (hx : a.eval x = key) (hkey : keyOf P k key = some kl)
    (hK : ∀ w', w'.ownsMap P k RV b n (D.del kl) → w.mapTurned w' b → K (a.put o.dst (.tuple #[])) w') : o.wp P a w K Q := by
  obtain ⟨w', hrun, r1, r2⟩ := hown.drop Kk ht hkey o.type
  unfold Oper.wp
  simp [execOp, hop, resolve, invoke, builtin, hm, hx, hrun, Result.andThen]
  exact hK w' r1 r2
end Go.Proofs.Ythhfcambdmdgfaa
