import Derived.Test.YteomicjjaajblaaVck
namespace Go.Proofs.Yteomicjjaajblaa
open Go.RowKit Go.Shelf Go.Maps
set_option linter.unusedVariables false
set_option linter.unusedSimpArgs false
set_option maxRecDepth 100000 in
set_option maxHeartbeats 16000000 in
theorem rput_calls (w : World) {u : Value} {v : Vec} (h : VecS w u v) (n : ByteArray) (x : Int) (hn : n.size ≤ 1000000) (hl : v.length ≤ 100000) (hs : ∀ p ∈ v, p.1.size ≤ 1000000) :
    Calls Try.prog 66 #[u, .string n, .agg #[.int .i64 (whi x), .int .u64 (wlo x)]] w fun e w' => ∃ y, e = .returned y ∧ w'.ownsRow w.heap.size 64 3 y (putR v n x).length (vecC (putR v n x)) ∧ Below w.heap.size w w' := by
  have hB := Below.refl w.heap.size w
  have H := Lib.hid h
  have HSZ := Lib.hid hs
  obtain ⟨ax, cx, rfl⟩ := h.form
  clear h hs
  go_enter Try.func66, Try.ntmps66
  go_upto_region 1 with fail
  first | with_reducible refine name_wp ?_ | with_reducible refine name_calls ?_
  intro W hWeq
  have g0 : W.heap[w.heap.size]? = some (.cells #[.int .i64 (whi x), .int .u64 (wlo x)] 40) := by rw [hWeq]; repeat (first | (with_reducible exact blk_newAt _ _ (by simp)) | with_reducible refine blk_drew ?_ | with_reducible refine blk_dN ?_ _ | with_reducible refine blk_old ?_ _)
  have hw : Below w.heap.size w W := by rw [hWeq]; repeat (first | with_reducible exact Below.refl _ _ | with_reducible refine Below.drew ?_ | with_reducible refine bl_dN ?_ _ | with_reducible refine Below.alloc ?_ (by simp <;> omega) _)
  clear hWeq
  have hz : w.heap.size + 1 ≤ W.heap.size := by have := blk_lt g0; omega
  have c0_0 : W.cell? ⟨w.heap.size, 0, none⟩ = some (.int .i64 (whi x)) := blk_cell g0 0
  have c0_1 : W.cell? ⟨w.heap.size, 1, none⟩ = some (.int .u64 (wlo x)) := blk_cell g0 1
  have f0 : ∀ j, W.frozen? ⟨w.heap.size, j, none⟩ = false := blk_free g0
  have hB : Below W.heap.size W W := Below.refl _ _
  have G0 := Lib.hid g0; clear g0
  have F0 := Lib.hid f0; clear f0
  have Hw := Lib.hid hw; clear hw
  have HW := Lib.hid (H.out.below Hw.out)
  have C00 := Lib.hid c0_0; have C01 := Lib.hid c0_1
  by_cases hx : x = 0
  · have HX0 := Lib.hid (show decide (x = 0) = true by simpa using hx)
    have h1 : whi x = 0 := by rw [hx]; rfl
    have h2 : wlo x = 0 := by rw [hx]; rfl
    rw [h1] at c0_0
    rw [h2] at c0_1
    clear h1 h2 hx
    go_wp2_with fail
    clear c0_0 c0_1
    clear hB
    go_loopw [7, 8, 9] (fun o d i wr => ∃ (k : Nat) (A : Option Addr) (cap : Nat) (S : PutS), (i = .int .i64 k ∧ d = .bool S.done ∧ o = .slice A S.out.length cap) ∧ k ≤ v.length ∧ Hid (putS n x (v.take k) = S) ∧ Hid (wr.ownsRow W.heap.size 64 3 (.slice A S.out.length cap) S.out.length (vecC S.out)) ∧ Hid (Below W.heap.size W wr)) (fun _ _ i _ => v.length - (intOf i).toNat)
    case atStart => exact ⟨0, none, 0, ⟨[], decide (x = 0)⟩, ⟨rfl, by rw [HX0.out], rfl⟩, Nat.zero_le _, Lib.hid rfl, Lib.hid (World.ownsRow_nil _ _ _ _), Lib.hid (Below.refl _ _)⟩
    case round =>
      obtain ⟨k, A, cap, S, ⟨rfl, rfl, rfl⟩, hk, HS, R0, HB0⟩ := hrel
      by_cases hkl : k < v.length
      · have hkI : (k : Int) < v.length := by omega
        obtain ⟨b, o, c, he, q0, q1, q2, hin⟩ := HW.out.at' hkl
        cases he
        have hsz := HSZ.out _ (List.getElem_mem hkl)
        have HSTEP := Lib.hid (putS_succ (n := n) (x := x) hkl)
        rw [HS.out] at HSTEP
        have hol : S.out.length ≤ k + 1 := by
          have := (putS_len n x (v.take k)).1
          rw [HS.out, List.length_take] at this; omega
        clear hin
        obtain ⟨p, hp⟩ : ∃ p, v[k]'hkl = p := ⟨_, rfl⟩
        rw [hp] at q0 q1 q2 hsz HSTEP
        have Q0 := Lib.hid q0; have Q1 := Lib.hid q1; have Q2 := Lib.hid q2
        clear hp HS q0 q1 q2
        obtain ⟨out, d⟩ := S
        simp only at hol
        have q0 := cb HB0.out Q0.out
        go_wp2_with fail
        refine (beforeB_calls n p.1 _ (by omega) (by omega)).mono ?_
        rintro e w2 ⟨rfl, hb⟩
        have R1 := Lib.hid (rw_below R0.out hb)
        have HB1 := Lib.hid (bl_next HB0.out hb)
        clear hb R0 HB0 q0
        obtain ⟨V1, rfl⟩ : ∃ V1 : World, V1 = w2 := ⟨_, rfl⟩
        cases hah : ltB n p.1 with
        | true =>
          have hne : ¬ p.1 = n := (strictB.ne hah).symm
          have hbf := beqF hne
          have hbn := neF hne
          cases d with
          | false =>
            have HST := Lib.hid (show putS n x (v.take (k + 1)) = ⟨out ++ [(n, x)] ++ [p], true⟩ by rw [HSTEP.out]; unfold stepP; simp only [hah]; rw [if_neg hne]; rfl)
            clear hah hne
            have c0_0 := cb HB1.out C00.out; have c0_1 := cb HB1.out C01.out; have q0 := cb HB1.out Q0.out; have q1 := cb HB1.out Q1.out; have q2 := cb HB1.out Q2.out
            go_wp2_with (first | (at_builtin; refine app_entry rfl (.tmp 37) (.tmp 41) rfl W.heap.size _ _ out (n, x) rfl R1.out 1 rfl HB1.out.size (by simp; omega) ?_; intro A2 cap2 w2 hown2 hk2; have R2 := Lib.hid hown2; have HB2 := Lib.hid (HB1.out.trans (hk2.below (B := W.heap.size) HB1.out.size (fun q hq => (rw_type R1.out hq).1))); clear hown2 hk2; have c0_0 := cb HB2.out C00.out; have c0_1 := cb HB2.out C01.out; have q0 := cb HB2.out Q0.out; have q1 := cb HB2.out Q1.out; have q2 := cb HB2.out Q2.out) | (at_builtin; refine app_entry rfl (.tmp 50) (.tmp 55) rfl W.heap.size _ _ (out ++ [(n, x)]) p rfl R2.out 1 rfl HB2.out.size (by simp; omega) ?_; intro A3 cap3 w3 hown3 hk3; have R3 := Lib.hid hown3; have HB3 := Lib.hid (HB2.out.trans (hk3.below (B := W.heap.size) HB2.out.size (fun q hq => (rw_type R2.out hq).1))); clear hown3 hk3; have c0_0 := cb HB3.out C00.out; have c0_1 := cb HB3.out C01.out; have q0 := cb HB3.out Q0.out; have q1 := cb HB3.out Q1.out; have q2 := cb HB3.out Q2.out))
            go_roundw
            case rel => exact ⟨k + 1, (some ⟨A3, 0, none⟩), cap3, ⟨out ++ [(n, x)] ++ [p], true⟩, ⟨by simp, rfl, by simp⟩, by omega, HST, Lib.hid (by have h8 := R3.out; first | exact h8 | (rw [show (out ++ [(n, x)]).length + 1 = (out ++ [(n, x)] ++ [p]).length by simp] at h8; exact h8)), HB3⟩
            case measure => simp [intOf]; omega
          | true =>
            have HST := Lib.hid (show putS n x (v.take (k + 1)) = ⟨out ++ [p], true⟩ by rw [HSTEP.out]; unfold stepP; simp only [hah]; rw [if_neg hne]; rfl)
            clear hah hne
            have c0_0 := cb HB1.out C00.out; have c0_1 := cb HB1.out C01.out; have q0 := cb HB1.out Q0.out; have q1 := cb HB1.out Q1.out; have q2 := cb HB1.out Q2.out
            go_wp2_with (at_builtin; refine app_entry rfl (.tmp 50) (.tmp 55) rfl W.heap.size _ _ out p rfl R1.out 1 rfl HB1.out.size (by simp; omega) ?_; intro A2 cap2 w2 hown2 hk2; have R2 := Lib.hid hown2; have HB2 := Lib.hid (HB1.out.trans (hk2.below (B := W.heap.size) HB1.out.size (fun q hq => (rw_type R1.out hq).1))); clear hown2 hk2; have c0_0 := cb HB2.out C00.out; have c0_1 := cb HB2.out C01.out; have q0 := cb HB2.out Q0.out; have q1 := cb HB2.out Q1.out; have q2 := cb HB2.out Q2.out)
            go_roundw
            case rel => exact ⟨k + 1, (some ⟨A2, 0, none⟩), cap2, ⟨out ++ [p], true⟩, ⟨by simp, rfl, by simp⟩, by omega, HST, Lib.hid (by have h8 := R2.out; first | exact h8 | (rw [show out.length + 1 = (out ++ [p]).length by simp] at h8; exact h8)), HB2⟩
            case measure => simp [intOf]; omega
        | false =>
          by_cases hne : p.1 = n
          · have hbf : (p.1.toList == n.toList) = true := by rw [beq_str]; simpa using hne
            have hbn : p.1.toList = n.toList := by rw [hne]
            have HST := Lib.hid (show putS n x (v.take (k + 1)) = ⟨out, d⟩ by rw [HSTEP.out]; unfold stepP; simp only [hah]; rw [if_pos hne]; simp)
            clear hah hne
            cases d with
            | false =>
              have c0_0 := cb HB1.out C00.out; have c0_1 := cb HB1.out C01.out; have q0 := cb HB1.out Q0.out; have q1 := cb HB1.out Q1.out; have q2 := cb HB1.out Q2.out
              go_wp2_with fail
              go_roundw
              case rel => exact ⟨k + 1, A, cap, ⟨out, false⟩, ⟨by simp, rfl, by simp⟩, by omega, HST, Lib.hid (by have h8 := R1.out; first | exact h8 | (rw [show out.length + 1 = (out).length by simp] at h8; exact h8)), HB1⟩
              case measure => simp [intOf]; omega
            | true =>
              have c0_0 := cb HB1.out C00.out; have c0_1 := cb HB1.out C01.out; have q0 := cb HB1.out Q0.out; have q1 := cb HB1.out Q1.out; have q2 := cb HB1.out Q2.out
              go_wp2_with fail
              go_roundw
              case rel => exact ⟨k + 1, A, cap, ⟨out, true⟩, ⟨by simp, rfl, by simp⟩, by omega, HST, Lib.hid (by have h8 := R1.out; first | exact h8 | (rw [show out.length + 1 = (out).length by simp] at h8; exact h8)), HB1⟩
              case measure => simp [intOf]; omega
          · have hbf := beqF hne
            have hbn := neF hne
            have HST := Lib.hid (show putS n x (v.take (k + 1)) = ⟨out ++ [p], d⟩ by rw [HSTEP.out]; unfold stepP; simp only [hah]; rw [if_neg hne]; simp)
            clear hah hne
            cases d with
            | false =>
              have c0_0 := cb HB1.out C00.out; have c0_1 := cb HB1.out C01.out; have q0 := cb HB1.out Q0.out; have q1 := cb HB1.out Q1.out; have q2 := cb HB1.out Q2.out
              go_wp2_with (at_builtin; refine app_entry rfl (.tmp 50) (.tmp 55) rfl W.heap.size _ _ out p rfl R1.out 1 rfl HB1.out.size (by simp; omega) ?_; intro A2 cap2 w2 hown2 hk2; have R2 := Lib.hid hown2; have HB2 := Lib.hid (HB1.out.trans (hk2.below (B := W.heap.size) HB1.out.size (fun q hq => (rw_type R1.out hq).1))); clear hown2 hk2; have c0_0 := cb HB2.out C00.out; have c0_1 := cb HB2.out C01.out; have q0 := cb HB2.out Q0.out; have q1 := cb HB2.out Q1.out; have q2 := cb HB2.out Q2.out)
              go_roundw
              case rel => exact ⟨k + 1, (some ⟨A2, 0, none⟩), cap2, ⟨out ++ [p], false⟩, ⟨by simp, rfl, by simp⟩, by omega, HST, Lib.hid (by have h8 := R2.out; first | exact h8 | (rw [show out.length + 1 = (out ++ [p]).length by simp] at h8; exact h8)), HB2⟩
              case measure => simp [intOf]; omega
            | true =>
              have c0_0 := cb HB1.out C00.out; have c0_1 := cb HB1.out C01.out; have q0 := cb HB1.out Q0.out; have q1 := cb HB1.out Q1.out; have q2 := cb HB1.out Q2.out
              go_wp2_with (at_builtin; refine app_entry rfl (.tmp 50) (.tmp 55) rfl W.heap.size _ _ out p rfl R1.out 1 rfl HB1.out.size (by simp; omega) ?_; intro A2 cap2 w2 hown2 hk2; have R2 := Lib.hid hown2; have HB2 := Lib.hid (HB1.out.trans (hk2.below (B := W.heap.size) HB1.out.size (fun q hq => (rw_type R1.out hq).1))); clear hown2 hk2; have c0_0 := cb HB2.out C00.out; have c0_1 := cb HB2.out C01.out; have q0 := cb HB2.out Q0.out; have q1 := cb HB2.out Q1.out; have q2 := cb HB2.out Q2.out)
              go_roundw
              case rel => exact ⟨k + 1, (some ⟨A2, 0, none⟩), cap2, ⟨out ++ [p], true⟩, ⟨by simp, rfl, by simp⟩, by omega, HST, Lib.hid (by have h8 := R2.out; first | exact h8 | (rw [show out.length + 1 = (out ++ [p]).length by simp] at h8; exact h8)), HB2⟩
              case measure => simp [intOf]; omega
      · obtain rfl : k = v.length := by omega
        have hS := HS.out
        rw [List.take_length] at hS
        have HSS := Lib.hid hS
        have hol : S.out.length ≤ v.length + 1 := by rw [← hS]; exact (putS_len n x v).1
        clear hS HS
        obtain ⟨out, d⟩ := S
        simp only at hol
        have c0_0 := cb HB0.out C00.out; have c0_1 := cb HB0.out C01.out
        have hWw := Hw.out.size
        cases d with
        | true =>
          have HE := Lib.hid (show putR v n x = out by unfold putR; rw [HSS.out]; rfl)
          go_wp2_with fail
          go_ret
          rw [HE.out]
          exact ⟨_, rfl, rw_mono R0.out hWw, Hw.out.trans (HB0.out.mono hWw)⟩
        | false =>
          have HE := Lib.hid (show putR v n x = out ++ [(n, x)] by unfold putR; rw [HSS.out]; rfl)
          go_wp2_with (at_builtin; refine app_entry rfl (.tmp 59) (.tmp 63) rfl W.heap.size _ _ out (n, x) rfl R0.out 1 rfl HB0.out.size (by simp; omega) ?_; intro A2 cap2 w2 hown2 hk2; have R2 := Lib.hid hown2; have HB2 := Lib.hid (HB0.out.trans (hk2.below (B := W.heap.size) HB0.out.size (fun q hq => (rw_type R0.out hq).1))); clear hown2 hk2)
          go_ret
          rw [HE.out]
          exact ⟨_, rfl, rw_mono R2.out hWw, Hw.out.trans (HB2.out.mono hWw)⟩

  · have HX0 := Lib.hid (show decide (x = 0) = false by simpa using hx)
    have hz2 := mt wz_iff.1 hx
    clear hx
    by_cases h1 : whi x = 0
    · have h2 : ¬ wlo x = 0 := fun e => hz2 ⟨h1, e⟩
      have h2b : (wlo x == 0) = false := by simpa using h2
      rw [h1] at c0_0
      clear hz2 h1
      go_wp2_with fail
      clear c0_0 c0_1 h2 h2b
      clear hB
      go_loopw [7, 8, 9] (fun o d i wr => ∃ (k : Nat) (A : Option Addr) (cap : Nat) (S : PutS), (i = .int .i64 k ∧ d = .bool S.done ∧ o = .slice A S.out.length cap) ∧ k ≤ v.length ∧ Hid (putS n x (v.take k) = S) ∧ Hid (wr.ownsRow W.heap.size 64 3 (.slice A S.out.length cap) S.out.length (vecC S.out)) ∧ Hid (Below W.heap.size W wr)) (fun _ _ i _ => v.length - (intOf i).toNat)
      case atStart => exact ⟨0, none, 0, ⟨[], decide (x = 0)⟩, ⟨rfl, by rw [HX0.out], rfl⟩, Nat.zero_le _, Lib.hid rfl, Lib.hid (World.ownsRow_nil _ _ _ _), Lib.hid (Below.refl _ _)⟩
      case round =>
        obtain ⟨k, A, cap, S, ⟨rfl, rfl, rfl⟩, hk, HS, R0, HB0⟩ := hrel
        by_cases hkl : k < v.length
        · have hkI : (k : Int) < v.length := by omega
          obtain ⟨b, o, c, he, q0, q1, q2, hin⟩ := HW.out.at' hkl
          cases he
          have hsz := HSZ.out _ (List.getElem_mem hkl)
          have HSTEP := Lib.hid (putS_succ (n := n) (x := x) hkl)
          rw [HS.out] at HSTEP
          have hol : S.out.length ≤ k + 1 := by
            have := (putS_len n x (v.take k)).1
            rw [HS.out, List.length_take] at this; omega
          clear hin
          obtain ⟨p, hp⟩ : ∃ p, v[k]'hkl = p := ⟨_, rfl⟩
          rw [hp] at q0 q1 q2 hsz HSTEP
          have Q0 := Lib.hid q0; have Q1 := Lib.hid q1; have Q2 := Lib.hid q2
          clear hp HS q0 q1 q2
          obtain ⟨out, d⟩ := S
          simp only at hol
          have q0 := cb HB0.out Q0.out
          go_wp2_with fail
          refine (beforeB_calls n p.1 _ (by omega) (by omega)).mono ?_
          rintro e w2 ⟨rfl, hb⟩
          have R1 := Lib.hid (rw_below R0.out hb)
          have HB1 := Lib.hid (bl_next HB0.out hb)
          clear hb R0 HB0 q0
          obtain ⟨V1, rfl⟩ : ∃ V1 : World, V1 = w2 := ⟨_, rfl⟩
          cases hah : ltB n p.1 with
          | true =>
            have hne : ¬ p.1 = n := (strictB.ne hah).symm
            have hbf := beqF hne
            have hbn := neF hne
            cases d with
            | false =>
              have HST := Lib.hid (show putS n x (v.take (k + 1)) = ⟨out ++ [(n, x)] ++ [p], true⟩ by rw [HSTEP.out]; unfold stepP; simp only [hah]; rw [if_neg hne]; rfl)
              clear hah hne
              have c0_0 := cb HB1.out C00.out; have c0_1 := cb HB1.out C01.out; have q0 := cb HB1.out Q0.out; have q1 := cb HB1.out Q1.out; have q2 := cb HB1.out Q2.out
              go_wp2_with (first | (at_builtin; refine app_entry rfl (.tmp 37) (.tmp 41) rfl W.heap.size _ _ out (n, x) rfl R1.out 1 rfl HB1.out.size (by simp; omega) ?_; intro A2 cap2 w2 hown2 hk2; have R2 := Lib.hid hown2; have HB2 := Lib.hid (HB1.out.trans (hk2.below (B := W.heap.size) HB1.out.size (fun q hq => (rw_type R1.out hq).1))); clear hown2 hk2; have c0_0 := cb HB2.out C00.out; have c0_1 := cb HB2.out C01.out; have q0 := cb HB2.out Q0.out; have q1 := cb HB2.out Q1.out; have q2 := cb HB2.out Q2.out) | (at_builtin; refine app_entry rfl (.tmp 50) (.tmp 55) rfl W.heap.size _ _ (out ++ [(n, x)]) p rfl R2.out 1 rfl HB2.out.size (by simp; omega) ?_; intro A3 cap3 w3 hown3 hk3; have R3 := Lib.hid hown3; have HB3 := Lib.hid (HB2.out.trans (hk3.below (B := W.heap.size) HB2.out.size (fun q hq => (rw_type R2.out hq).1))); clear hown3 hk3; have c0_0 := cb HB3.out C00.out; have c0_1 := cb HB3.out C01.out; have q0 := cb HB3.out Q0.out; have q1 := cb HB3.out Q1.out; have q2 := cb HB3.out Q2.out))
              go_roundw
              case rel => exact ⟨k + 1, (some ⟨A3, 0, none⟩), cap3, ⟨out ++ [(n, x)] ++ [p], true⟩, ⟨by simp, rfl, by simp⟩, by omega, HST, Lib.hid (by have h8 := R3.out; first | exact h8 | (rw [show (out ++ [(n, x)]).length + 1 = (out ++ [(n, x)] ++ [p]).length by simp] at h8; exact h8)), HB3⟩
              case measure => simp [intOf]; omega
            | true =>
              have HST := Lib.hid (show putS n x (v.take (k + 1)) = ⟨out ++ [p], true⟩ by rw [HSTEP.out]; unfold stepP; simp only [hah]; rw [if_neg hne]; rfl)
              clear hah hne
              have c0_0 := cb HB1.out C00.out; have c0_1 := cb HB1.out C01.out; have q0 := cb HB1.out Q0.out; have q1 := cb HB1.out Q1.out; have q2 := cb HB1.out Q2.out
              go_wp2_with (at_builtin; refine app_entry rfl (.tmp 50) (.tmp 55) rfl W.heap.size _ _ out p rfl R1.out 1 rfl HB1.out.size (by simp; omega) ?_; intro A2 cap2 w2 hown2 hk2; have R2 := Lib.hid hown2; have HB2 := Lib.hid (HB1.out.trans (hk2.below (B := W.heap.size) HB1.out.size (fun q hq => (rw_type R1.out hq).1))); clear hown2 hk2; have c0_0 := cb HB2.out C00.out; have c0_1 := cb HB2.out C01.out; have q0 := cb HB2.out Q0.out; have q1 := cb HB2.out Q1.out; have q2 := cb HB2.out Q2.out)
              go_roundw
              case rel => exact ⟨k + 1, (some ⟨A2, 0, none⟩), cap2, ⟨out ++ [p], true⟩, ⟨by simp, rfl, by simp⟩, by omega, HST, Lib.hid (by have h8 := R2.out; first | exact h8 | (rw [show out.length + 1 = (out ++ [p]).length by simp] at h8; exact h8)), HB2⟩
              case measure => simp [intOf]; omega
          | false =>
            by_cases hne : p.1 = n
            · have hbf : (p.1.toList == n.toList) = true := by rw [beq_str]; simpa using hne
              have hbn : p.1.toList = n.toList := by rw [hne]
              have HST := Lib.hid (show putS n x (v.take (k + 1)) = ⟨out, d⟩ by rw [HSTEP.out]; unfold stepP; simp only [hah]; rw [if_pos hne]; simp)
              clear hah hne
              cases d with
              | false =>
                have c0_0 := cb HB1.out C00.out; have c0_1 := cb HB1.out C01.out; have q0 := cb HB1.out Q0.out; have q1 := cb HB1.out Q1.out; have q2 := cb HB1.out Q2.out
                go_wp2_with fail
                go_roundw
                case rel => exact ⟨k + 1, A, cap, ⟨out, false⟩, ⟨by simp, rfl, by simp⟩, by omega, HST, Lib.hid (by have h8 := R1.out; first | exact h8 | (rw [show out.length + 1 = (out).length by simp] at h8; exact h8)), HB1⟩
                case measure => simp [intOf]; omega
              | true =>
                have c0_0 := cb HB1.out C00.out; have c0_1 := cb HB1.out C01.out; have q0 := cb HB1.out Q0.out; have q1 := cb HB1.out Q1.out; have q2 := cb HB1.out Q2.out
                go_wp2_with fail
                go_roundw
                case rel => exact ⟨k + 1, A, cap, ⟨out, true⟩, ⟨by simp, rfl, by simp⟩, by omega, HST, Lib.hid (by have h8 := R1.out; first | exact h8 | (rw [show out.length + 1 = (out).length by simp] at h8; exact h8)), HB1⟩
                case measure => simp [intOf]; omega
            · have hbf := beqF hne
              have hbn := neF hne
              have HST := Lib.hid (show putS n x (v.take (k + 1)) = ⟨out ++ [p], d⟩ by rw [HSTEP.out]; unfold stepP; simp only [hah]; rw [if_neg hne]; simp)
              clear hah hne
              cases d with
              | false =>
                have c0_0 := cb HB1.out C00.out; have c0_1 := cb HB1.out C01.out; have q0 := cb HB1.out Q0.out; have q1 := cb HB1.out Q1.out; have q2 := cb HB1.out Q2.out
                go_wp2_with (at_builtin; refine app_entry rfl (.tmp 50) (.tmp 55) rfl W.heap.size _ _ out p rfl R1.out 1 rfl HB1.out.size (by simp; omega) ?_; intro A2 cap2 w2 hown2 hk2; have R2 := Lib.hid hown2; have HB2 := Lib.hid (HB1.out.trans (hk2.below (B := W.heap.size) HB1.out.size (fun q hq => (rw_type R1.out hq).1))); clear hown2 hk2; have c0_0 := cb HB2.out C00.out; have c0_1 := cb HB2.out C01.out; have q0 := cb HB2.out Q0.out; have q1 := cb HB2.out Q1.out; have q2 := cb HB2.out Q2.out)
                go_roundw
                case rel => exact ⟨k + 1, (some ⟨A2, 0, none⟩), cap2, ⟨out ++ [p], false⟩, ⟨by simp, rfl, by simp⟩, by omega, HST, Lib.hid (by have h8 := R2.out; first | exact h8 | (rw [show out.length + 1 = (out ++ [p]).length by simp] at h8; exact h8)), HB2⟩
                case measure => simp [intOf]; omega
              | true =>
                have c0_0 := cb HB1.out C00.out; have c0_1 := cb HB1.out C01.out; have q0 := cb HB1.out Q0.out; have q1 := cb HB1.out Q1.out; have q2 := cb HB1.out Q2.out
                go_wp2_with (at_builtin; refine app_entry rfl (.tmp 50) (.tmp 55) rfl W.heap.size _ _ out p rfl R1.out 1 rfl HB1.out.size (by simp; omega) ?_; intro A2 cap2 w2 hown2 hk2; have R2 := Lib.hid hown2; have HB2 := Lib.hid (HB1.out.trans (hk2.below (B := W.heap.size) HB1.out.size (fun q hq => (rw_type R1.out hq).1))); clear hown2 hk2; have c0_0 := cb HB2.out C00.out; have c0_1 := cb HB2.out C01.out; have q0 := cb HB2.out Q0.out; have q1 := cb HB2.out Q1.out; have q2 := cb HB2.out Q2.out)
                go_roundw
                case rel => exact ⟨k + 1, (some ⟨A2, 0, none⟩), cap2, ⟨out ++ [p], true⟩, ⟨by simp, rfl, by simp⟩, by omega, HST, Lib.hid (by have h8 := R2.out; first | exact h8 | (rw [show out.length + 1 = (out ++ [p]).length by simp] at h8; exact h8)), HB2⟩
                case measure => simp [intOf]; omega
        · obtain rfl : k = v.length := by omega
          have hS := HS.out
          rw [List.take_length] at hS
          have HSS := Lib.hid hS
          have hol : S.out.length ≤ v.length + 1 := by rw [← hS]; exact (putS_len n x v).1
          clear hS HS
          obtain ⟨out, d⟩ := S
          simp only at hol
          have c0_0 := cb HB0.out C00.out; have c0_1 := cb HB0.out C01.out
          have hWw := Hw.out.size
          cases d with
          | true =>
            have HE := Lib.hid (show putR v n x = out by unfold putR; rw [HSS.out]; rfl)
            go_wp2_with fail
            go_ret
            rw [HE.out]
            exact ⟨_, rfl, rw_mono R0.out hWw, Hw.out.trans (HB0.out.mono hWw)⟩
          | false =>
            have HE := Lib.hid (show putR v n x = out ++ [(n, x)] by unfold putR; rw [HSS.out]; rfl)
            go_wp2_with (at_builtin; refine app_entry rfl (.tmp 59) (.tmp 63) rfl W.heap.size _ _ out (n, x) rfl R0.out 1 rfl HB0.out.size (by simp; omega) ?_; intro A2 cap2 w2 hown2 hk2; have R2 := Lib.hid hown2; have HB2 := Lib.hid (HB0.out.trans (hk2.below (B := W.heap.size) HB0.out.size (fun q hq => (rw_type R0.out hq).1))); clear hown2 hk2)
            go_ret
            rw [HE.out]
            exact ⟨_, rfl, rw_mono R2.out hWw, Hw.out.trans (HB2.out.mono hWw)⟩

    · clear hz2
      go_wp2_with fail
      clear c0_0 c0_1 h1
      clear hB
      go_loopw [7, 8, 9] (fun o d i wr => ∃ (k : Nat) (A : Option Addr) (cap : Nat) (S : PutS), (i = .int .i64 k ∧ d = .bool S.done ∧ o = .slice A S.out.length cap) ∧ k ≤ v.length ∧ Hid (putS n x (v.take k) = S) ∧ Hid (wr.ownsRow W.heap.size 64 3 (.slice A S.out.length cap) S.out.length (vecC S.out)) ∧ Hid (Below W.heap.size W wr)) (fun _ _ i _ => v.length - (intOf i).toNat)
      case atStart => exact ⟨0, none, 0, ⟨[], decide (x = 0)⟩, ⟨rfl, by rw [HX0.out], rfl⟩, Nat.zero_le _, Lib.hid rfl, Lib.hid (World.ownsRow_nil _ _ _ _), Lib.hid (Below.refl _ _)⟩
      case round =>
        obtain ⟨k, A, cap, S, ⟨rfl, rfl, rfl⟩, hk, HS, R0, HB0⟩ := hrel
        by_cases hkl : k < v.length
        · have hkI : (k : Int) < v.length := by omega
          obtain ⟨b, o, c, he, q0, q1, q2, hin⟩ := HW.out.at' hkl
          cases he
          have hsz := HSZ.out _ (List.getElem_mem hkl)
          have HSTEP := Lib.hid (putS_succ (n := n) (x := x) hkl)
          rw [HS.out] at HSTEP
          have hol : S.out.length ≤ k + 1 := by
            have := (putS_len n x (v.take k)).1
            rw [HS.out, List.length_take] at this; omega
          clear hin
          obtain ⟨p, hp⟩ : ∃ p, v[k]'hkl = p := ⟨_, rfl⟩
          rw [hp] at q0 q1 q2 hsz HSTEP
          have Q0 := Lib.hid q0; have Q1 := Lib.hid q1; have Q2 := Lib.hid q2
          clear hp HS q0 q1 q2
          obtain ⟨out, d⟩ := S
          simp only at hol
          have q0 := cb HB0.out Q0.out
          go_wp2_with fail
          refine (beforeB_calls n p.1 _ (by omega) (by omega)).mono ?_
          rintro e w2 ⟨rfl, hb⟩
          have R1 := Lib.hid (rw_below R0.out hb)
          have HB1 := Lib.hid (bl_next HB0.out hb)
          clear hb R0 HB0 q0
          obtain ⟨V1, rfl⟩ : ∃ V1 : World, V1 = w2 := ⟨_, rfl⟩
          cases hah : ltB n p.1 with
          | true =>
            have hne : ¬ p.1 = n := (strictB.ne hah).symm
            have hbf := beqF hne
            have hbn := neF hne
            cases d with
            | false =>
              have HST := Lib.hid (show putS n x (v.take (k + 1)) = ⟨out ++ [(n, x)] ++ [p], true⟩ by rw [HSTEP.out]; unfold stepP; simp only [hah]; rw [if_neg hne]; rfl)
              clear hah hne
              have c0_0 := cb HB1.out C00.out; have c0_1 := cb HB1.out C01.out; have q0 := cb HB1.out Q0.out; have q1 := cb HB1.out Q1.out; have q2 := cb HB1.out Q2.out
              go_wp2_with (first | (at_builtin; refine app_entry rfl (.tmp 37) (.tmp 41) rfl W.heap.size _ _ out (n, x) rfl R1.out 1 rfl HB1.out.size (by simp; omega) ?_; intro A2 cap2 w2 hown2 hk2; have R2 := Lib.hid hown2; have HB2 := Lib.hid (HB1.out.trans (hk2.below (B := W.heap.size) HB1.out.size (fun q hq => (rw_type R1.out hq).1))); clear hown2 hk2; have c0_0 := cb HB2.out C00.out; have c0_1 := cb HB2.out C01.out; have q0 := cb HB2.out Q0.out; have q1 := cb HB2.out Q1.out; have q2 := cb HB2.out Q2.out) | (at_builtin; refine app_entry rfl (.tmp 50) (.tmp 55) rfl W.heap.size _ _ (out ++ [(n, x)]) p rfl R2.out 1 rfl HB2.out.size (by simp; omega) ?_; intro A3 cap3 w3 hown3 hk3; have R3 := Lib.hid hown3; have HB3 := Lib.hid (HB2.out.trans (hk3.below (B := W.heap.size) HB2.out.size (fun q hq => (rw_type R2.out hq).1))); clear hown3 hk3; have c0_0 := cb HB3.out C00.out; have c0_1 := cb HB3.out C01.out; have q0 := cb HB3.out Q0.out; have q1 := cb HB3.out Q1.out; have q2 := cb HB3.out Q2.out))
              go_roundw
              case rel => exact ⟨k + 1, (some ⟨A3, 0, none⟩), cap3, ⟨out ++ [(n, x)] ++ [p], true⟩, ⟨by simp, rfl, by simp⟩, by omega, HST, Lib.hid (by have h8 := R3.out; first | exact h8 | (rw [show (out ++ [(n, x)]).length + 1 = (out ++ [(n, x)] ++ [p]).length by simp] at h8; exact h8)), HB3⟩
              case measure => simp [intOf]; omega
            | true =>
              have HST := Lib.hid (show putS n x (v.take (k + 1)) = ⟨out ++ [p], true⟩ by rw [HSTEP.out]; unfold stepP; simp only [hah]; rw [if_neg hne]; rfl)
              clear hah hne
              have c0_0 := cb HB1.out C00.out; have c0_1 := cb HB1.out C01.out; have q0 := cb HB1.out Q0.out; have q1 := cb HB1.out Q1.out; have q2 := cb HB1.out Q2.out
              go_wp2_with (at_builtin; refine app_entry rfl (.tmp 50) (.tmp 55) rfl W.heap.size _ _ out p rfl R1.out 1 rfl HB1.out.size (by simp; omega) ?_; intro A2 cap2 w2 hown2 hk2; have R2 := Lib.hid hown2; have HB2 := Lib.hid (HB1.out.trans (hk2.below (B := W.heap.size) HB1.out.size (fun q hq => (rw_type R1.out hq).1))); clear hown2 hk2; have c0_0 := cb HB2.out C00.out; have c0_1 := cb HB2.out C01.out; have q0 := cb HB2.out Q0.out; have q1 := cb HB2.out Q1.out; have q2 := cb HB2.out Q2.out)
              go_roundw
              case rel => exact ⟨k + 1, (some ⟨A2, 0, none⟩), cap2, ⟨out ++ [p], true⟩, ⟨by simp, rfl, by simp⟩, by omega, HST, Lib.hid (by have h8 := R2.out; first | exact h8 | (rw [show out.length + 1 = (out ++ [p]).length by simp] at h8; exact h8)), HB2⟩
              case measure => simp [intOf]; omega
          | false =>
            by_cases hne : p.1 = n
            · have hbf : (p.1.toList == n.toList) = true := by rw [beq_str]; simpa using hne
              have hbn : p.1.toList = n.toList := by rw [hne]
              have HST := Lib.hid (show putS n x (v.take (k + 1)) = ⟨out, d⟩ by rw [HSTEP.out]; unfold stepP; simp only [hah]; rw [if_pos hne]; simp)
              clear hah hne
              cases d with
              | false =>
                have c0_0 := cb HB1.out C00.out; have c0_1 := cb HB1.out C01.out; have q0 := cb HB1.out Q0.out; have q1 := cb HB1.out Q1.out; have q2 := cb HB1.out Q2.out
                go_wp2_with fail
                go_roundw
                case rel => exact ⟨k + 1, A, cap, ⟨out, false⟩, ⟨by simp, rfl, by simp⟩, by omega, HST, Lib.hid (by have h8 := R1.out; first | exact h8 | (rw [show out.length + 1 = (out).length by simp] at h8; exact h8)), HB1⟩
                case measure => simp [intOf]; omega
              | true =>
                have c0_0 := cb HB1.out C00.out; have c0_1 := cb HB1.out C01.out; have q0 := cb HB1.out Q0.out; have q1 := cb HB1.out Q1.out; have q2 := cb HB1.out Q2.out
                go_wp2_with fail
                go_roundw
                case rel => exact ⟨k + 1, A, cap, ⟨out, true⟩, ⟨by simp, rfl, by simp⟩, by omega, HST, Lib.hid (by have h8 := R1.out; first | exact h8 | (rw [show out.length + 1 = (out).length by simp] at h8; exact h8)), HB1⟩
                case measure => simp [intOf]; omega
            · have hbf := beqF hne
              have hbn := neF hne
              have HST := Lib.hid (show putS n x (v.take (k + 1)) = ⟨out ++ [p], d⟩ by rw [HSTEP.out]; unfold stepP; simp only [hah]; rw [if_neg hne]; simp)
              clear hah hne
              cases d with
              | false =>
                have c0_0 := cb HB1.out C00.out; have c0_1 := cb HB1.out C01.out; have q0 := cb HB1.out Q0.out; have q1 := cb HB1.out Q1.out; have q2 := cb HB1.out Q2.out
                go_wp2_with (at_builtin; refine app_entry rfl (.tmp 50) (.tmp 55) rfl W.heap.size _ _ out p rfl R1.out 1 rfl HB1.out.size (by simp; omega) ?_; intro A2 cap2 w2 hown2 hk2; have R2 := Lib.hid hown2; have HB2 := Lib.hid (HB1.out.trans (hk2.below (B := W.heap.size) HB1.out.size (fun q hq => (rw_type R1.out hq).1))); clear hown2 hk2; have c0_0 := cb HB2.out C00.out; have c0_1 := cb HB2.out C01.out; have q0 := cb HB2.out Q0.out; have q1 := cb HB2.out Q1.out; have q2 := cb HB2.out Q2.out)
                go_roundw
                case rel => exact ⟨k + 1, (some ⟨A2, 0, none⟩), cap2, ⟨out ++ [p], false⟩, ⟨by simp, rfl, by simp⟩, by omega, HST, Lib.hid (by have h8 := R2.out; first | exact h8 | (rw [show out.length + 1 = (out ++ [p]).length by simp] at h8; exact h8)), HB2⟩
                case measure => simp [intOf]; omega
              | true =>
                have c0_0 := cb HB1.out C00.out; have c0_1 := cb HB1.out C01.out; have q0 := cb HB1.out Q0.out; have q1 := cb HB1.out Q1.out; have q2 := cb HB1.out Q2.out
                go_wp2_with (at_builtin; refine app_entry rfl (.tmp 50) (.tmp 55) rfl W.heap.size _ _ out p rfl R1.out 1 rfl HB1.out.size (by simp; omega) ?_; intro A2 cap2 w2 hown2 hk2; have R2 := Lib.hid hown2; have HB2 := Lib.hid (HB1.out.trans (hk2.below (B := W.heap.size) HB1.out.size (fun q hq => (rw_type R1.out hq).1))); clear hown2 hk2; have c0_0 := cb HB2.out C00.out; have c0_1 := cb HB2.out C01.out; have q0 := cb HB2.out Q0.out; have q1 := cb HB2.out Q1.out; have q2 := cb HB2.out Q2.out)
                go_roundw
                case rel => exact ⟨k + 1, (some ⟨A2, 0, none⟩), cap2, ⟨out ++ [p], true⟩, ⟨by simp, rfl, by simp⟩, by omega, HST, Lib.hid (by have h8 := R2.out; first | exact h8 | (rw [show out.length + 1 = (out ++ [p]).length by simp] at h8; exact h8)), HB2⟩
                case measure => simp [intOf]; omega
        · obtain rfl : k = v.length := by omega
          have hS := HS.out
          rw [List.take_length] at hS
          have HSS := Lib.hid hS
          have hol : S.out.length ≤ v.length + 1 := by rw [← hS]; exact (putS_len n x v).1
          clear hS HS
          obtain ⟨out, d⟩ := S
          simp only at hol
          have c0_0 := cb HB0.out C00.out; have c0_1 := cb HB0.out C01.out
          have hWw := Hw.out.size
          cases d with
          | true =>
            have HE := Lib.hid (show putR v n x = out by unfold putR; rw [HSS.out]; rfl)
            go_wp2_with fail
            go_ret
            rw [HE.out]
            exact ⟨_, rfl, rw_mono R0.out hWw, Hw.out.trans (HB0.out.mono hWw)⟩
          | false =>
            have HE := Lib.hid (show putR v n x = out ++ [(n, x)] by unfold putR; rw [HSS.out]; rfl)
            go_wp2_with (at_builtin; refine app_entry rfl (.tmp 59) (.tmp 63) rfl W.heap.size _ _ out (n, x) rfl R0.out 1 rfl HB0.out.size (by simp; omega) ?_; intro A2 cap2 w2 hown2 hk2; have R2 := Lib.hid hown2; have HB2 := Lib.hid (HB0.out.trans (hk2.below (B := W.heap.size) HB0.out.size (fun q hq => (rw_type R0.out hq).1))); clear hown2 hk2)
            go_ret
            rw [HE.out]
            exact ⟨_, rfl, rw_mono R2.out hWw, Hw.out.trans (HB2.out.mono hWw)⟩

end Go.Proofs.Yteomicjjaajblaa
