import Derived.Test.YtdcceaafiammfaaFdm
namespace Go.Proofs.Ytdcceaafiammfaa
open Go.RowKit
set_option linter.unusedVariables false
set_option linter.unusedSimpArgs false
theorem settled_covered (l : List Item) : settledAll l l.length = true := safe_settled (safe_covered l)
set_option maxRecDepth 100000 in
set_option maxHeartbeats 4000000 in
theorem feedSafe_law (w : World) (A : Option Addr) (cap : Nat) (xs : List ActX) (h : Acts w A xs) :
    Calls Try.prog 4 #[.slice A xs.length cap] w fun e w' => e = .returned (.bool true) ∧ Below w.heap.size w w' := by
  have hB := Below.refl w.heap.size w
  have H := Lib.hid h
  clear h
  cases hf : fitsB xs with
  | false =>
    have HF := Lib.hid hf
    clear hf
    go_enter Try.func4, Try.ntmps4
    go_wp2_with (first | (go_at_call 12; refine (fits10_calls _ _ _ _ H.out).mono ?_; rintro e w' ⟨rfl, hb⟩; rw [HF.out]; have hB := bl_next hB hb; clear hb) | (go_at_call 13; refine (alive10_calls _).mono ?_; rintro e w' ⟨rfl, hb⟩; have hB := bl_next hB hb; clear hb))
    go_ret
    exact ⟨rfl, hB⟩
  | true =>
    obtain ⟨hl, hfit⟩ := fitsB_spec hf
    have HF := Lib.hid hf
    have HFIT := Lib.hid hfit
    clear hf hfit
    go_enter Try.func4, Try.ntmps4
    go_wp2_with (first | (go_at_call 12; refine (fits10_calls _ _ _ _ H.out).mono ?_; rintro e w' ⟨rfl, hb⟩; rw [HF.out]; have hB := bl_next hB hb; clear hb) | (go_at_call 14; refine (new_fs w _ hB).mono ?_; rintro e w1 ⟨rfl, S, hb⟩; have S0 := Lib.hid S; clear S hb))
    obtain ⟨fp, hfp⟩ : ∃ fp, fp = w'.heap.size := ⟨_, rfl⟩
    rw [← hfp] at S0 ⊢
    clear hB hfp
    go_loopw [5] (fun i wr => ∃ (k cov : Nat) (v : Value) (l : List Item), i = .int .i64 k ∧ k ≤ xs.length ∧ l.length ≤ k ∧ Good l cov ∧ FS w wr fp v l cov) (fun i _ => xs.length - (intOf i).toNat)
    case atStart => exact ⟨0, 0, _, [], rfl, Nat.zero_le _, Nat.le_refl _, ⟨Nat.zero_le _, fun x hx => by cases hx⟩, S0.out⟩
    case round =>
      obtain ⟨k, cov, v, l, rfl, hk, hlk, hg, S⟩ := hrel
      have SS := Lib.hid S
      have HG := Lib.hid hg
      clear S hg
      by_cases hkl : k < xs.length
      · have hkI : (k : Int) < xs.length := by omega
        obtain ⟨s1, hs1⟩ : ∃ s, safeN l cov = s := ⟨_, rfl⟩
        obtain ⟨r, hr⟩ : ∃ r, doR l cov (xs[k]'hkl) = r := ⟨_, rfl⟩
        obtain ⟨e2, l2, c2⟩ := r
        obtain ⟨s2, hs2⟩ : ∃ s, safeN l2 c2 = s := ⟨_, rfl⟩
        have hrise := safe_rises l cov (xs[k]'hkl)
        have hgd := good_do HG.out (xs[k]'hkl) (HFIT.out k hkl)
        have hdl := do_length l cov (xs[k]'hkl)
        rw [hr] at hrise hgd hdl
        rw [hs1] at hrise
        have hle := (safe_spec l2 c2).1
        rw [hs2] at hle
        simp only at hrise hgd hdl
        rw [hs2] at hrise
        obtain ⟨st, hst⟩ : ∃ st, settledAll l2 c2 = st := ⟨_, rfl⟩
        have hset : s2 = l2.length → st = true := fun q => by rw [← hst]; exact safe_settled (hs2.trans q)
        obtain ⟨b, off, rfl, hbA, c0, c1, c2', c3, c4, q⟩ := (H.out.below SS.out.below).at' k hkl
        have HR := Lib.hid hr
        obtain ⟨a, ha⟩ : ∃ a, xs[k]'hkl = a := ⟨_, rfl⟩
        rw [ha] at c0 c1 c2' c3 c4 q HR
        have H1 := Lib.hid hs1; have H2 := Lib.hid hs2; have H3 := Lib.hid hst; have HGD := Lib.hid hgd; have HSET := Lib.hid hset
        obtain ⟨q0, q1, q2, q3⟩ := q
        have hl2 : l2.length ≤ k + 1 := by omega
        have t1 : ((s2 : Int)) ≤ l2.length := by omega
        have t2 : ((s1 : Int)) ≤ s2 := by omega
        clear hr ha hs1 hs2 hst hgd hset hdl
        go_wp2_with fail
        refine (safe_fs SS.out (by omega) s1 H1.out).mono ?_
        rintro e w2 ⟨rfl, S, hb⟩
        have S2 := Lib.hid S
        have c0 := cb hb c0; have c1 := cb hb c1; have c2' := cb hb c2'; have c3 := cb hb c3; have c4 := cb hb c4
        clear S SS hb
        go_wp2_with fail
        refine (do_fs S2.out (by omega) a q0 q1 e2 l2 c2 HR.out).mono ?_
        rintro e w3 ⟨rfl, v2, S, hk⟩
        have S3 := Lib.hid S
        clear S S2 c0 c1 c2' c3 c4 hk
        go_wp2_with fail
        refine (safe_fs S3.out (by omega) s2 H2.out).mono ?_
        rintro e w4 ⟨rfl, S, hb⟩
        have S4 := Lib.hid S
        clear S S3 hb
        by_cases he : s2 = l2.length
        · obtain rfl : st = true := HSET.out he
          have e1 : ((s2 : Int) == (l2.length : Int)) = true := by rw [he]; simp
          have HE := Lib.hid he
          clear he
          go_wp2_with (first | (go_at_call 20; refine (len_fs S4.out).mono ?_; rintro e w5 ⟨rfl, S, hb⟩; have S5 := Lib.hid S; clear S4; have S4 := S5; clear S5 S hb) | (go_at_call 23; refine (settled_fs S4.out (by omega) HGD.out.fit true H3.out).mono ?_; rintro e w6 ⟨rfl, S, hb⟩; have S5 := Lib.hid S; clear S4; have S4 := S5; clear S5 S hb))
          go_roundw
          case rel => exact ⟨k + 1, c2, v2, l2, by simp, by omega, hl2, HGD.out, S4.out⟩
          case measure => simp [intOf]; omega
        · have e1 : ((s2 : Int) == (l2.length : Int)) = false := by simp; omega
          clear he
          go_wp2_with (first | (go_at_call 20; refine (len_fs S4.out).mono ?_; rintro e w5 ⟨rfl, S, hb⟩; have S5 := Lib.hid S; clear S4; have S4 := S5; clear S5 S hb))
          go_roundw
          case rel => exact ⟨k + 1, c2, v2, l2, by simp, by omega, hl2, HGD.out, S4.out⟩
          case measure => simp [intOf]; omega
      · have hkI : (xs.length : Int) ≤ k := by omega
        have R1 := Lib.hid (cover_all HG.out.le)
        have R2 := Lib.hid (safe_covered l)
        have R3 := Lib.hid (settled_covered l)
        have R4 := Lib.hid (open_covered l)
        have hll : l.length ≤ 100 := by omega
        go_wp2_with fail
        refine (len_fs SS.out).mono ?_
        rintro e w2 ⟨rfl, S, hb⟩
        have S2 := Lib.hid S; clear S SS hb
        go_wp2_with fail
        refine (cover_fs S2.out _ 0 l.length R1.out).mono ?_
        rintro e w3 ⟨rfl, S, hb⟩
        have S3 := Lib.hid S; clear S S2 hb
        go_wp2_with (first | (go_at_call 13; refine (alive10_calls _).mono ?_; rintro e w5 ⟨rfl, hb⟩; have S5 := Lib.hid (S3.out.read hb); clear S3 hb; have S3 := S5; clear S5) | (go_at_call 20; refine (len_fs S3.out).mono ?_; rintro e w5 ⟨rfl, S, hb⟩; have S5 := Lib.hid S; clear S3; have S3 := S5; clear S5 S hb) | (go_at_call 21; refine (safe_fs S3.out (by omega) l.length R2.out).mono ?_; rintro e w5 ⟨rfl, S, hb⟩; have S5 := Lib.hid S; clear S3; have S3 := S5; clear S5 S hb) | (go_at_call 23; refine (settled_fs S3.out (by omega) HG.out.fit true R3.out).mono ?_; rintro e w6 ⟨rfl, S, hb⟩; have S5 := Lib.hid S; clear S3; have S3 := S5; clear S5 S hb) | (go_at_call 18; refine (open_fs S3.out (by omega) [] R4.out).mono ?_; rintro e w2 ⟨u, rfl, ho, S, hb⟩; obtain ⟨ao, cap', rfl⟩ := own_form ho; have S5 := Lib.hid S; clear S3; have S3 := S5; clear S5 S hb ho))
        go_ret
        exact ⟨rfl, S3.out.below⟩
theorem feedSafeWalk {W : World} (y : List ActX) (v : Value) (h : (kSlice kAct).K W anyB y [v]) : Calls Try.prog 4 #[v] W fun e W' => e = .returned (.bool true) ∧ Below W.heap.size W W' := by
  obtain ⟨A, c, hv, -, hr⟩ := h
  obtain rfl : v = .slice A y.length c := by simpa using hv
  exact feedSafe_law W A c y (acts_of hr)
end Go.Proofs.Ytdcceaafiammfaa
