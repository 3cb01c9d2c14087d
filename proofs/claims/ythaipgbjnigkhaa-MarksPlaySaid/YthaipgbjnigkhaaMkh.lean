import Derived.Test.YthaipgbjnigkhaaMkg
namespace Go.Proofs.Ythaipgbjnigkhaa
open Go.RowKit Go.Shelf Go.Maps
set_option linter.unusedVariables false
set_option linter.unusedSimpArgs false
set_option linter.unusedSectionVars false
set_option maxRecDepth 100000 in
set_option maxHeartbeats 4000000 in
theorem rmarks_calls (w : World) (N : Nodes) (l : List ByteArray) {v v2 : Value} (hv : StrS w v (allN N)) (hv2 : StrS w v2 l) (hl : N.length + l.length ≤ 100000) (hsz : ∀ x ∈ allN N, x.size ≤ 1000) (hs : ∀ x ∈ l, x.size ≤ 1000) :
    Calls Try.prog 53 #[v, v2] w fun e w' => ∃ u, e = .returned u ∧ StrS w' u (allN (markAll N l)) ∧ Below w.heap.size w w' := by
  obtain ⟨a1, c1, rfl⟩ := hv.form
  obtain ⟨a2, c2, rfl⟩ := hv2.form
  have hB := Below.refl w.heap.size w
  have HV := Lib.hid hv
  have HV2 := Lib.hid hv2
  have HSZ := Lib.hid hsz
  have HS := Lib.hid hs
  clear hv hv2 hsz hs
  go_enter Try.func53, Try.ntmps53
  go_wp2_with fail
  go_loopw [5, 6] (fun s5 i wr => ∃ (k : Nat) (u : Value), (i = .int .i64 k ∧ s5 = u) ∧ k ≤ l.length ∧ Hid (StrS wr u (allN (markAll N (l.take k)))) ∧ Hid (∀ x ∈ allN (markAll N (l.take k)), x.size ≤ 1000) ∧ Below w.heap.size w wr) (fun _ i _ => l.length - (intOf i).toNat)
  case atStart => exact ⟨0, _, ⟨rfl, rfl⟩, Nat.zero_le _, HV, HSZ, hB⟩
  case round =>
    clear hB
    obtain ⟨k, u, ⟨rfl, rfl⟩, hk, HU, HZ, hB⟩ := hrel
    by_cases hkl : k < l.length
    · have hkI : (k : Int) < l.length := by omega
      obtain ⟨b, o, c', he, q⟩ := HV2.out.at' hkl
      cases he
      have q := cb hB q
      have HN := Lib.hid (markAll_succ (N := N) hkl)
      have hxs := HS.out _ (List.getElem_mem hkl)
      have hlen := markAll_len N (l.take k)
      rw [List.length_take, Nat.min_eq_left hk] at hlen
      obtain ⟨x, hx⟩ : ∃ x, l[k]'hkl = x := ⟨_, rfl⟩
      rw [hx] at q hxs HN
      obtain ⟨M, hM⟩ : ∃ M, markAll N (l.take k) = M := ⟨_, rfl⟩
      rw [hM] at HU HN hlen HZ
      clear hx hM
      go_wp2_with fail
      refine (rmark_calls _ M HU.out (by omega) x hxs HZ.out).mono ?_
      rintro e w2 ⟨u2, rfl, hu2, hb⟩
      have HU2 := Lib.hid hu2
      have hB := bl_next hB hb
      have HZ2 := Lib.hid (show ∀ y ∈ allN (markN M x), y.size ≤ 1000 from fun y hy => by
        have hy2 := mem_all.1 hy
        unfold markN at hy2
        cases hq : hasN M x with
        | true => rw [hq] at hy2; exact HZ.out y (mem_all.2 hy2)
        | false =>
          rw [hq] at hy2
          simp only [Bool.false_eq_true, if_false] at hy2
          rw [hasN_ins, Bool.or_eq_true, decide_eq_true_eq] at hy2
          rcases hy2 with rfl | hy2
          · exact hxs
          · exact HZ.out y (mem_all.2 hy2))
      clear hu2 hb q
      go_wp2_with fail
      go_roundw
      case rel => exact ⟨k + 1, _, ⟨by simp, rfl⟩, by omega, Lib.hid (by rw [HN.out]; exact HU2.out), Lib.hid (by rw [HN.out]; exact HZ2.out), hB⟩
      case measure => simp [intOf]; omega
    · obtain rfl : k = l.length := by omega
      go_wp2_with fail
      go_ret
      exact ⟨_, rfl, by have := HU.out; rw [List.take_length] at this; exact this, hB⟩
end Go.Proofs.Ythaipgbjnigkhaa
