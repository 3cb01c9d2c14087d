import Derived.Test.YthaipgbjnigkhaaMkj
namespace Go.Proofs.Ythaipgbjnigkhaa
open Go.RowKit Go.Shelf Go.Maps
set_option linter.unusedVariables false
set_option linter.unusedSimpArgs false
set_option linter.unusedSectionVars false
set_option maxRecDepth 100000 in
set_option maxHeartbeats 4000000 in
theorem rnext_calls {base rp : Nat} {u : Value} {T : Nodes} (w : World) (R : RefT w base rp u T) (G : Good11 T) (L : List ByteArray) {v : Value} (hv : StrS w v L) (hl : L.length ≤ 1000000) :
    Calls Try.prog 57 #[v, .pointer (some ⟨rp, 0, none⟩)] w fun e w' => e = .returned (.tuple #[.string (nextD T L).1, .bool (decide (0 < (nextD T L).2))]) ∧ Below w.heap.size w w' := by
  obtain ⟨av, cv, rfl⟩ := hv.form
  have hB := Below.refl w.heap.size w
  have H := Lib.hid R
  have HV := Lib.hid hv
  have hTl : T.length ≤ 1000000 := by have := G.few; omega
  have HD := Lib.hid (show ∀ x, (pathT T x).length < 19 from fun x => Nat.lt_of_le_of_lt (G.deep x) (by decide))
  clear R hv
  go_enter Try.func57, Try.ntmps57
  go_wp2_with fail
  go_loopw [6] (fun i wr => ∃ D : Nat, i = .int .i64 D ∧ D ≤ 8 ∧ Hid (∀ x ∈ L, (pathT T x).length ≤ D) ∧ Below w.heap.size w wr) (fun i _ => (intOf i).toNat)
  case atStart => exact ⟨8, rfl, Nat.le_refl _, Lib.hid (fun x _ => G.deep x), hB⟩
  case round =>
    clear hB
    obtain ⟨D, rfl, hD, HA, hB⟩ := hrel
    by_cases hD0 : D = 0
    · subst hD0
      have HE := Lib.hid (nextD_zero (T := T) L (fun x hx => Nat.le_zero.1 (HA.out x hx)))
      go_wp2_with fail
      refine bodyPost_ret (v := .tuple #[.string ⟨#[]⟩, .bool false]) (by simp [results, Try.results57, go_sem]) rfl ⟨by rw [HE.out]; rfl, hB⟩
    · obtain ⟨E, rfl⟩ : ∃ E, D = E + 1 := ⟨D - 1, by omega⟩
      have hEI : (1 : Int) ≤ (E : Int) + 1 := by omega
      have hE8 : (E : Int) ≤ 7 := by omega
      clear hD0
      rw [show (((E + 1 : Nat) : Int)) = (E : Int) + 1 by omega]
      go_wp2_with fail
      go_loopw [7] (fun i wr => ∃ j : Nat, i = .int .i64 j ∧ j ≤ L.length ∧ Hid (∀ q (hq : q < L.length), q < j → (pathT T (L[q]'hq)).length ≠ E + 1) ∧ Below w.heap.size w wr) (fun i _ => L.length - (intOf i).toNat)
      case atStart => exact ⟨0, rfl, Nat.zero_le _, Lib.hid (fun q hq h => absurd h (Nat.not_lt_zero _)), hB⟩
      case round =>
        clear hB
        obtain ⟨j, rfl, hj, HN, hB⟩ := hrel
        by_cases hjl : j < L.length
        · have hjI : (j : Int) < L.length := by omega
          obtain ⟨b1, o1, c1, he, q⟩ := HV.out.at' hjl
          cases he
          have Q := Lib.hid q
          have q := cb hB q
          obtain ⟨pl, hpl⟩ : ∃ l, pathT T (L[j]'hjl) = l := ⟨_, rfl⟩
          have HPL := Lib.hid hpl
          have hp8 : pl.length ≤ 8 := by rw [← hpl]; exact G.deep _
          clear hpl
          go_wp2_with fail
          refine (rpathT_calls _ (H.out.below hB) G.rise HD.out _ hTl).mono ?_
          rintro e w2 ⟨v2, rfl, hrow, hb⟩
          rw [HPL.out] at hrow
          obtain ⟨a2, c2, rfl⟩ := rw_form hrow
          have hB := bl_next hB hb
          clear hrow hb q
          have q := cb hB Q.out
          by_cases hlt : pl.length = E + 1
          · have hltI : ((pl.length : Int) == (E : Int) + 1) = true := by simp; omega
            have hltP : (pl.length : Int) = (E : Int) + 1 := by omega
            have HE := Lib.hid (nextD_is (T := T) (D := E + 1) (by omega) hjl HA.out (by rw [HPL.out]; exact hlt) HN.out)
            clear hlt
            go_wp2_with fail
            refine bodyPost_ret (v := .tuple #[.string (L[j]'hjl), .bool true]) (by simp [results, Try.results57, go_sem]) rfl ⟨by rw [HE.out]; simp, hB⟩
          · have hltI : ((pl.length : Int) == (E : Int) + 1) = false := by simp; omega
            have hltP : ¬ (pl.length : Int) = (E : Int) + 1 := by omega
            have HNE := Lib.hid hlt
            clear hlt
            go_wp2_with fail
            go_roundw
            case rel =>
              refine ⟨j + 1, by simp, by omega, Lib.hid (fun q hq h => ?_), hB⟩
              rcases Nat.lt_or_ge q j with k9 | k9
              · exact HN.out q hq k9
              · obtain rfl : q = j := by omega
                rw [HPL.out]; exact HNE.out
            case measure => simp [intOf]; omega
        · obtain rfl : j = L.length := by omega
          go_wp2_with fail
          go_roundw
          case rel =>
            refine ⟨E, by simp, by omega, Lib.hid (fun x hx => ?_), hB⟩
            obtain ⟨q, hq, rfl⟩ := List.getElem_of_mem hx
            have h1 := HA.out _ hx
            have h2 := HN.out q hq hq
            omega
          case measure => simp [intOf]
end Go.Proofs.Ythaipgbjnigkhaa
