import Derived.Test.YthaipgbjnigkhaaMkd
import Derived.Test.YthaipgbjnigkhaaTsf
namespace Go.Proofs.Ythaipgbjnigkhaa
open Go.RowKit Go.Shelf Go.Maps
set_option linter.unusedVariables false
set_option linter.unusedSimpArgs false
set_option linter.unusedSectionVars false
/-! ### The deepest one -/
def stepD (T : Nodes) (bd : ByteArray × Nat) (s : ByteArray) : ByteArray × Nat := if bd.2 < (pathT T s).length then (s, (pathT T s).length) else bd
def nextD (T : Nodes) (l : List ByteArray) : ByteArray × Nat := l.foldl (stepD T) (⟨#[]⟩, 0)
theorem nextD_succ {T : Nodes} {l : List ByteArray} {k : Nat} (h : k < l.length) : nextD T (l.take (k + 1)) = stepD T (nextD T (l.take k)) (l[k]'h) := by
  unfold nextD; rw [List.take_succ_eq_append_getElem h, List.foldl_append]; rfl
theorem nextD_le {T : Nodes} (G : Good11 T) (l : List ByteArray) : (nextD T l).2 ≤ 8 := by
  unfold nextD
  suffices ∀ bd : ByteArray × Nat, bd.2 ≤ 8 → (l.foldl (stepD T) bd).2 ≤ 8 from this _ (Nat.zero_le _)
  induction l with
  | nil => exact fun bd h => h
  | cons a r ih =>
    intro bd h
    refine ih _ ?_
    unfold stepD
    split
    · exact G.deep a
    · exact h
set_option maxRecDepth 100000 in
set_option maxHeartbeats 4000000 in
theorem mnext_calls {mp kb tp mb : Nat} {N T : Nodes} (w : World) (h : MarksAt w mp kb N) (hR : Rising N) (hN : N.length ≤ 1000000) (ht : TreeAt w tp mb T) (G : Good11 T) (hs : ∀ x ∈ allN N, x.size ≤ 1000) :
    Calls Try.prog 51 #[.pointer (some ⟨mp, 0, none⟩), .pointer (some ⟨tp, 0, none⟩)] w fun e w' => e = .returned (.tuple #[.string (nextD T (allN N)).1, .bool (decide (0 < (nextD T (allN N)).2))]) ∧ Below w.heap.size w w' := by
  have hB := Below.refl w.heap.size w
  have H := Lib.hid h
  have HT := Lib.hid ht
  obtain ⟨L, hL⟩ : ∃ L, allN N = L := ⟨_, rfl⟩
  rw [hL] at hs ⊢
  have HS := Lib.hid hs
  have hLl : L.length ≤ 1000000 := by rw [← hL, allN_length]; exact hN
  have HLL := Lib.hid hL
  clear h ht hs hL
  go_enter Try.func51, Try.ntmps51
  go_wp2_with fail
  refine (mall_calls _ H.out hR hN).mono ?_
  rintro e w1 ⟨v, rfl, hrow, hb⟩
  rw [HLL.out] at hrow
  obtain ⟨av, cv, rfl⟩ := rw_form hrow
  have HV := Lib.hid (strS_of hrow)
  have hB1 := Lib.hid (bl_next hB hb)
  clear hrow hb hB
  obtain ⟨V, rfl⟩ : ∃ V : World, V = w1 := ⟨_, rfl⟩
  have hB := Below.refl V.heap.size V
  go_wp2_with fail
  go_loopw [6, 7, 14] (fun s6 s7 i wr => ∃ (k : Nat) (b : ByteArray) (d : Nat), (i = .int .i64 k ∧ s6 = .string b ∧ s7 = .int .i64 d) ∧ k ≤ L.length ∧ Hid (nextD T (L.take k) = (b, d)) ∧ d ≤ 8 ∧ Below V.heap.size V wr) (fun _ _ i _ => L.length - (intOf i).toNat)
  case atStart => exact ⟨0, _, 0, ⟨rfl, rfl, rfl⟩, Nat.zero_le _, Lib.hid rfl, Nat.zero_le _, hB⟩
  case round =>
    clear hB
    obtain ⟨k, b, d, ⟨rfl, rfl, rfl⟩, hk, HD, hd, hB⟩ := hrel
    by_cases hkl : k < L.length
    · have hkI : (k : Int) < L.length := by omega
      obtain ⟨b1, o1, c1, he, q⟩ := HV.out.at' hkl
      cases he
      have q := cb hB q
      have hxs := HS.out _ (List.getElem_mem hkl)
      have HN := Lib.hid (nextD_succ (T := T) hkl)
      obtain ⟨x, hx⟩ : ∃ x, L[k]'hkl = x := ⟨_, rfl⟩
      rw [hx] at q hxs HN
      rw [HD.out] at HN
      obtain ⟨pl, hpl⟩ : ∃ l, pathT T x = l := ⟨_, rfl⟩
      have hp8 : pl.length ≤ 8 := by rw [← hpl]; exact G.deep x
      have HPL := Lib.hid hpl
      clear hx hpl
      go_wp2_with fail
      refine (path_calls _ (HT.out.below (bl_next hB1.out hB)) G x hxs).mono ?_
      rw [HPL.out]
      rintro e w2 ⟨v2, rfl, hrow, hb⟩
      obtain ⟨a2, c2, rfl⟩ := rw_form hrow
      have hB := bl_next hB hb
      clear hrow hb q
      by_cases hlt : d < pl.length
      · have hltI : (d : Int) < pl.length := by omega
        have HN2 := Lib.hid (show nextD T (L.take (k + 1)) = (x, pl.length) by rw [HN.out]; unfold stepD; rw [HPL.out, if_pos hlt])
        clear hlt
        go_wp2_with fail
        go_roundw
        case rel => exact ⟨k + 1, x, pl.length, ⟨by simp, rfl, rfl⟩, by omega, HN2, hp8, hB⟩
        case measure => simp [intOf]; omega
      · have hltI : (pl.length : Int) ≤ d := by omega
        have HN2 := Lib.hid (show nextD T (L.take (k + 1)) = (b, d) by rw [HN.out]; unfold stepD; rw [HPL.out, if_neg hlt])
        clear hlt
        go_wp2_with fail
        go_roundw
        case rel => exact ⟨k + 1, b, d, ⟨by simp, rfl, rfl⟩, by omega, HN2, hd, hB⟩
        case measure => simp [intOf]; omega
    · obtain rfl : k = L.length := by omega
      have hD := HD.out
      rw [List.take_length] at hD
      have HE := Lib.hid hD
      clear hD
      go_wp2_with fail
      refine bodyPost_ret (v := .tuple #[.string b, .bool (decide ((0 : Int) < (d : Int)))]) (by simp [results, Try.results51, go_sem]) rfl ⟨?_, bl_from hB1.out hB⟩
      rw [HE.out]
      simp
end Go.Proofs.Ythaipgbjnigkhaa
