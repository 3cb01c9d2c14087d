import Derived.Test.YthaipgbjnigkhaaMkc
namespace Go.Proofs.Ythaipgbjnigkhaa
open Go.RowKit Go.Shelf Go.Maps
set_option linter.unusedVariables false
set_option linter.unusedSimpArgs false
set_option linter.unusedSectionVars false
def markAll (N : Nodes) (l : List ByteArray) : Nodes := l.foldl markN N
theorem markAll_rise {N : Nodes} (hR : Rising N) (l : List ByteArray) : Rising (markAll N l) := by
  unfold markAll
  induction l generalizing N with
  | nil => exact hR
  | cons a r ih => exact ih (rising_markN hR)
theorem markN_len (N : Nodes) (s : ByteArray) : (markN N s).length ≤ N.length + 1 := by
  unfold markN; split
  · omega
  · rw [insN_length]; exact Nat.le_refl _
theorem markAll_len (N : Nodes) (l : List ByteArray) : (markAll N l).length ≤ N.length + l.length := by
  unfold markAll
  induction l generalizing N with
  | nil => exact Nat.le_refl _
  | cons a r ih => have h1 := ih (N := markN N a); have h2 := markN_len N a; simp only [List.foldl_cons, List.length_cons]; omega
theorem markAll_succ {N : Nodes} {l : List ByteArray} {k : Nat} (h : k < l.length) : markAll N (l.take (k + 1)) = markN (markAll N (l.take k)) (l[k]'h) := by
  unfold markAll; rw [List.take_succ_eq_append_getElem h, List.foldl_append]; rfl
theorem strS_map {w w' : World} {P : Program} {K : TypeId} {kb n : Nat} {D : DataW Value} {v : Value} {l : List ByteArray} (h : StrS w v l) (hm : w.ownsMap P K RV kb n D) (X : Nat → Prop) (hk : Kept X w w') (hX : ∀ k, X k → k = kb) : StrS w' v l := by
  obtain ⟨A, c, rfl, hc, h0 | ⟨b, off, rfl, hx⟩⟩ := h
  · exact ⟨A, c, rfl, hc, .inl h0⟩
  · refine ⟨_, c, rfl, hc, .inr ⟨b, off, rfl, fun j hj => hk.cell (hx j hj) (fun q => ?_)⟩⟩
    have e := hX _ q
    obtain ⟨es, clock, hb, _⟩ := hm
    have h1 := hx j hj
    change b = kb at e
    subst e
    simp [World.cell?, hb] at h1
set_option maxRecDepth 100000 in
set_option maxHeartbeats 4000000 in
theorem mmark_calls {mp kb : Nat} {N : Nodes} (w : World) (h : MarksAt w mp kb N) (hR : Rising N) {v : Value} {l : List ByteArray} (hv : StrS w v l) (hl : N.length + l.length ≤ 1000000) (hs : ∀ x ∈ l, x.size ≤ 1000000) :
    Calls Try.prog 52 #[.pointer (some ⟨mp, 0, none⟩), v] w fun e w' => e = .returned (.int .i64 0) ∧ MarksAt w' mp kb (markAll N l) ∧ Kept (treeX mp kb) w w' := by
  obtain ⟨av, cv, rfl⟩ := hv.form
  have H := Lib.hid h
  have HV := Lib.hid hv
  have HS := Lib.hid hs
  clear h hv hs
  go_enter Try.func52, Try.ntmps52
  go_wp2_with fail
  go_loopw [11] (fun i wr => ∃ k : Nat, i = .int .i64 k ∧ k ≤ l.length ∧ Hid (MarksAt wr mp kb (markAll N (l.take k))) ∧ Hid (StrS wr (.slice av l.length cv) l) ∧ Hid (Kept (treeX mp kb) w wr)) (fun i _ => l.length - (intOf i).toNat)
  case atStart => exact ⟨0, rfl, Nat.zero_le _, H, HV, Lib.hid (Kept.refl _ _)⟩
  case round =>
    obtain ⟨k, rfl, hk, HM, HT, HK⟩ := hrel
    by_cases hkl : k < l.length
    · have hkI : (k : Int) < l.length := by omega
      obtain ⟨b, o, c', he, q⟩ := HT.out.at' hkl
      cases he
      have HN := Lib.hid (markAll_succ (N := N) hkl)
      have hxs := HS.out _ (List.getElem_mem hkl)
      have hlen := markAll_len N (l.take k)
      rw [List.length_take, Nat.min_eq_left hk] at hlen
      have HRZ := Lib.hid (markAll_rise hR (l.take k))
      obtain ⟨x, hx⟩ : ∃ x, l[k]'hkl = x := ⟨_, rfl⟩
      rw [hx] at q hxs HN
      obtain ⟨M, hM⟩ : ∃ M, markAll N (l.take k) = M := ⟨_, rfl⟩
      rw [hM] at HM HN hlen HRZ
      clear hx hM
      have c0 := blk_cell HM.out.box 0
      go_wp2_with (at_mapUpdate; refine wpList_mapUpdate_own _ rfl _ _ _ 120 rfl 9 4 string_key Try.underlying120 _ kb M.length (dmB M) rfl HM.out.map (by unfold maxLen; omega) _ _ _ rfl rfl (keyS (by unfold maxLen; omega)) (.held (.bool true)) [] rfl ?_; intro w1 hown1 hgrow1)
      have hk1 : Kept (fun q => q = kb) wr w1 := ⟨hgrow1.os, hgrow1.tape, hgrow1.output, hgrow1.size, fun k hk hx => hgrow1.block k hk (fun e => hx (Option.some.inj e))⟩
      have HT2 := Lib.hid (strS_map HT.out HM.out.map _ hk1 (fun _ h => h))
      have HK2 := Lib.hid (HK.out.trans (hk1.wider (Y := treeX mp kb) (fun k e => .inr e)) (fun n q => .inl q))
      rw [put_dmB HRZ.out] at hown1
      have HM2 := Lib.hid (show MarksAt w1 mp kb (markN M x) from ⟨hk1.heap HM.out.box (fun e => HM.out.ne e), by have := mv_tight hown1; rwa [size_dmB] at this⟩)
      clear hown1 hgrow1 hk1
      go_roundw
      case rel => exact ⟨k + 1, by simp, by omega, Lib.hid (by rw [HN.out]; exact HM2.out), HT2, HK2⟩
      case measure => simp [intOf]; omega
    · obtain rfl : k = l.length := by omega
      go_wp2_with fail
      go_ret
      refine ⟨rfl, ?_, HK.out⟩
      have := HM.out
      rw [List.take_length] at this
      exact this
end Go.Proofs.Ythaipgbjnigkhaa
