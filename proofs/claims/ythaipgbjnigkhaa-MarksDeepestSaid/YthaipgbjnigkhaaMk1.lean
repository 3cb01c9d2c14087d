import Derived.Test.YthaipgbjnigkhaaTsd
import Derived.Test.YthaipgbjnigkhaaTrh
import Derived.Test.YthaipgbjnigkhaaTsf
namespace Go.Proofs.Ythaipgbjnigkhaa
open Go.RowKit Go.Maps
set_option linter.unusedVariables false
set_option linter.unusedSimpArgs false
set_option linter.unusedSectionVars false
/-! ### A set of names: nodes of which the name alone counts -/
def entB (p : ByteArray × ByteArray) : Lit × DataW Value := (.string p.1.data.toList, .held (.bool true))
def dmB (N : Nodes) : DataW Value := .map (N.map entB)
theorem has_dmB (N : Nodes) (s : ByteArray) : Maps.has (dmB N) (kS s) = hasN N s := by
  show (N.map entB).any (fun p => p.1.sameKey (kS s)) = _
  rw [List.any_map]
  unfold hasN
  congr 1; funext p; exact same_kS _ _
theorem val_dmB (N : Nodes) (s : ByteArray) : valAt (dmB N) (kS s) (.bool false) = .bool (hasN N s) := by
  unfold valAt dmB DataW.atKey
  simp only
  rw [List.find?_map]
  have e : (fun p : ByteArray × ByteArray => (entB p).1.sameKey (kS s)) = fun p => decide (p.1 = s) := by funext p; exact same_kS _ _
  rw [show ((fun p : Lit × DataW Value => p.1.sameKey (kS s)) ∘ entB) = fun p => decide (p.1 = s) from e]
  cases q : hasN N s with
  | false =>
    have : N.find? (fun p => decide (p.1 = s)) = none := by
      rw [List.find?_eq_none]
      intro x hx
      unfold hasN at q
      rw [List.any_eq_false] at q
      exact q x hx
    rw [this]; rfl
  | true =>
    cases h : N.find? (fun p => decide (p.1 = s)) with
    | none =>
      rw [List.find?_eq_none] at h
      obtain ⟨p, hp⟩ := hasN_iff.1 q
      exact absurd (by simp) (h _ hp)
    | some p => rfl
theorem size_dmB (N : Nodes) : Maps.size (dmB N) = N.length := by simp [dmB, Maps.size]
theorem filter_entB (N : Nodes) (s : ByteArray) : (N.map entB).filter (fun p => !p.1.sameKey (kS s)) = (delN N s).map entB := by
  rw [List.filter_map]
  unfold delN
  congr 2; funext p; show (!(entB p).1.sameKey (kS s)) = _; rw [show (entB p).1 = kS p.1 from rfl, same_kS]
theorem del_dmB (N : Nodes) (s : ByteArray) : (dmB N).del (kS s) = dmB (delN N s) := by
  show DataW.map _ = _
  rw [filter_entB]; rfl
theorem insert_entB : ∀ (N : Nodes) (s p : ByteArray), DataW.insert (entB (s, p)) (N.map entB) = (insN N s p).map entB
  | [], _, _ => rfl
  | y :: r, s, p => by
    have h : (entB (s, p)).1.before (entB y).1 = ltB s y.1 := before_kS _ _
    simp only [List.map_cons, DataW.insert, insN]
    rw [h]
    split
    · rfl
    · rw [List.map_cons, insert_entB r s p]
/-- One name more. -/
def markN (N : Nodes) (s : ByteArray) : Nodes := if hasN N s then N else insN N s ⟨#[]⟩
theorem put_dmB {N : Nodes} {s : ByteArray} (hR : Rising N) : (dmB N).put (kS s) (.held (.bool true)) = dmB (markN N s) := by
  show DataW.map (DataW.insert (entB (s, parN N s)) _) = _
  rw [filter_entB, insert_entB]
  unfold markN
  cases h : hasN N s with
  | true => rw [insdel_same hR h]; rfl
  | false => rw [delN_none h, parN_none h]; rfl
theorem rising_markN {N : Nodes} {s : ByteArray} (hR : Rising N) : Rising (markN N s) := by
  unfold markN
  cases h : hasN N s with
  | true => exact hR
  | false => exact rising_insN hR h
theorem strKeys_dmB (N : Nodes) : strKeys (dmB N) = N.map fun p => p.1.data.toList := by
  show (N.map entB).map (fun p => strOf p.1) = _
  rw [List.map_map]; rfl
/-- Marks in memory. -/
structure MarksAt (w : World) (mp kb : Nat) (N : Nodes) : Prop where
  box : w.heap[mp]? = some (.cells #[.map (some kb)] 122)
  map : w.ownsMap Try.prog 9 RV kb N.length (dmB N)
end Go.Proofs.Ythaipgbjnigkhaa
namespace Go.Proofs.Ythaipgbjnigkhaa
open Go.RowKit Go.Shelf Go.Maps
set_option linter.unusedVariables false
set_option linter.unusedSimpArgs false
set_option linter.unusedSectionVars false
theorem zero_bool (w : World) : (zeroValue 4).run Try.prog w = .ok (.bool false) w := by kernel_rfl
section
variable {w w' : World} {mp kb : Nat} {N : Nodes}
theorem MarksAt.kept {X : Nat → Prop} (h : MarksAt w mp kb N) (hk : Kept X w w') (hx : ∀ k, treeX mp kb k → ¬ X k) : MarksAt w' mp kb N :=
  ⟨hk.heap h.box (hx _ (.inl rfl)), mv_kept h.map hk (hx _ (.inr rfl))⟩
theorem MarksAt.below (h : MarksAt w mp kb N) (hb : Below w.heap.size w w') : MarksAt w' mp kb N := h.kept (kept_of_below (X := fun _ => False) hb) (fun _ _ q => q)
theorem MarksAt.ne (h : MarksAt w mp kb N) : mp ≠ kb := mv_other h.map h.box
theorem mark_look (h : MarksAt w mp kb N) {s : ByteArray} (hs : s.size ≤ 1000000) :
    (Instr.lookup 120 (.map (some kb)) (.string s) false).run Try.prog w = .ok (.bool (hasN N s)) w := by
  rw [mv_look h.map string_key Try.underlying120 (zero_bool w) (keyS (by unfold Go.maxLen; omega)), val_dmB]
end
theorem mhas_calls {mp kb : Nat} {N : Nodes} (w : World) (h : MarksAt w mp kb N) (s : ByteArray) (hs : s.size ≤ 1000000) :
    Calls Try.prog 58 #[.pointer (some ⟨mp, 0, none⟩), .string s] w fun e w' => e = .returned (.bool (hasN N s)) ∧ Below w.heap.size w w' := by
  have hB := Below.refl w.heap.size w
  have c0 := blk_cell h.box 0
  have hl := mark_look h hs
  clear h
  go_enter Try.func58, Try.ntmps58
  go_wp2
  go_ret
  exact ⟨rfl, hB⟩
theorem mhas_nil (w : World) (s : ByteArray) :
    Calls Try.prog 58 #[.pointer none, .string s] w fun e w' => e = .returned (.bool false) ∧ Below w.heap.size w w' := by
  have hB := Below.refl w.heap.size w
  go_enter Try.func58, Try.ntmps58
  go_wp2
  go_ret
  exact ⟨rfl, hB⟩
theorem mclear_nil (w : World) (s : ByteArray) :
    Calls Try.prog 55 #[.pointer none, .string s] w fun e w' => e = .returned (.int .i64 1) ∧ Below w.heap.size w w' := by
  have hB := Below.refl w.heap.size w
  go_enter Try.func55, Try.ntmps55
  go_wp2
  go_ret
  exact ⟨rfl, hB⟩
theorem mmark_nil (w : World) (v : Value) :
    Calls Try.prog 52 #[.pointer none, v] w fun e w' => e = .returned (.int .i64 1) ∧ Below w.heap.size w w' := by
  have hB := Below.refl w.heap.size w
  go_enter Try.func52, Try.ntmps52
  go_wp2
  go_ret
  exact ⟨rfl, hB⟩
theorem mall_nil (w : World) :
    Calls Try.prog 56 #[.pointer none] w fun e w' => e = .returned (.slice none 0 0) ∧ Below w.heap.size w w' := by
  have hB := Below.refl w.heap.size w
  go_enter Try.func56, Try.ntmps56
  go_wp2
  go_ret
  exact ⟨rfl, hB⟩
/-- Clear: the error, and what is left. -/
def clearN (N : Nodes) (s : ByteArray) : Int × Nodes := if hasN N s then (0, delN N s) else (4, N)
set_option maxHeartbeats 1000000 in
theorem mclear_calls {mp kb : Nat} {N : Nodes} (w : World) (h : MarksAt w mp kb N) (hR : Rising N) (s : ByteArray) (hs : s.size ≤ 1000000) :
    Calls Try.prog 55 #[.pointer (some ⟨mp, 0, none⟩), .string s] w fun e w' => e = .returned (.int .i64 (clearN N s).1) ∧ MarksAt w' mp kb (clearN N s).2 ∧ Kept (treeX mp kb) w w' := by
  have H := Lib.hid h
  have hB := Below.refl w.heap.size w
  clear h
  cases hh : hasN N s with
  | false =>
    have HH := Lib.hid hh
    have HC := Lib.hid (show clearN N s = (4, N) by unfold clearN; rw [hh]; rfl)
    clear hh
    go_enter Try.func55, Try.ntmps55
    go_wp2_with (go_at_call 58; refine (mhas_calls _ H.out s hs).mono ?_; rintro e w' ⟨rfl, hb⟩; rw [HH.out])
    go_ret
    rw [HC.out]
    exact ⟨rfl, H.out.below hb, kept_of_below hb⟩
  | true =>
    have HH := Lib.hid hh
    have HC := Lib.hid (show clearN N s = (0, delN N s) by unfold clearN; rw [hh]; rfl)
    have HL := Lib.hid (del_length hR hh)
    clear hh
    go_enter Try.func55, Try.ntmps55
    go_wp2_with fail
    refine (mhas_calls _ H.out s hs).mono ?_
    rintro e w' ⟨rfl, hb⟩
    rw [HH.out]
    have HT := Lib.hid (H.out.below hb)
    have c0 := blk_cell HT.out.box 0
    go_wp2_with (at_delete; refine wpList_delete_own _ rfl _ _ 120 9 rfl 4 string_key Try.underlying120 RV kb N.length (dmB N) rfl HT.out.map _ _ rfl (keyS (by unfold maxLen; omega)) ?_; intro w1 hown1 hturn1)
    go_ret
    rw [HC.out]
    have hk := kept_turned hturn1
    rw [del_dmB] at hown1
    refine ⟨rfl, ⟨hk.heap HT.out.box (fun e => HT.out.ne e), ?_⟩, ?_⟩
    · have := mv_tight hown1
      rw [size_dmB] at this; exact this
    · exact (kept_of_below (X := treeX mp kb) hb).trans (hk.wider (Y := treeX mp kb) (fun k e => .inr e)) (fun n q => .inl q)
end Go.Proofs.Ythaipgbjnigkhaa
namespace Go.Proofs.Ythaipgbjnigkhaa
open Go.RowKit Go.Shelf Go.Maps
set_option linter.unusedVariables false
set_option linter.unusedSimpArgs false
set_option linter.unusedSectionVars false
theorem mnew_calls (w : World) : Calls Try.prog 50 #[] w fun e w' => ∃ mp kb, e = .returned (.pointer (some ⟨mp, 0, none⟩)) ∧ MarksAt w' mp kb [] ∧ (w.heap.size ≤ mp ∧ w.heap.size ≤ kb) ∧ Below w.heap.size w w' := by
  have hmm := @run_makeMap Try.prog
  have hown := World.ownsMap_made w Try.prog 9 RV
  have HO := Lib.hid hown
  clear hown
  go_enter Try.func50, Try.ntmps50
  go_wp2
  go_ret
  have hb1 : Below w.heap.size w (w.alloc (.map #[] 0)) := (Below.refl _ w).alloc (Nat.le_refl _) _
  refine ⟨w.heap.size + 1, w.heap.size, rfl, ⟨?_, ?_⟩, ⟨by omega, Nat.le_refl _⟩, hb1.alloc hb1.size _⟩
  · have := blk_new (w.alloc (.map #[] 0)) (.cells #[.map (some w.heap.size)] 122)
    simpa using this
  · exact mv_below HO.out ((Below.refl _ _).alloc (Nat.le_refl _) _)
theorem enc_allB (N : Nodes) : (N.map fun p => p.1.data.toList).map Go.Proofs.encStr = strC (allN N) := enc_all N
set_option maxHeartbeats 1000000 in
theorem set_all_calls {kb : Nat} {N : Nodes} (w : World) (h : w.ownsMap Try.prog 9 RV kb N.length (dmB N)) (hR : Rising N) (hl : N.length ≤ 1000000) :
    Calls Try.prog 87 #[.map (some kb)] w fun e w' => ∃ v, e = .returned v ∧ w'.ownsRow w.heap.size 9 1 v (allN N).length (strC (allN N)) ∧ Below w.heap.size w w' := by
  have HM := Lib.hid h
  have hsz : Maps.size (dmB N) ≤ maxLen := by rw [size_dmB]; unfold Go.maxLen; omega
  have hby : Maps.size (dmB N) * 16 ≤ 140737488355328 := by rw [size_dmB]; omega
  have HS := Lib.hid hsz; have HBY := Lib.hid hby
  clear h hsz hby
  refine (callsIn_wide (n := 6)).1 ?_
  have hfK : Fence.wide.fn 101 := trivial
  have hfS : Fence.wide.fn 63 := trivial
  refine callsIn_of_wp Try.func87 rfl trivial ?_ rfl
  simp only [Try.ntmps87, List.size_toArray, List.length_cons, List.length_nil, Nat.reduceAdd, Nat.reduceSub, Array.replicate_succ, Array.replicate_zero, List.push_toArray, List.append_toArray, List.nil_append, List.cons_append]
  gi_wp2_with (first
    | (gi_at_call 101; refine (Try.maps_Keys_101 _ _).mono ?_; rintro e w' ⟨rfl, rfl⟩)
    | (gi_at_call 63; refine (Try.slices_Sorted_keys_63_101 kb N.length (dmB N) RV w HM.out HS.out HBY.out).mono ?_; rintro e w' ⟨v, ss, rfl, hS, hrow, hnil, hb⟩))
  go_ret
  refine ⟨v, rfl, ?_, ((Below.refl _ w).alloc (Nat.le_refl _) _).trans (hb.mono (by simp))⟩
  have e1 : ss.mergeSort (fun x y => decide (x ≤ y)) = N.map fun p => p.1.data.toList := by
    rw [strKeys_dmB] at hS
    exact (mergeSort_of_perm hS).trans (sorted_dm hR)
  have e2 : ss.length = (allN N).length := by have := hS.length_eq; rw [strKeys_dmB] at this; simpa [allN] using this
  rw [e1, e2, enc_all] at hrow
  exact rw_mono hrow (by simp)
theorem mall_calls {mp kb : Nat} {N : Nodes} (w : World) (h : MarksAt w mp kb N) (hR : Rising N) (hl : N.length ≤ 1000000) :
    Calls Try.prog 56 #[.pointer (some ⟨mp, 0, none⟩)] w fun e w' => ∃ v, e = .returned v ∧ w'.ownsRow w.heap.size 9 1 v (allN N).length (strC (allN N)) ∧ Below w.heap.size w w' := by
  have c0 := blk_cell h.box 0
  have H := Lib.hid h
  clear h
  go_enter Try.func56, Try.ntmps56
  go_wp2_with fail
  refine (set_all_calls _ H.out.map hR hl).mono ?_
  rintro e w' ⟨v, rfl, hrow, hb⟩
  go_wp2_with fail
  go_ret
  exact ⟨v, rfl, hrow, hb⟩
end Go.Proofs.Ythaipgbjnigkhaa
namespace Go.Proofs.Ythaipgbjnigkhaa
open Go.RowKit Go.Shelf Go.Maps
set_option linter.unusedVariables false
set_option linter.unusedSimpArgs false
set_option linter.unusedSectionVars false
def markAll (N : Nodes) (l : List ByteArray) : Nodes := l.foldl markN N
theorem markAll_rise {N : Nodes} (hR : Rising N) (l : List ByteArray) : Rising (markAll N l) := by
  unfold markAll
  induction l generalizing N with
  | nil => exact hR
  | cons a r ih => exact ih (rising_markN hR)
theorem markN_len (N : Nodes) (s : ByteArray) : (markN N s).length ≤ N.length + 1 := by
  unfold markN; split
  · omega
  · rw [insN_length]; exact Nat.le_refl _
theorem markAll_len (N : Nodes) (l : List ByteArray) : (markAll N l).length ≤ N.length + l.length := by
  unfold markAll
  induction l generalizing N with
  | nil => exact Nat.le_refl _
  | cons a r ih => have h1 := ih (N := markN N a); have h2 := markN_len N a; simp only [List.foldl_cons, List.length_cons]; omega
theorem markAll_succ {N : Nodes} {l : List ByteArray} {k : Nat} (h : k < l.length) : markAll N (l.take (k + 1)) = markN (markAll N (l.take k)) (l[k]'h) := by
  unfold markAll; rw [List.take_succ_eq_append_getElem h, List.foldl_append]; rfl
theorem strS_map {w w' : World} {P : Program} {K : TypeId} {kb n : Nat} {D : DataW Value} {v : Value} {l : List ByteArray} (h : StrS w v l) (hm : w.ownsMap P K RV kb n D) (X : Nat → Prop) (hk : Kept X w w') (hX : ∀ k, X k → k = kb) : StrS w' v l := by
  obtain ⟨A, c, rfl, hc, h0 | ⟨b, off, rfl, hx⟩⟩ := h
  · exact ⟨A, c, rfl, hc, .inl h0⟩
  · refine ⟨_, c, rfl, hc, .inr ⟨b, off, rfl, fun j hj => hk.cell (hx j hj) (fun q => ?_)⟩⟩
    have e := hX _ q
    obtain ⟨es, clock, hb, _⟩ := hm
    have h1 := hx j hj
    change b = kb at e
    subst e
    simp [World.cell?, hb] at h1
set_option maxRecDepth 100000 in
set_option maxHeartbeats 4000000 in
theorem mmark_calls {mp kb : Nat} {N : Nodes} (w : World) (h : MarksAt w mp kb N) (hR : Rising N) {v : Value} {l : List ByteArray} (hv : StrS w v l) (hl : N.length + l.length ≤ 1000000) (hs : ∀ x ∈ l, x.size ≤ 1000000) :
    Calls Try.prog 52 #[.pointer (some ⟨mp, 0, none⟩), v] w fun e w' => e = .returned (.int .i64 0) ∧ MarksAt w' mp kb (markAll N l) ∧ Kept (treeX mp kb) w w' := by
  obtain ⟨av, cv, rfl⟩ := hv.form
  have H := Lib.hid h
  have HV := Lib.hid hv
  have HS := Lib.hid hs
  clear h hv hs
  go_enter Try.func52, Try.ntmps52
  go_wp2_with fail
  go_loopw [11] (fun i wr => ∃ k : Nat, i = .int .i64 k ∧ k ≤ l.length ∧ Hid (MarksAt wr mp kb (markAll N (l.take k))) ∧ Hid (StrS wr (.slice av l.length cv) l) ∧ Hid (Kept (treeX mp kb) w wr)) (fun i _ => l.length - (intOf i).toNat)
  case atStart => exact ⟨0, rfl, Nat.zero_le _, H, HV, Lib.hid (Kept.refl _ _)⟩
  case round =>
    obtain ⟨k, rfl, hk, HM, HT, HK⟩ := hrel
    by_cases hkl : k < l.length
    · have hkI : (k : Int) < l.length := by omega
      obtain ⟨b, o, c', he, q⟩ := HT.out.at' hkl
      cases he
      have HN := Lib.hid (markAll_succ (N := N) hkl)
      have hxs := HS.out _ (List.getElem_mem hkl)
      have hlen := markAll_len N (l.take k)
      rw [List.length_take, Nat.min_eq_left hk] at hlen
      have HRZ := Lib.hid (markAll_rise hR (l.take k))
      obtain ⟨x, hx⟩ : ∃ x, l[k]'hkl = x := ⟨_, rfl⟩
      rw [hx] at q hxs HN
      obtain ⟨M, hM⟩ : ∃ M, markAll N (l.take k) = M := ⟨_, rfl⟩
      rw [hM] at HM HN hlen HRZ
      clear hx hM
      have c0 := blk_cell HM.out.box 0
      go_wp2_with (at_mapUpdate; refine wpList_mapUpdate_own _ rfl _ _ _ 120 rfl 9 4 string_key Try.underlying120 _ kb M.length (dmB M) rfl HM.out.map (by unfold maxLen; omega) _ _ _ rfl rfl (keyS (by unfold maxLen; omega)) (.held (.bool true)) [] rfl ?_; intro w1 hown1 hgrow1)
      have hk1 : Kept (fun q => q = kb) wr w1 := ⟨hgrow1.os, hgrow1.tape, hgrow1.output, hgrow1.size, fun k hk hx => hgrow1.block k hk (fun e => hx (Option.some.inj e))⟩
      have HT2 := Lib.hid (strS_map HT.out HM.out.map _ hk1 (fun _ h => h))
      have HK2 := Lib.hid (HK.out.trans (hk1.wider (Y := treeX mp kb) (fun k e => .inr e)) (fun n q => .inl q))
      rw [put_dmB HRZ.out] at hown1
      have HM2 := Lib.hid (show MarksAt w1 mp kb (markN M x) from ⟨hk1.heap HM.out.box (fun e => HM.out.ne e), by have := mv_tight hown1; rwa [size_dmB] at this⟩)
      clear hown1 hgrow1 hk1
      go_roundw
      case rel => exact ⟨k + 1, by simp, by omega, Lib.hid (by rw [HN.out]; exact HM2.out), HT2, HK2⟩
      case measure => simp [intOf]; omega
    · obtain rfl : k = l.length := by omega
      go_wp2_with fail
      go_ret
      refine ⟨rfl, ?_, HK.out⟩
      have := HM.out
      rw [List.take_length] at this
      exact this
end Go.Proofs.Ythaipgbjnigkhaa
namespace Go.Proofs.Ythaipgbjnigkhaa
open Go.RowKit Go.Shelf Go.Maps
set_option linter.unusedVariables false
set_option linter.unusedSimpArgs false
set_option linter.unusedSectionVars false
/-! ### The deepest one -/
def stepD (T : Nodes) (bd : ByteArray × Nat) (s : ByteArray) : ByteArray × Nat := if bd.2 < (pathT T s).length then (s, (pathT T s).length) else bd
def nextD (T : Nodes) (l : List ByteArray) : ByteArray × Nat := l.foldl (stepD T) (⟨#[]⟩, 0)
theorem nextD_succ {T : Nodes} {l : List ByteArray} {k : Nat} (h : k < l.length) : nextD T (l.take (k + 1)) = stepD T (nextD T (l.take k)) (l[k]'h) := by
  unfold nextD; rw [List.take_succ_eq_append_getElem h, List.foldl_append]; rfl
theorem nextD_le {T : Nodes} (G : Good11 T) (l : List ByteArray) : (nextD T l).2 ≤ 8 := by
  unfold nextD
  suffices ∀ bd : ByteArray × Nat, bd.2 ≤ 8 → (l.foldl (stepD T) bd).2 ≤ 8 from this _ (Nat.zero_le _)
  induction l with
  | nil => exact fun bd h => h
  | cons a r ih =>
    intro bd h
    refine ih _ ?_
    unfold stepD
    split
    · exact G.deep a
    · exact h
set_option maxRecDepth 100000 in
set_option maxHeartbeats 4000000 in
theorem mnext_calls {mp kb tp mb : Nat} {N T : Nodes} (w : World) (h : MarksAt w mp kb N) (hR : Rising N) (hN : N.length ≤ 1000000) (ht : TreeAt w tp mb T) (G : Good11 T) (hs : ∀ x ∈ allN N, x.size ≤ 1000) :
    Calls Try.prog 51 #[.pointer (some ⟨mp, 0, none⟩), .pointer (some ⟨tp, 0, none⟩)] w fun e w' => e = .returned (.tuple #[.string (nextD T (allN N)).1, .bool (decide (0 < (nextD T (allN N)).2))]) ∧ Below w.heap.size w w' := by
  have hB := Below.refl w.heap.size w
  have H := Lib.hid h
  have HT := Lib.hid ht
  obtain ⟨L, hL⟩ : ∃ L, allN N = L := ⟨_, rfl⟩
  rw [hL] at hs ⊢
  have HS := Lib.hid hs
  have hLl : L.length ≤ 1000000 := by rw [← hL, allN_length]; exact hN
  have HLL := Lib.hid hL
  clear h ht hs hL
  go_enter Try.func51, Try.ntmps51
  go_wp2_with fail
  refine (mall_calls _ H.out hR hN).mono ?_
  rintro e w1 ⟨v, rfl, hrow, hb⟩
  rw [HLL.out] at hrow
  obtain ⟨av, cv, rfl⟩ := rw_form hrow
  have HV := Lib.hid (strS_of hrow)
  have hB1 := Lib.hid (bl_next hB hb)
  clear hrow hb hB
  obtain ⟨V, rfl⟩ : ∃ V : World, V = w1 := ⟨_, rfl⟩
  have hB := Below.refl V.heap.size V
  go_wp2_with fail
  go_loopw [6, 7, 14] (fun s6 s7 i wr => ∃ (k : Nat) (b : ByteArray) (d : Nat), (i = .int .i64 k ∧ s6 = .string b ∧ s7 = .int .i64 d) ∧ k ≤ L.length ∧ Hid (nextD T (L.take k) = (b, d)) ∧ d ≤ 8 ∧ Below V.heap.size V wr) (fun _ _ i _ => L.length - (intOf i).toNat)
  case atStart => exact ⟨0, _, 0, ⟨rfl, rfl, rfl⟩, Nat.zero_le _, Lib.hid rfl, Nat.zero_le _, hB⟩
  case round =>
    clear hB
    obtain ⟨k, b, d, ⟨rfl, rfl, rfl⟩, hk, HD, hd, hB⟩ := hrel
    by_cases hkl : k < L.length
    · have hkI : (k : Int) < L.length := by omega
      obtain ⟨b1, o1, c1, he, q⟩ := HV.out.at' hkl
      cases he
      have q := cb hB q
      have hxs := HS.out _ (List.getElem_mem hkl)
      have HN := Lib.hid (nextD_succ (T := T) hkl)
      obtain ⟨x, hx⟩ : ∃ x, L[k]'hkl = x := ⟨_, rfl⟩
      rw [hx] at q hxs HN
      rw [HD.out] at HN
      obtain ⟨pl, hpl⟩ : ∃ l, pathT T x = l := ⟨_, rfl⟩
      have hp8 : pl.length ≤ 8 := by rw [← hpl]; exact G.deep x
      have HPL := Lib.hid hpl
      clear hx hpl
      go_wp2_with fail
      refine (path_calls _ (HT.out.below (bl_next hB1.out hB)) G x hxs).mono ?_
      rw [HPL.out]
      rintro e w2 ⟨v2, rfl, hrow, hb⟩
      obtain ⟨a2, c2, rfl⟩ := rw_form hrow
      have hB := bl_next hB hb
      clear hrow hb q
      by_cases hlt : d < pl.length
      · have hltI : (d : Int) < pl.length := by omega
        have HN2 := Lib.hid (show nextD T (L.take (k + 1)) = (x, pl.length) by rw [HN.out]; unfold stepD; rw [HPL.out, if_pos hlt])
        clear hlt
        go_wp2_with fail
        go_roundw
        case rel => exact ⟨k + 1, x, pl.length, ⟨by simp, rfl, rfl⟩, by omega, HN2, hp8, hB⟩
        case measure => simp [intOf]; omega
      · have hltI : (pl.length : Int) ≤ d := by omega
        have HN2 := Lib.hid (show nextD T (L.take (k + 1)) = (b, d) by rw [HN.out]; unfold stepD; rw [HPL.out, if_neg hlt])
        clear hlt
        go_wp2_with fail
        go_roundw
        case rel => exact ⟨k + 1, b, d, ⟨by simp, rfl, rfl⟩, by omega, HN2, hd, hB⟩
        case measure => simp [intOf]; omega
    · obtain rfl : k = L.length := by omega
      have hD := HD.out
      rw [List.take_length] at hD
      have HE := Lib.hid hD
      clear hD
      go_wp2_with fail
      refine bodyPost_ret (v := .tuple #[.string b, .bool (decide ((0 : Int) < (d : Int)))]) (by simp [results, Try.results51, go_sem]) rfl ⟨?_, bl_from hB1.out hB⟩
      rw [HE.out]
      simp
end Go.Proofs.Ythaipgbjnigkhaa
namespace Go.Proofs.Ythaipgbjnigkhaa
open Go.RowKit Go.Shelf Go.Maps
set_option linter.unusedVariables false
set_option linter.unusedSimpArgs false
set_option linter.unusedSectionVars false
theorem mnext_nil (w : World) (t : Value) :
    Calls Try.prog 51 #[.pointer none, t] w fun e w' => e = .returned (.tuple #[.string ⟨#[]⟩, .bool false]) ∧ Below w.heap.size w w' := by
  have hB := Below.refl w.heap.size w
  go_enter Try.func51, Try.ntmps51
  go_wp2_with fail
  refine (mall_nil _).mono ?_
  rintro e w1 ⟨rfl, hb⟩
  have hB := bl_next hB hb
  go_wp2_with fail
  go_loopw [6, 7, 14] (fun s6 s7 i wr => (s6 = .string ⟨#[]⟩ ∧ s7 = .int .i64 0 ∧ i = .int .i64 0) ∧ Below w.heap.size w wr) (fun _ _ _ _ => 0)
  case atStart => exact ⟨⟨rfl, rfl, rfl⟩, hB⟩
  case round =>
    clear hB
    obtain ⟨⟨rfl, rfl, rfl⟩, hB⟩ := hrel
    go_wp2_with fail
    refine bodyPost_ret (v := .tuple #[.string ⟨#[]⟩, .bool false]) (by simp [results, Try.results51, go_sem]) rfl ⟨rfl, hB⟩
end Go.Proofs.Ythaipgbjnigkhaa
