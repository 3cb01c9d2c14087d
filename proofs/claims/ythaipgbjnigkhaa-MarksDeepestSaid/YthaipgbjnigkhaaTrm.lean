import Derived.Test.YthaipgbjnigkhaaMv
import Derived.Test.YthaipgbjnigkhaaTrb
namespace Go.Proofs.Ythaipgbjnigkhaa
open Go.RowKit Go.Maps
set_option linter.unusedVariables false
set_option linter.unusedSimpArgs false
/-! ### The map of a tree -/
def ent (p : ByteArray × ByteArray) : Lit × DataW Value := (.string p.1.data.toList, .held (.string p.2))
def dm (N : Nodes) : DataW Value := .map (N.map ent)
def kS (s : ByteArray) : Lit := .string s.data.toList
theorem same_kS (a s : ByteArray) : (kS a).sameKey (kS s) = decide (a = s) := by
  unfold kS Lit.sameKey
  rw [Bool.eq_iff_iff, beq_iff_eq, decide_eq_true_eq]
  exact ⟨data_inj, fun h => by rw [h]⟩
theorem before_kS (a s : ByteArray) : (kS a).before (kS s) = ltB a s := by rw [ltB_eq]; rfl
theorem has_dm (N : Nodes) (s : ByteArray) : Maps.has (dm N) (kS s) = hasN N s := by
  show (N.map ent).any (fun p => p.1.sameKey (kS s)) = _
  rw [List.any_map]
  unfold hasN
  congr 1; funext p; exact same_kS _ _
theorem val_dm (N : Nodes) (s : ByteArray) : valAt (dm N) (kS s) (.string ⟨#[]⟩) = .string (parN N s) := by
  unfold valAt dm DataW.atKey
  simp only
  rw [List.find?_map]
  have e : (fun p : ByteArray × ByteArray => (ent p).1.sameKey (kS s)) = fun p => decide (p.1 = s) := by funext p; exact same_kS _ _
  rw [show ((fun p : Lit × DataW Value => p.1.sameKey (kS s)) ∘ ent) = fun p => decide (p.1 = s) from e]
  unfold parN
  cases N.find? (fun p => decide (p.1 = s)) <;> rfl
theorem size_dm (N : Nodes) : Maps.size (dm N) = N.length := by simp [dm, Maps.size]
theorem filter_ent (N : Nodes) (s : ByteArray) : (N.map ent).filter (fun p => !p.1.sameKey (kS s)) = (delN N s).map ent := by
  rw [List.filter_map]
  unfold delN
  congr 2; funext p; show (!(ent p).1.sameKey (kS s)) = _; rw [show (ent p).1 = kS p.1 from rfl, same_kS]
theorem del_dm (N : Nodes) (s : ByteArray) : (dm N).del (kS s) = dm (delN N s) := by
  show DataW.map _ = _
  rw [filter_ent]; rfl
theorem insert_ent : ∀ (N : Nodes) (s p : ByteArray), DataW.insert (ent (s, p)) (N.map ent) = (insN N s p).map ent
  | [], _, _ => rfl
  | y :: r, s, p => by
    have h : (ent (s, p)).1.before (ent y).1 = ltB s y.1 := before_kS _ _
    simp only [List.map_cons, DataW.insert, insN]
    rw [h]
    split
    · rfl
    · rw [List.map_cons, insert_ent r s p]
theorem delN_none {N : Nodes} {s : ByteArray} (h : hasN N s = false) : delN N s = N := by
  unfold delN
  rw [List.filter_eq_self]
  intro q hq
  unfold hasN at h
  rw [List.any_eq_false] at h
  simpa using h q hq
theorem put_new {N : Nodes} {s p : ByteArray} (h : hasN N s = false) : (dm N).put (kS s) (.held (.string p)) = dm (insN N s p) := by
  show DataW.map (DataW.insert (ent (s, p)) _) = _
  rw [filter_ent, delN_none h, insert_ent]; rfl
theorem ins_del {N : Nodes} {s p : ByteArray} (hR : Rising N) (h : hasN N s = true) : insN (delN N s) s p = setN N s p := by
  induction N with
  | nil => cases h
  | cons y r ih =>
    rw [Rising, List.pairwise_cons] at hR
    by_cases e : y.1 = s
    · have hn : hasN r s = false := by
        unfold hasN
        rw [List.any_eq_false]
        intro q hq
        have := hR.1 q hq
        rw [e] at this
        have := ltB_ne this
        simp; exact fun e => this e.symm
      have e1 : delN (y :: r) s = r := by
        show List.filter _ _ = _
        rw [List.filter_cons_of_neg (by simp [e])]
        exact delN_none hn
      have e2 : setN (y :: r) s p = (s, p) :: r := by
        unfold setN
        rw [List.map_cons, if_pos e, e]
        congr 1
        conv => rhs; rw [← List.map_id r]
        refine List.map_congr_left fun q hq => ?_
        have := hR.1 q hq
        rw [e] at this
        rw [if_neg (fun e2 => ltB_ne this e2.symm)]; rfl
      rw [e1, e2]
      cases r with
      | nil => rfl
      | cons z t =>
        have := hR.1 z (List.mem_cons_self ..)
        rw [e] at this
        unfold insN; rw [if_pos this]
    · have hr : hasN r s = true := by
        unfold hasN at h ⊢
        rw [List.any_cons] at h
        simpa [e] using h
      have e1 : delN (y :: r) s = y :: delN r s := by
        show List.filter _ _ = _
        rw [List.filter_cons_of_pos (by simp [e])]; rfl
      have e2 : setN (y :: r) s p = y :: setN r s p := by
        unfold setN
        rw [List.map_cons, if_neg e]
      obtain ⟨q, hq⟩ := hasN_iff.1 hr
      have hl := hR.1 _ hq
      rw [e1, e2, insN, if_neg (by rw [ltB_asymm hl]; simp), ih hR.2 hr]
theorem put_old {N : Nodes} {s p : ByteArray} (hR : Rising N) (h : hasN N s = true) : (dm N).put (kS s) (.held (.string p)) = dm (setN N s p) := by
  show DataW.map (DataW.insert (ent (s, p)) _) = _
  rw [filter_ent, insert_ent, ins_del hR h]; rfl
theorem strKeys_dm (N : Nodes) : strKeys (dm N) = N.map fun p => p.1.data.toList := by
  show (N.map ent).map (fun p => strOf p.1) = _
  rw [List.map_map]; rfl
theorem sorted_dm {N : Nodes} (hR : Rising N) : (N.map fun p => p.1.data.toList).mergeSort (fun x y => decide (x ≤ y)) = N.map fun p => p.1.data.toList := by
  apply List.mergeSort_of_pairwise
  rw [List.pairwise_map]
  refine hR.imp fun {a b} h => ?_
  unfold ltB at h
  rw [bytesLess_eq] at h
  rw [Lib.toList_data, Lib.toList_data] at h
  have := of_decide_eq_true h
  exact decide_eq_true (List.le_of_lt this)
/-- A tree in memory. -/
structure TreeAt (w : World) (tp mb : Nat) (N : Nodes) : Prop where
  box : w.heap[tp]? = some (.cells #[.map (some mb)] 86)
  map : w.ownsMap Try.prog 9 RV mb N.length (dm N)
def treeX (tp mb : Nat) : Nat → Prop := fun k => k = tp ∨ k = mb
section
variable {w w' : World} {tp mb : Nat} {N : Nodes}
theorem TreeAt.kept {X : Nat → Prop} (h : TreeAt w tp mb N) (hk : Kept X w w') (hx : ∀ k, treeX tp mb k → ¬ X k) : TreeAt w' tp mb N :=
  ⟨hk.heap h.box (hx _ (.inl rfl)), mv_kept h.map hk (hx _ (.inr rfl))⟩
theorem TreeAt.below (h : TreeAt w tp mb N) (hb : Below w.heap.size w w') : TreeAt w' tp mb N := h.kept (kept_of_below (X := fun _ => False) hb) (fun _ _ q => q)
theorem TreeAt.belowN {n₀ : Nat} (h : TreeAt w tp mb N) (hb : Below n₀ w w') (h1 : tp < n₀) (h2 : mb < n₀) : TreeAt w' tp mb N :=
  h.kept (X := fun k => n₀ ≤ k) ⟨hb.os, hb.tape, hb.output, hb.size, fun k hk hq => hb.block k (by omega)⟩ (fun k hk hq => by rcases hk with rfl | rfl <;> omega)
theorem TreeAt.lt (h : TreeAt w tp mb N) : tp < w.heap.size ∧ mb < w.heap.size := ⟨blk_lt h.box, h.map.lt⟩
theorem TreeAt.ne (h : TreeAt w tp mb N) : tp ≠ mb := mv_other h.map h.box
theorem TreeAt.size (h : TreeAt w tp mb N) : w.ownsMap Try.prog 9 RV mb (Maps.size (dm N)) (dm N) := mv_tight h.map
end
theorem string_key : Keyed Try.prog 9 := string_keyed Try.underlying9
theorem zero_string (w : World) : (zeroValue 9).run Try.prog w = .ok (.string ⟨#[]⟩) w := by kernel_rfl
theorem keyS {s : ByteArray} (h : s.size ≤ maxLen) : keyOf Try.prog 9 (.string s) = some (kS s) := by
  simp [keyOf, Try.underlying9, mapKey, h, kS]
theorem tree_look {w : World} {tp mb : Nat} {N : Nodes} (h : TreeAt w tp mb N) {s : ByteArray} (hs : s.size ≤ 1000000) :
    (Instr.lookup 84 (.map (some mb)) (.string s) false).run Try.prog w = .ok (.string (parN N s)) w := by
  rw [mv_look h.map string_key Try.underlying84 (zero_string w) (keyS (by unfold Go.maxLen; omega)), val_dm]
theorem tree_look_ok {w : World} {tp mb : Nat} {N : Nodes} (h : TreeAt w tp mb N) {s : ByteArray} (hs : s.size ≤ 1000000) :
    (Instr.lookup 84 (.map (some mb)) (.string s) true).run Try.prog w = .ok (.tuple #[.string (parN N s), .bool (hasN N s)]) w := by
  rw [mv_look_ok h.map string_key Try.underlying84 (zero_string w) (keyS (by unfold Go.maxLen; omega)), val_dm, has_dm]
end Go.Proofs.Ythaipgbjnigkhaa
