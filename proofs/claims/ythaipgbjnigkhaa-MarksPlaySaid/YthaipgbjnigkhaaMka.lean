import Derived.Test.YthaipgbjnigkhaaTsd
namespace Go.Proofs.Ythaipgbjnigkhaa
open Go.RowKit Go.Maps
set_option linter.unusedVariables false
set_option linter.unusedSimpArgs false
set_option linter.unusedSectionVars false
/-! ### A set of names: nodes of which the name alone counts -/
def entB (p : ByteArray × ByteArray) : Lit × DataW Value := (.string p.1.data.toList, .held (.bool true))
def dmB (N : Nodes) : DataW Value := .map (N.map entB)
theorem has_dmB (N : Nodes) (s : ByteArray) : Maps.has (dmB N) (kS s) = hasN N s := by
  show (N.map entB).any (fun p => p.1.sameKey (kS s)) = _
  rw [List.any_map]
  unfold hasN
  congr 1; funext p; exact same_kS _ _
theorem val_dmB (N : Nodes) (s : ByteArray) : valAt (dmB N) (kS s) (.bool false) = .bool (hasN N s) := by
  unfold valAt dmB DataW.atKey
  simp only
  rw [List.find?_map]
  have e : (fun p : ByteArray × ByteArray => (entB p).1.sameKey (kS s)) = fun p => decide (p.1 = s) := by funext p; exact same_kS _ _
  rw [show ((fun p : Lit × DataW Value => p.1.sameKey (kS s)) ∘ entB) = fun p => decide (p.1 = s) from e]
  cases q : hasN N s with
  | false =>
    have : N.find? (fun p => decide (p.1 = s)) = none := by
      rw [List.find?_eq_none]
      intro x hx
      unfold hasN at q
      rw [List.any_eq_false] at q
      exact q x hx
    rw [this]; rfl
  | true =>
    cases h : N.find? (fun p => decide (p.1 = s)) with
    | none =>
      rw [List.find?_eq_none] at h
      obtain ⟨p, hp⟩ := hasN_iff.1 q
      exact absurd (by simp) (h _ hp)
    | some p => rfl
theorem size_dmB (N : Nodes) : Maps.size (dmB N) = N.length := by simp [dmB, Maps.size]
theorem filter_entB (N : Nodes) (s : ByteArray) : (N.map entB).filter (fun p => !p.1.sameKey (kS s)) = (delN N s).map entB := by
  rw [List.filter_map]
  unfold delN
  congr 2; funext p; show (!(entB p).1.sameKey (kS s)) = _; rw [show (entB p).1 = kS p.1 from rfl, same_kS]
theorem del_dmB (N : Nodes) (s : ByteArray) : (dmB N).del (kS s) = dmB (delN N s) := by
  show DataW.map _ = _
  rw [filter_entB]; rfl
theorem insert_entB : ∀ (N : Nodes) (s p : ByteArray), DataW.insert (entB (s, p)) (N.map entB) = (insN N s p).map entB
  | [], _, _ => rfl
  | y :: r, s, p => by
    have h : (entB (s, p)).1.before (entB y).1 = ltB s y.1 := before_kS _ _
    simp only [List.map_cons, DataW.insert, insN]
    rw [h]
    split
    · rfl
    · rw [List.map_cons, insert_entB r s p]
/-- One name more. -/
def markN (N : Nodes) (s : ByteArray) : Nodes := if hasN N s then N else insN N s ⟨#[]⟩
theorem put_dmB {N : Nodes} {s : ByteArray} (hR : Rising N) : (dmB N).put (kS s) (.held (.bool true)) = dmB (markN N s) := by
  show DataW.map (DataW.insert (entB (s, parN N s)) _) = _
  rw [filter_entB, insert_entB]
  unfold markN
  cases h : hasN N s with
  | true => rw [insdel_same hR h]; rfl
  | false => rw [delN_none h, parN_none h]; rfl
theorem rising_markN {N : Nodes} {s : ByteArray} (hR : Rising N) : Rising (markN N s) := by
  unfold markN
  cases h : hasN N s with
  | true => exact hR
  | false => exact rising_insN hR h
theorem strKeys_dmB (N : Nodes) : strKeys (dmB N) = N.map fun p => p.1.data.toList := by
  show (N.map entB).map (fun p => strOf p.1) = _
  rw [List.map_map]; rfl
/-- Marks in memory. -/
structure MarksAt (w : World) (mp kb : Nat) (N : Nodes) : Prop where
  box : w.heap[mp]? = some (.cells #[.map (some kb)] 122)
  map : w.ownsMap Try.prog 9 RV kb N.length (dmB N)
end Go.Proofs.Ythaipgbjnigkhaa
