import Derived.Test.YthaipgbjnigkhaaTtd
namespace Go.Proofs.Ythaipgbjnigkhaa
open Go.RowKit Go.Shelf Go.Maps
set_option linter.unusedVariables false
set_option linter.unusedSimpArgs false
set_option linter.unusedSectionVars false
set_option maxRecDepth 100000 in
theorem rbegin_calls (w : World) : Calls Try.prog 13 #[] w fun e w' => ∃ rp u, e = .returned (.pointer (some ⟨rp, 0, none⟩)) ∧ RefT w' w.heap.size rp u [(rootB, ⟨#[]⟩)] ∧ Below w.heap.size w w' := by
  have hB := Below.refl w.heap.size w
  go_enter Try.func13, Try.ntmps13
  go_wp2_with fail
  go_ret
  have hb1 := (Below.refl w.heap.size w).alloc (Nat.le_refl _) (.cells #[.string ⟨#[114, 111, 111, 116]⟩, .string ⟨#[]⟩] 88)
  have hb2 := hb1.alloc (by simp) (.cells #[.slice (some ⟨w.heap.size, 0, none⟩) 1 1] 91)
  have h1 := blk_new w (.cells #[.string ⟨#[114, 111, 111, 116]⟩, .string ⟨#[]⟩] 88)
  refine ⟨w.heap.size + 1, .slice (some ⟨w.heap.size, 0, none⟩) 1 1, rfl, ⟨?_, ⟨rfl, .inr ⟨w.heap.size, 1, #[.string ⟨#[114, 111, 111, 116]⟩, .string ⟨#[]⟩], rfl, Nat.le_refl _, ?_, Nat.le_refl _, by decide, rfl, rfl⟩⟩, by omega⟩, hb2⟩
  · have := blk_new (w.alloc (.cells #[.string ⟨#[114, 111, 111, 116]⟩, .string ⟨#[]⟩] 88)) (.cells #[.slice (some ⟨w.heap.size, 0, none⟩) 1 1] 91)
    simpa using this
  · exact blk_below h1 ((Below.refl _ _).alloc (Nat.le_refl _) _)
/-! Move: the row with another parent -/
def setTo (N : Nodes) (s p : ByteArray) (k : Nat) : Nodes := setN (N.take k) s p
theorem setTo_succ {N : Nodes} {s p : ByteArray} {k : Nat} (h : k < N.length) : setTo N s p (k + 1) = setTo N s p k ++ [if (N[k]'h).1 = s then ((N[k]'h).1, p) else N[k]'h] := by
  unfold setTo setN
  rw [List.take_succ_eq_append_getElem h, List.map_append]; rfl
theorem setTo_all (N : Nodes) (s p : ByteArray) : setTo N s p N.length = setN N s p := by unfold setTo; rw [List.take_length]
theorem setTo_len {N : Nodes} {s p : ByteArray} {k : Nat} (h : k ≤ N.length) : (setTo N s p k).length = k := by unfold setTo; rw [setN_length, List.length_take]; omega
/-- What the reference looks at. -/
theorem move_found {N : Nodes} (G : Good11 N) {s p : ByteArray} (hs : hasN N s = true) (hp : inL (pathT N p) s = false) : (8 < (pathT N p).length + deepN N s) ↔ ∃ k, ∃ h : k < (setN N s p).length, 8 < (pathT (setN N s p) ((setN N s p)[k]'h).1).length := by
  have hp' : s ∉ pathT N p := fun h => by rw [inL_iff.2 h] at hp; cases hp
  rw [move_deep G hs hp']
  constructor
  · rintro ⟨x, hx, h8⟩
    have hx2 : hasN (setN N s p) x = true := by rw [hasN_set]; exact mem_all.1 hx
    obtain ⟨k, hk, e⟩ := List.getElem_of_mem (parN_mem hx2)
    exact ⟨k, hk, by rw [e]; exact h8⟩
  · rintro ⟨k, hk, h8⟩
    refine ⟨((setN N s p)[k]'hk).1, mem_all.2 ?_, h8⟩
    rw [← hasN_set (s := s) (p := p)]
    exact hasN_iff.2 ⟨_, List.getElem_mem hk⟩
theorem set_depth {N : Nodes} (G : Good11 N) {s p : ByteArray} (hs : hasN N s = true) (hp : inL (pathT N p) s = false) (x : ByteArray) : (pathT (setN N s p) x).length < 19 := by
  have hp' : s ∉ pathT N p := fun h => by rw [inL_iff.2 h] at hp; cases hp
  rw [move_pathT G hs hp']
  have h1 := G.deep x
  have h2 := G.deep p
  split
  · rw [List.length_append, List.length_take]; omega
  · omega
end Go.Proofs.Ythaipgbjnigkhaa
