import Derived.Test.YthaipgbjnigkhaaTrh
import Derived.Test.YthaipgbjnigkhaaKin0
namespace Go.Proofs.Ythaipgbjnigkhaa
open Go.RowKit Go.Shelf Go.Maps
set_option linter.unusedVariables false
set_option linter.unusedSimpArgs false
/-! ### A tree that the call made; acts -/
theorem good_createR {N : Nodes} (G : Good11 N) (s p : ByteArray) : Good11 (createR N s p).2 := by
  unfold createR
  cases h1 : rightB s with
  | false => exact G
  | true =>
    cases h2 : hasN N s with
    | true => exact G
    | false =>
      cases h3 : hasN N p with
      | false => exact G
      | true =>
        simp only [Bool.not_true, Bool.false_eq_true, if_false]
        split
        · exact G
        · split
          · exact G
          · exact good_create G h1 h2 h3 (by omega) (by omega)
theorem good_removeR {N : Nodes} (G : Good11 N) (s : ByteArray) : Good11 (removeR N s).2 := by
  unfold removeR
  cases h1 : hasN N s with
  | false => exact G
  | true =>
    simp only [Bool.not_true, Bool.false_eq_true, if_false]
    split
    · exact G
    · rename_i hr
      cases h2 : childN N s with
      | nil => exact good_remove G h1 hr h2
      | cons a r => exact G
theorem good_moveR {N : Nodes} (G : Good11 N) (s p : ByteArray) : Good11 (moveR N s p).2 := by
  unfold moveR
  cases h1 : hasN N s with
  | false => exact G
  | true =>
    cases h2 : hasN N p with
    | false => exact G
    | true =>
      simp only [Bool.not_true, Bool.or_self, Bool.false_eq_true, if_false]
      split
      · exact G
      · rename_i hr
        split
        · exact G
        · rename_i hi
          split
          · exact G
          · exact good_move G h1 h2 hr (fun h => hi (inL_iff.2 h)) (by omega)
structure ActT where
  kind : Int
  n : ByteArray
  o : ByteArray
def doT (N : Nodes) (a : ActT) : Int × Nodes := if a.kind.tmod 4 = 2 then moveR N a.n a.o else if a.kind.tmod 4 = 3 then removeR N a.n else createR N a.n a.o
theorem good_doT {N : Nodes} (G : Good11 N) (a : ActT) : Good11 (doT N a).2 := by
  unfold doT
  split
  · exact good_moveR G _ _
  · split
    · exact good_removeR G _
    · exact good_createR G _ _
structure TS (w cur : World) (tp mb : Nat) (N : Nodes) : Prop where
  at' : TreeAt cur tp mb N
  base : w.heap.size ≤ tp ∧ w.heap.size ≤ mb
  below : Below w.heap.size w cur
theorem TS.ge {w cur : World} {tp mb : Nat} {N : Nodes} (h : TS w cur tp mb N) : ∀ k, treeX tp mb k → w.heap.size ≤ k := by
  rintro k (rfl | rfl)
  · exact h.base.1
  · exact h.base.2
theorem TS.read {w cur w' : World} {tp mb : Nat} {N : Nodes} (h : TS w cur tp mb N) (hb : Below cur.heap.size cur w') : TS w w' tp mb N := ⟨h.at'.below hb, h.base, bl_next h.below hb⟩
theorem TS.wrote {w cur w' : World} {tp mb : Nat} {N M : Nodes} (h : TS w cur tp mb N) (hk : Kept (treeX tp mb) cur w') (ht : TreeAt w' tp mb M) : TS w w' tp mb M := ⟨ht, h.base, h.below.trans (hk.below h.below.size h.ge)⟩
theorem TS.kept {w cur w' : World} {tp mb : Nat} {N : Nodes} (h : TS w cur tp mb N) {X : Nat → Prop} (hk : Kept X cur w') (hx : ∀ k, treeX tp mb k → ¬ X k) (hb : ∀ k, X k → w.heap.size ≤ k) : TS w w' tp mb N := ⟨h.at'.kept hk hx, h.base, h.below.trans (hk.below h.below.size hb)⟩
section
variable {w cur : World} {tp mb : Nat} {N : Nodes}
theorem new_ts (w cur : World) (hB : Below w.heap.size w cur) : Calls Try.prog 12 #[] cur fun e w' => ∃ tp mb, e = .returned (.pointer (some ⟨tp, 0, none⟩)) ∧ TS w w' tp mb [(rootB, ⟨#[]⟩)] ∧ Below cur.heap.size cur w' ∧ (cur.heap.size ≤ tp ∧ cur.heap.size ≤ mb) := by
  refine (tnew_calls cur).mono ?_
  rintro e w' ⟨tp, mb, rfl, ht, ⟨h1, h2⟩, hb⟩
  have := hB.size
  exact ⟨tp, mb, rfl, ⟨ht, ⟨by omega, by omega⟩, bl_next hB hb⟩, hb, h1, h2⟩
theorem create_ts (h : TS w cur tp mb N) (G : Good11 N) (s p : ByteArray) (hs : s.size ≤ 1000) (hp : p.size ≤ 1000) (r : Int) (M : Nodes) (hr : createR N s p = (r, M)) :
    Calls Try.prog 31 #[.pointer (some ⟨tp, 0, none⟩), .string s, .string p] cur fun e w' => e = .returned (.int .i64 r) ∧ TS w w' tp mb M ∧ Kept (treeX tp mb) cur w' := by
  refine (create_calls cur h.at' G s p hs hp).mono ?_
  rw [hr]
  rintro e w' ⟨rfl, ht, hk⟩
  exact ⟨rfl, h.wrote hk ht, hk⟩
theorem move_ts (h : TS w cur tp mb N) (G : Good11 N) (s p : ByteArray) (hs : s.size ≤ 1000) (hp : p.size ≤ 1000) (r : Int) (M : Nodes) (hr : moveR N s p = (r, M)) :
    Calls Try.prog 59 #[.pointer (some ⟨tp, 0, none⟩), .string s, .string p] cur fun e w' => e = .returned (.int .i64 r) ∧ TS w w' tp mb M ∧ Kept (treeX tp mb) cur w' := by
  refine (move_calls cur h.at' G s p hs hp).mono ?_
  rw [hr]
  rintro e w' ⟨rfl, ht, hk⟩
  exact ⟨rfl, h.wrote hk ht, hk⟩
theorem remove_ts (h : TS w cur tp mb N) (G : Good11 N) (s : ByteArray) (hs : s.size ≤ 1000) (r : Int) (M : Nodes) (hr : removeR N s = (r, M)) :
    Calls Try.prog 30 #[.pointer (some ⟨tp, 0, none⟩), .string s] cur fun e w' => e = .returned (.int .i64 r) ∧ TS w w' tp mb M ∧ Kept (treeX tp mb) cur w' := by
  refine (remove_calls cur h.at' G s hs).mono ?_
  rw [hr]
  rintro e w' ⟨rfl, ht, hk⟩
  exact ⟨rfl, h.wrote hk ht, hk⟩
theorem path_ts (h : TS w cur tp mb N) (G : Good11 N) (s : ByteArray) (hs : s.size ≤ 1000) (l : List ByteArray) (hl : pathT N s = l) :
    Calls Try.prog 19 #[.pointer (some ⟨tp, 0, none⟩), .string s] cur fun e w' => ∃ v, e = .returned v ∧ StrS w' v l ∧ TS w w' tp mb N ∧ Below cur.heap.size cur w' := by
  refine (path_calls cur h.at' G s hs).mono ?_
  rw [hl]
  rintro e w' ⟨v, rfl, hrow, hb⟩
  exact ⟨v, rfl, strS_of hrow, h.read hb, hb⟩
theorem children_ts (h : TS w cur tp mb N) (G : Good11 N) (s : ByteArray) (l : List ByteArray) (hl : childN N s = l) :
    Calls Try.prog 21 #[.pointer (some ⟨tp, 0, none⟩), .string s] cur fun e w' => ∃ v, e = .returned v ∧ StrS w' v l ∧ TS w w' tp mb N ∧ Below cur.heap.size cur w' := by
  refine (children_calls cur h.at' G s).mono ?_
  rw [hl]
  rintro e w' ⟨v, rfl, hrow, hb⟩
  exact ⟨v, rfl, strS_of hrow, h.read hb, hb⟩
theorem below_ts (h : TS w cur tp mb N) (G : Good11 N) (s : ByteArray) (l : List ByteArray) (hl : belowN N s = l) :
    Calls Try.prog 23 #[.pointer (some ⟨tp, 0, none⟩), .string s] cur fun e w' => ∃ v, e = .returned v ∧ StrS w' v l ∧ TS w w' tp mb N ∧ Below cur.heap.size cur w' := by
  refine (below_calls cur h.at' G s).mono ?_
  rw [hl]
  rintro e w' ⟨v, rfl, hrow, hb⟩
  exact ⟨v, rfl, strS_of hrow, h.read hb, hb⟩
theorem all_ts (h : TS w cur tp mb N) (G : Good11 N) (l : List ByteArray) (hl : allN N = l) :
    Calls Try.prog 17 #[.pointer (some ⟨tp, 0, none⟩)] cur fun e w' => ∃ v, e = .returned v ∧ StrS w' v l ∧ TS w w' tp mb N ∧ Below cur.heap.size cur w' := by
  refine (all_calls cur h.at' G).mono ?_
  rw [hl]
  rintro e w' ⟨v, rfl, hrow, hb⟩
  exact ⟨v, rfl, strS_of hrow, h.read hb, hb⟩
theorem has_ts (h : TS w cur tp mb N) (s : ByteArray) (hs : s.size ≤ 1000) (b : Bool) (hl : hasN N s = b) :
    Calls Try.prog 25 #[.pointer (some ⟨tp, 0, none⟩), .string s] cur fun e w' => e = .returned (.bool b) ∧ TS w w' tp mb N ∧ Below cur.heap.size cur w' := by
  refine (has_calls cur h.at' s (by omega)).mono ?_
  rw [hl]
  rintro e w' ⟨rfl, hb⟩
  exact ⟨rfl, h.read hb, hb⟩
theorem parent_ts (h : TS w cur tp mb N) (s : ByteArray) (hs : s.size ≤ 1000) (b : ByteArray) (hl : parN N s = b) :
    Calls Try.prog 27 #[.pointer (some ⟨tp, 0, none⟩), .string s] cur fun e w' => e = .returned (.string b) ∧ TS w w' tp mb N ∧ Below cur.heap.size cur w' := by
  refine (parent_calls cur h.at' s (by omega)).mono ?_
  rw [hl]
  rintro e w' ⟨rfl, hb⟩
  exact ⟨rfl, h.read hb, hb⟩
end
/-! ### The live question -/
def bA : ByteArray := ⟨#[97]⟩
def bB : ByteArray := ⟨#[98]⟩
def bC : ByteArray := ⟨#[99]⟩
def bE : ByteArray := ⟨#[]⟩
def n0 : Nodes := [(rootB, bE)]
def n1 : Nodes := [(bA, rootB), (rootB, bE)]
def n2 : Nodes := [(bA, rootB), (bB, bA), (rootB, bE)]
def n3 : Nodes := [(bA, rootB), (bB, bA), (bC, bB), (rootB, bE)]
def n4 : Nodes := [(bA, rootB), (bB, bA), (bC, rootB), (rootB, bE)]
def n5 : Nodes := [(bA, rootB), (bC, rootB), (rootB, bE)]
theorem t1 : createR n0 bA rootB = (0, n1) := by decide +kernel
theorem t2 : createR n1 bB bA = (0, n2) := by decide +kernel
theorem t3 : createR n2 bC bB = (0, n3) := by decide +kernel
theorem t4 : moveR n3 bA bC = (8, n3) := by decide +kernel
theorem t5 : moveR n3 bC rootB = (0, n4) := by decide +kernel
theorem t6 : removeR n4 bA = (10, n4) := by decide +kernel
theorem t7 : createR n4 bA bB = (5, n4) := by decide +kernel
theorem t8 : createR n4 ⟨#[100]⟩ ⟨#[120]⟩ = (4, n4) := by decide +kernel
theorem t9 : removeR n4 rootB = (1, n4) := by decide +kernel
theorem t10 : removeR n4 bB = (0, n5) := by decide +kernel
theorem g1 : Good11 n1 := by have := good_createR good_begin bA rootB; rw [show createR [(rootB, ⟨#[]⟩)] bA rootB = (0, n1) from t1] at this; exact this
theorem g2 : Good11 n2 := by have := good_createR g1 bB bA; rw [t2] at this; exact this
theorem g3 : Good11 n3 := by have := good_createR g2 bC bB; rw [t3] at this; exact this
theorem g4 : Good11 n4 := by have := good_moveR g3 bC rootB; rw [t5] at this; exact this
theorem g5 : Good11 n5 := by have := good_removeR g4 bB; rw [t10] at this; exact this
theorem p1 : pathT n4 bB = [bB, bA, rootB] := by decide +kernel
theorem p2 : childN n4 rootB = [bA, bC] := by decide +kernel
theorem p3 : belowN n4 bA = [bA, bB] := by decide +kernel
theorem p4 : allN n4 = [bA, bB, bC, rootB] := by decide +kernel
theorem strS_lit {w : World} {g : Nat} {l : List ByteArray} {T : TypeId} (h : w.heap[g]? = some (.cells (strC l).toArray T)) : StrS w (.slice (some ⟨g, 0, none⟩) l.length l.length) l :=
  ⟨_, _, rfl, Nat.le_refl _, .inr ⟨g, 0, rfl, fun j hj => by
    rw [blk_cell h]
    show (strC l).toArray[0 + j]? = _
    simp [strC, hj]⟩⟩
end Go.Proofs.Ythaipgbjnigkhaa
