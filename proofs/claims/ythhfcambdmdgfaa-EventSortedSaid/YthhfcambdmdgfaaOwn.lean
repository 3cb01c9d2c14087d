import Derived.Test.YthhfcambdmdgfaaBase
import Derived.OwnWalk
import Derived.Test.YthhfcambdmdgfaaProg
import Derived.Test.YthhfcambdmdgfaaSeq
namespace Go.Proofs.Ythhfcambdmdgfaa
open Go.RowKit
set_option linter.unusedVariables false
/-! ### Slices of one-cell elements that the call itself made -/
/-- The slice v, of elements of type e, is nil, or lies among the blocks from base on; its cells are xs. -/
def Own (w : World) (base : Nat) (e : TypeId) (v : Value) (xs : List Value) : Prop := w.ownsRow base e 1 v xs.length xs
theorem own_nil (w : World) (base : Nat) (e : TypeId) : Own w base e (.slice none 0 0) [] := World.ownsRow_nil _ _ _ _
theorem own_below {w w' : World} {base : Nat} {e : TypeId} {v : Value} {xs : List Value} (h : Own w base e v xs) (hb : Below w.heap.size w w') : Own w' base e v xs := by
  refine ⟨h.1, ?_⟩
  rcases h.2 with h0 | ⟨g, cap, cur, hv, hg, hh, r⟩
  · exact .inl h0
  · refine .inr ⟨g, cap, cur, hv, hg, ?_, r⟩
    rw [hb.block g (by rcases Nat.lt_or_ge g w.heap.size with q | q; exact q; rw [Array.getElem?_eq_none q] at hh; cases hh)]; exact hh
theorem own_mono {w : World} {base base' : Nat} {e : TypeId} {v : Value} {xs : List Value} (h : Own w base e v xs) (hb : base' ≤ base) : Own w base' e v xs := by
  refine ⟨h.1, ?_⟩
  rcases h.2 with h0 | ⟨g, cap, cur, hv, hg, r⟩
  · exact .inl h0
  · exact .inr ⟨g, cap, cur, hv, by omega, r⟩
/-- Where all blocks but one are kept, and that is not this one's. -/
theorem own_kept {w w' : World} {base : Nat} {e : TypeId} {v : Value} {xs : List Value} {b : Option Nat} (h : Own w base e v xs) (hb : ∀ k, k < w.heap.size → some k ≠ b → w'.heap[k]? = w.heap[k]?) (hne : ∀ k, v.ownBlock = some k → some k ≠ b) : Own w' base e v xs := by
  refine ⟨h.1, ?_⟩
  rcases h.2 with h0 | ⟨g, cap, cur, hv, hg, hh, r⟩
  · exact .inl h0
  · refine .inr ⟨g, cap, cur, hv, hg, ?_, r⟩
    have hl : g < w.heap.size := by rcases Nat.lt_or_ge g w.heap.size with q | q; exact q; rw [Array.getElem?_eq_none q] at hh; cases hh
    rw [hb g hl (hne g (by rw [hv]; rfl))]; exact hh
theorem own_cells {w : World} {base : Nat} {e : TypeId} {v : Value} {xs : List Value} (h : Own w base e v xs) (hn : 0 < xs.length) :
    ∃ g cap, v = .slice (some ⟨g, 0, none⟩) xs.length cap ∧ base ≤ g ∧ g < w.heap.size ∧ (∀ j, j < xs.length → w.cell? ⟨g, j, none⟩ = some (xs.getD j undef)) ∧ (∀ j, w.frozen? ⟨g, j, none⟩ = false) := by
  have hc := fun g hg => World.ownsRow.cells h (g := g) hg
  have hl := World.ownsRow.lt h
  rcases h.2 with ⟨_, h0⟩ | ⟨g, cap, cur, hv, hg, hh, hcap, _, hcs, ht⟩
  · omega
  · refine ⟨g, cap, hv, hg, (hl g (by rw [hv]; rfl)).2, fun j hj => ?_, fun j => ?_⟩
    · have := hc g (by rw [hv]; rfl) j (xs.getD j undef) (by rw [List.getD_eq_getElem?_getD, List.getElem?_eq_getElem hj]; rfl)
      have e0 : (⟨g, 0, none⟩ : Addr).add j = ⟨g, j, none⟩ := by unfold Addr.add; split <;> simp_all
      rw [e0] at this; exact this
    · exact blk_free hh j
theorem own_set {w : World} {base g cap n : Nat} {e : TypeId} {xs : List Value} (h : Own w base e (.slice (some ⟨g, 0, none⟩) n cap) xs) (j : Nat) (hj : j < xs.length) (u : Value) :
    Own (w.setCell ⟨g, j, none⟩ u) base e (.slice (some ⟨g, 0, none⟩) n cap) (xs.set j u) := by
  have hl := World.ownsRow.lt h g rfl
  refine ⟨by rw [List.length_set]; exact h.1.trans (by simp), ?_⟩
  rcases h.2 with ⟨h0, _⟩ | ⟨g', cap', cur, hv, hg, hh, hcap, hm, hcs, ht⟩
  · cases h0
  · cases hv
    refine .inr ⟨g, cap, cur.setIfInBounds j u, by rw [List.length_set], hg, ?_, by rw [List.length_set]; exact hcap, hm, by simpa using hcs, ?_⟩
    · exact heap_setCell_same w g j _ e u hh
    · rw [Array.toList_setIfInBounds, List.length_set, List.take_set]
      have : (xs.length * 1) = xs.length * 1 := rfl
      rw [ht]
section
variable {P : Program}
theorem append1 {ops : Array Oper} {rest : List Oper} {o : Oper} {a : Act} {Q : Exit → Act → World → Prop} {w : World} (hgd : o.guard = none) (s x : Operand) (t : TypeId)
    (ho : o.op = .call { callee := .builtin .append, args := #[s, x], argTypes := #[t, t] })
    (base : Nat) (e : TypeId) (i : TypeInfo) (z : Value) (bytes : Nat) (ht : P.underlying t = some (.slice e)) (hi : P.info? e = some i) (hz : i.zero = some z)
    (hsize : i.size = 1) (hby : i.bytes = bytes) (hzs : z.cells.size = 1) (tb : TypeId)
    (v : Value) (xs : List Value) (u : Value) (hs : a.eval s = v) (hown : Own w base e v xs) (c : Nat) (hx : a.eval x = .slice (some ⟨w.heap.size, 0, none⟩) 1 c) (hu : u.oneCell' = true)
    (hbase : base ≤ w.heap.size) (hlen : xs.length + 1 ≤ 1000000000) (hby2 : bytes ≤ 64)
    (h : ∀ v' w1, Own w1 base e v' (xs ++ [u]) → Below base w w1 → (∀ k, k < w.heap.size → some k ≠ v.ownBlock → w1.heap[k]? = w.heap[k]?) → wpList P ops Q rest (a.put o.dst v') w1) :
    wpList P ops Q (o :: rest) a (w.alloc (.cells #[u] tb)) := by
  refine wpList_append_own _ hgd s x t ho base e i z 1 bytes ht hi hz hsize hby hzs (by decide) v xs.length xs hs (World.ownsRow.alloc hown _) ⟨w.heap.size, 0, none⟩ 1 c [u] hx rfl ?_ (by simpa using hu) (by unfold maxLen; omega)
    (Nat.le_trans (Nat.mul_le_mul hlen hby2) (by decide)) (by simp; omega) ?_
  · intro j y hj
    match j, hj with
    | 0, hj => simp at hj; subst hj; exact blk_cell (blk_new w _) 0
  · intro v' w1 hown' hgrow _
    refine h v' w1 ?_ ?_ ?_
    · unfold Own; rw [List.length_append]; exact hown'
    · exact ((Below.refl _ _).alloc hbase _).grown hgrow (by simp; omega) (fun k hk => (World.ownsRow.lt hown k hk).1)
    · intro k hk hne
      rw [hgrow.block k (by simp; omega) hne]
      exact Below.heap_alloc w _ k hk
theorem appendN {ops : Array Oper} {rest : List Oper} {o : Oper} {a : Act} {Q : Exit → Act → World → Prop} {w : World} (hgd : o.guard = none) (s x : Operand) (t : TypeId)
    (ho : o.op = .call { callee := .builtin .append, args := #[s, x], argTypes := #[t, t] })
    (base : Nat) (e : TypeId) (i : TypeInfo) (z : Value) (bytes : Nat) (ht : P.underlying t = some (.slice e)) (hi : P.info? e = some i) (hz : i.zero = some z)
    (hsize : i.size = 1) (hby : i.bytes = bytes) (hzs : z.cells.size = 1)
    (v : Value) (xs news : List Value) (hs : a.eval s = v) (hown : Own w base e v xs) (g off c : Nat) (hx : a.eval x = .slice (some ⟨g, off, none⟩) news.length c)
    (hnews : ∀ j, j < news.length → w.cell? ⟨g, off + j, none⟩ = some (news.getD j undef)) (hu : ∀ u ∈ news, u.oneCell' = true)
    (hbase : base ≤ w.heap.size) (hlen : xs.length + news.length ≤ 1000000000) (hby2 : bytes ≤ 64)
    (h : ∀ v' w1, Own w1 base e v' (xs ++ news) → Below base w w1 → (∀ k, k < w.heap.size → some k ≠ v.ownBlock → w1.heap[k]? = w.heap[k]?) → wpList P ops Q rest (a.put o.dst v') w1) :
    wpList P ops Q (o :: rest) a w := by
  refine wpList_append_own _ hgd s x t ho base e i z 1 bytes ht hi hz hsize hby hzs (by decide) v xs.length xs hs hown ⟨g, off, none⟩ news.length c news hx (by simp) ?_ hu (by unfold maxLen; omega)
    (Nat.le_trans (Nat.mul_le_mul hlen hby2) (by decide)) hbase ?_
  · intro j y hj
    obtain ⟨hj1, hj2⟩ := List.getElem?_eq_some_iff.1 hj
    have := hnews j hj1
    rw [List.getD_eq_getElem?_getD, hj, Option.getD_some] at this
    have e0 : (⟨g, off, none⟩ : Addr).add j = ⟨g, off + j, none⟩ := by unfold Addr.add; split <;> simp_all
    rw [e0]; exact this
  · intro v' w1 hown' hgrow _
    refine h v' w1 ?_ ?_ ?_
    · unfold Own; rw [List.length_append]; exact hown'
    · exact (Below.refl _ _).grown hgrow hbase (fun k hk => (World.ownsRow.lt hown k hk).1)
    · intro k hk hne
      exact hgrow.block k hk hne
end
theorem info_int : (Try.prog.info? 3).map (fun i => (i.zero, i.size, i.bytes)) = some (some (.int .i64 0), 1, 8) := by kernel_rfl
theorem own_at {w : World} {base g cap n : Nat} {e : TypeId} {xs : List Value} (h : Own w base e (.slice (some ⟨g, 0, none⟩) n cap) xs) :
    base ≤ g ∧ g < w.heap.size ∧ (∀ j, j < xs.length → w.cell? ⟨g, j, none⟩ = some (xs.getD j undef)) ∧ (∀ j, w.frozen? ⟨g, j, none⟩ = false) := by
  have hl := World.ownsRow.lt h g rfl
  refine ⟨hl.1, hl.2, fun j hj => ?_, ?_⟩
  · obtain ⟨g', cap', hv, _, _, hc, _⟩ := own_cells h (by omega)
    cases hv; exact hc j hj
  · rcases h.2 with ⟨h0, _⟩ | ⟨g', cap', cur, hv, _, hh, _⟩
    · cases h0
    · cases hv; exact fun j => blk_free hh j
def ints (l : List Int) : List Value := l.map (.int .i64)
theorem ints_length (l : List Int) : (ints l).length = l.length := by simp [ints]
theorem ints_getD {l : List Int} {j : Nat} (h : j < l.length) : (ints l).getD j undef = .int .i64 (l.getD j 0) := by
  simp [ints, List.getD_eq_getElem?_getD, List.getElem?_eq_getElem, h]
theorem ints_append (l : List Int) (b : Int) : ints l ++ [.int .i64 b] = ints (l ++ [b]) := by simp [ints]
theorem ints_set (l : List Int) (j : Nat) (b : Int) : (ints l).set j (.int .i64 b) = ints (l.set j b) := by simp [ints, List.map_set]
theorem ints_one (l : List Int) : ∀ u ∈ ints l, u.oneCell' = true := by
  intro u hu; simp only [ints, List.mem_map] at hu; obtain ⟨a, _, rfl⟩ := hu; rfl
theorem ints_app (l m : List Int) : ints l ++ ints m = ints (l ++ m) := by simp [ints]
end Go.Proofs.Ythhfcambdmdgfaa
