import Derived.Test.YthhfcambdmdgfaaOwn
namespace Go.Proofs.Ythhfcambdmdgfaa
open Go.RowKit
set_option linter.unusedVariables false
/-! ### Objects in memory that calls write: what is kept -/
/-- All blocks but those of X are kept. -/
structure Kept (X : Nat → Prop) (w w' : World) : Prop where
  os : w'.os = w.os
  tape : w'.tape = w.tape
  output : w'.output = w.output
  size : w.heap.size ≤ w'.heap.size
  block : ∀ k, k < w.heap.size → ¬ X k → w'.heap[k]? = w.heap[k]?
theorem Kept.refl (X : Nat → Prop) (w : World) : Kept X w w := ⟨rfl, rfl, rfl, Nat.le_refl _, fun _ _ _ => rfl⟩
theorem kept_of_below {X : Nat → Prop} {w w' : World} (h : Below w.heap.size w w') : Kept X w w' := ⟨h.os, h.tape, h.output, h.size, fun k hk _ => h.block k hk⟩
theorem Kept.trans {X Y : Nat → Prop} {a b c : World} (h : Kept X a b) (k : Kept Y b c) (hY : ∀ n, Y n → X n ∨ a.heap.size ≤ n) : Kept X a c :=
  ⟨k.os.trans h.os, k.tape.trans h.tape, k.output.trans h.output, Nat.le_trans h.size k.size, fun n hn hx => by
    rw [k.block n (Nat.lt_of_lt_of_le hn h.size) (fun hy => (hY n hy).elim hx (fun q => by omega))]; exact h.block n hn hx⟩
theorem Kept.below {X : Nat → Prop} {B : Nat} {w w' : World} (h : Kept X w w') (hB : B ≤ w.heap.size) (hX : ∀ k, X k → B ≤ k) : Below B w w' :=
  ⟨h.os, h.tape, h.output, h.size, fun k hk => h.block k (Nat.lt_of_lt_of_le hk hB) (fun hx => by have := hX k hx; omega)⟩
theorem Kept.wider {X Y : Nat → Prop} {w w' : World} (h : Kept X w w') (hX : ∀ k, X k → Y k) : Kept Y w w' := ⟨h.os, h.tape, h.output, h.size, fun k hk hy => h.block k hk (fun hx => hy (hX k hx))⟩
theorem Kept.cell {X : Nat → Prop} {w w' : World} (h : Kept X w w') {a : Addr} {v : Value} (hc : w.cell? a = some v) (hx : ¬ X a.block) : w'.cell? a = some v := by
  rw [World.cell?_of_block (h.block a.block (lt_of_cell hc) hx)]; exact hc
theorem Kept.heap {X : Nat → Prop} {w w' : World} (h : Kept X w w') {b : Nat} {o : Obj} (hc : w.heap[b]? = some o) (hx : ¬ X b) : w'.heap[b]? = some o := by
  rw [h.block b (blk_lt hc) hx]; exact hc
theorem Kept.setCell {X : Nat → Prop} {a w : World} (h : Kept X a w) (p : Addr) (u : Value) (hp : X p.block ∨ a.heap.size ≤ p.block) : Kept X a (w.setCell p u) :=
  ⟨h.os, h.tape, h.output, by simpa using h.size, fun k hk hx => by
    rw [Below.heap_setCell w p u k (fun e => by subst e; rcases hp with q | q; exact hx q; omega)]; exact h.block k hk hx⟩
theorem Kept.alloc {X : Nat → Prop} {a w : World} (h : Kept X a w) (o : Obj) : Kept X a (w.alloc o) :=
  ⟨h.os, h.tape, h.output, by have := h.size; simp; omega, fun k hk hx => by rw [Below.heap_alloc w o k (Nat.lt_of_lt_of_le hk h.size)]; exact h.block k hk hx⟩
theorem Kept.drew {X : Nat → Prop} {a w : World} (h : Kept X a w) : Kept X a w.drew := ⟨h.os, h.tape, h.output, h.size, h.block⟩
theorem Kept.grown {X : Nat → Prop} {a w w' : World} {row : Option Nat} (h : Kept X a w) (hg : w.grownBy w' row) (hr : ∀ k, row = some k → X k ∨ a.heap.size ≤ k) : Kept X a w' :=
  ⟨hg.os.trans h.os, hg.tape.trans h.tape, hg.output.trans h.output, Nat.le_trans h.size hg.size, fun k hk hx => by
    rw [hg.block k (Nat.lt_of_lt_of_le hk h.size) (fun e => (hr k e.symm).elim hx (fun q => by omega))]; exact h.block k hk hx⟩
/-! ### Rows of elements of several cells -/
/-- The slice v, of elements of type e, of sz cells each. -/
def OwnN (w : World) (e : TypeId) (sz : Nat) (v : Value) (n : Nat) (xs : List Value) : Prop := w.ownsRow 0 e sz v n xs
theorem ownN_kept {X : Nat → Prop} {w w' : World} {e : TypeId} {sz : Nat} {v : Value} {n : Nat} {xs : List Value} (h : OwnN w e sz v n xs) (hk : Kept X w w') (hx : ∀ k, v.ownBlock = some k → ¬ X k) : OwnN w' e sz v n xs := by
  refine ⟨h.1, ?_⟩
  rcases h.2 with h0 | ⟨g, cap, cur, hv, hg, hh, r⟩
  · exact .inl h0
  · exact .inr ⟨g, cap, cur, hv, hg, hk.heap hh (hx g (by rw [hv]; rfl)), r⟩
theorem ownN_cells {w : World} {e : TypeId} {sz : Nat} {v : Value} {n : Nat} {xs : List Value} (h : OwnN w e sz v n xs) (hn : 0 < n) :
    ∃ g cap, v = .slice (some ⟨g, 0, none⟩) n cap ∧ g < w.heap.size ∧ (∀ j, j < n * sz → w.cell? ⟨g, j, none⟩ = some (xs.getD j undef)) ∧ (∀ j, w.frozen? ⟨g, j, none⟩ = false) := by
  have hc := fun g hg => World.ownsRow.cells h (g := g) hg
  have hl := World.ownsRow.lt h
  rcases h.2 with ⟨_, h0⟩ | ⟨g, cap, cur, hv, hg, hh, hcap, _, hcs, ht⟩
  · omega
  · refine ⟨g, cap, hv, (hl g (by rw [hv]; rfl)).2, fun j hj => ?_, fun j => blk_free hh j⟩
    have hj2 : j < xs.length := by rw [h.1]; exact hj
    have := hc g (by rw [hv]; rfl) j (xs.getD j undef) (by rw [List.getD_eq_getElem?_getD, List.getElem?_eq_getElem hj2]; rfl)
    have e0 : (⟨g, 0, none⟩ : Addr).add j = ⟨g, j, none⟩ := by unfold Addr.add; split <;> simp_all
    rw [e0] at this; exact this
theorem ownN_set {w : World} {g cap n : Nat} {e : TypeId} {sz : Nat} {xs : List Value} (h : OwnN w e sz (.slice (some ⟨g, 0, none⟩) n cap) n xs) (j : Nat) (hj : j < n * sz) (u : Value) :
    OwnN (w.setCell ⟨g, j, none⟩ u) e sz (.slice (some ⟨g, 0, none⟩) n cap) n (xs.set j u) := by
  refine ⟨by rw [List.length_set]; exact h.1, ?_⟩
  rcases h.2 with ⟨h0, _⟩ | ⟨g', cap', cur, hv, hg, hh, hcap, hm, hcs, ht⟩
  · cases h0
  · cases hv
    refine .inr ⟨g, cap, cur.setIfInBounds j u, rfl, hg, heap_setCell_same w g j _ e u hh, hcap, hm, by simpa using hcs, ?_⟩
    rw [Array.toList_setIfInBounds, List.take_set, ht]
end Go.Proofs.Ythhfcambdmdgfaa
