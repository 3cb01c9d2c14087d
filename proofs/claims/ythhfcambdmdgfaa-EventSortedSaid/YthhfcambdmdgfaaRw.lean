import Derived.Test.YthhfcambdmdgfaaObj
import Derived.Deep.AppendLies
import Derived.Maps.AppendAt
import Derived.OwnWalk
namespace Go.Proofs.Ythhfcambdmdgfaa
open Go.RowKit
set_option linter.unusedVariables false
/-! ### Rows that the call made -/
section
variable {w w' : World} {base : Nat} {e : TypeId} {sz n : Nat} {v : Value} {xs : List Value}
theorem rw_form (h : w.ownsRow base e sz v n xs) : ∃ ao cap, v = .slice ao n cap := by
  rcases h.2 with ⟨rfl, h0⟩ | ⟨g, cap, cur, hv, _⟩
  · rw [h0]; exact ⟨_, _, rfl⟩
  · exact ⟨_, _, hv⟩
theorem rw_type (h : w.ownsRow base e sz v n xs) {k : Nat} (hk : v.ownBlock = some k) : base ≤ k ∧ ∃ cs, w.heap[k]? = some (.cells cs e) := by
  rcases h.2 with ⟨rfl, _⟩ | ⟨g, cap, cur, rfl, hg, hh, _⟩
  · cases hk
  · cases hk; exact ⟨hg, cur, hh⟩
theorem rw_kept {X : Nat → Prop} (h : w.ownsRow base e sz v n xs) (hk : Kept X w w') (hx : ∀ k, v.ownBlock = some k → ¬ X k) : w'.ownsRow base e sz v n xs := by
  refine ⟨h.1, ?_⟩
  rcases h.2 with h0 | ⟨g, cap, cur, hv, hg, hh, r⟩
  · exact .inl h0
  · exact .inr ⟨g, cap, cur, hv, hg, hk.heap hh (hx g (by rw [hv]; rfl)), r⟩
theorem rw_below (h : w.ownsRow base e sz v n xs) (hb : Below w.heap.size w w') : w'.ownsRow base e sz v n xs :=
  rw_kept h (kept_of_below (X := fun _ => False) hb) (fun _ _ q => q)
theorem rw_mono {base' : Nat} (h : w.ownsRow base e sz v n xs) (hb : base' ≤ base) : w.ownsRow base' e sz v n xs := by
  refine ⟨h.1, ?_⟩
  rcases h.2 with h0 | ⟨g, cap, cur, hv, hg, r⟩
  · exact .inl h0
  · exact .inr ⟨g, cap, cur, hv, by omega, r⟩
/-- A block of another type is no row's. -/
theorem rw_other {T : TypeId} {c : Array Value} {k : Nat} (h : w.ownsRow base e sz v n xs) (hb : w.heap[k]? = some (.cells c T)) (hT : T ≠ e) : v.ownBlock ≠ some k := by
  intro hk
  obtain ⟨_, cs, hc⟩ := rw_type h hk
  rw [hb] at hc; cases hc; exact hT rfl
theorem rw_ne {base2 : Nat} {e2 : TypeId} {sz2 n2 : Nat} {v2 : Value} {xs2 : List Value} (h : w.ownsRow base e sz v n xs) (h2 : w.ownsRow base2 e2 sz2 v2 n2 xs2) (hT : e2 ≠ e) : ∀ k, v2.ownBlock = some k → v.ownBlock ≠ some k := by
  intro k hk
  obtain ⟨_, cs, hc⟩ := rw_type h2 hk
  exact rw_other h hc hT
theorem rw_old {k : Nat} (h : w.ownsRow base e sz v n xs) (hk : k < base) : v.ownBlock ≠ some k := by
  intro q; have := (rw_type h q).1; omega
theorem rw_cells {g cap : Nat} (h : w.ownsRow base e sz (.slice (some ⟨g, 0, none⟩) n cap) n xs) : base ≤ g ∧ g < w.heap.size ∧ (∀ j, j < n * sz → w.cell? ⟨g, j, none⟩ = some (xs.getD j undef)) ∧ (∀ j, w.frozen? ⟨g, j, none⟩ = false) := by
  have hl := World.ownsRow.lt h g rfl
  have hc := World.ownsRow.cells h (g := g) rfl
  refine ⟨hl.1, hl.2, fun j hj => ?_, ?_⟩
  · have hj2 : j < xs.length := by rw [h.1]; exact hj
    have := hc j (xs.getD j undef) (by rw [List.getD_eq_getElem?_getD, List.getElem?_eq_getElem hj2]; rfl)
    have e0 : (⟨g, 0, none⟩ : Addr).add j = ⟨g, j, none⟩ := by unfold Addr.add; split <;> simp_all
    rw [e0] at this; exact this
  · rcases h.2 with ⟨h0, _⟩ | ⟨g', cap', cur, hv, _, hh, _⟩
    · cases h0
    · cases hv; exact fun j => blk_free hh j
theorem rw_pos (h : w.ownsRow base e sz v n xs) (hn : 0 < n) : ∃ g cap, v = .slice (some ⟨g, 0, none⟩) n cap := by
  rcases h.2 with ⟨rfl, h0⟩ | ⟨g, cap, cur, hv, _⟩
  · omega
  · exact ⟨g, cap, hv⟩
theorem rw_set {g cap : Nat} (h : w.ownsRow base e sz (.slice (some ⟨g, 0, none⟩) n cap) n xs) (j : Nat) (u : Value) :
    (w.setCell ⟨g, j, none⟩ u).ownsRow base e sz (.slice (some ⟨g, 0, none⟩) n cap) n (xs.set j u) := by
  refine ⟨by rw [List.length_set]; exact h.1, ?_⟩
  rcases h.2 with ⟨h0, _⟩ | ⟨g', cap', cur, hv, hg, hh, hcap, hm, hcs, ht⟩
  · cases h0
  · cases hv
    refine .inr ⟨g, cap, cur.setIfInBounds j u, rfl, hg, heap_setCell_same w g j _ e u hh, hcap, hm, by simpa using hcs, ?_⟩
    rw [Array.toList_setIfInBounds, List.take_set, ht]
end
/-- An append of one, laid into a block of its own ahead of it. -/
theorem app_rw {P : Program} {ops : Array Oper} {rest : List Oper} {o : Oper} {a : Act} {Q : Exit → Act → World → Prop} {w : World} (hgd : o.guard = none) (s x : Operand) (t : TypeId)
    (ho : o.op = .call { callee := .builtin .append, args := #[s, x], argTypes := #[t, t] })
    (base : Nat) (e : TypeId) (i : TypeInfo) (z : Value) (sz bytes : Nat) (ht : P.underlying t = some (.slice e)) (hi : P.info? e = some i) (hz : i.zero = some z)
    (hsize : i.size = sz) (hby : i.bytes = bytes) (hzs : z.cells.size = sz) (hsz : 0 < sz) (tb : TypeId)
    (v : Value) (n : Nat) (xs us : List Value) (hs : a.eval s = v) (hown : w.ownsRow base e sz v n xs) (c : Nat) (hx : a.eval x = .slice (some ⟨w.heap.size, 0, none⟩) 1 c) (hul : us.length = sz) (hu : ∀ u ∈ us, u.oneCell' = true)
    (hbase : base ≤ w.heap.size) (hlen : n + 1 ≤ 100000000) (hby2 : bytes ≤ 1000000)
    (h : ∀ g cap w1, w1.ownsRow base e sz (.slice (some ⟨g, 0, none⟩) (n + 1) cap) (n + 1) (xs ++ us) → Kept (fun k => v.ownBlock = some k) w w1 → (v.ownBlock = some g ∨ w.heap.size < g) → wpList P ops Q rest (a.put o.dst (.slice (some ⟨g, 0, none⟩) (n + 1) cap)) w1) :
    wpList P ops Q (o :: rest) a (w.alloc (.cells us.toArray tb)) := by
  refine wpList_append_lies _ hgd s x t ho base e i z sz bytes ht hi hz hsize hby hzs hsz v n xs hs (World.ownsRow.alloc hown _) ⟨w.heap.size, 0, none⟩ 1 c us hx (by omega) ?_ hu (by decide) (by unfold maxLen; omega)
    (Nat.le_trans (Nat.mul_le_mul hlen hby2) (by decide)) (by simp; omega) (w.heap.size + 1) (by simp) ?_
  · intro j y hj
    have e0 : (⟨w.heap.size, 0, none⟩ : Addr).add j = ⟨w.heap.size, j, none⟩ := by unfold Addr.add; split <;> simp_all
    rw [e0, blk_cell (blk_new w _) j]; simpa using hj
  · intro g cap w1 hown' hgrow hat _
    refine h g cap w1 hown' (((Kept.refl _ w).alloc _).grown hgrow (fun k hk => .inl hk)) ?_
    rcases hat with q | q
    · exact .inl q
    · exact .inr (by omega)
/-- The same at a step of a region that draws. -/
theorem app_rw_at {P : Program} {o : Oper} {a : Act} {K : Act → World → Prop} {Q : Exit → Act → World → Prop} {w : World} (s x : Operand) (t : TypeId)
    (ho : o.op = .call { callee := .builtin .append, args := #[s, x], argTypes := #[t, t] })
    (base : Nat) (e : TypeId) (i : TypeInfo) (z : Value) (sz bytes : Nat) (ht : P.underlying t = some (.slice e)) (hi : P.info? e = some i) (hz : i.zero = some z)
    (hsize : i.size = sz) (hby : i.bytes = bytes) (hzs : z.cells.size = sz) (hsz : 0 < sz) {tb : TypeId}
    (v : Value) (n : Nat) (xs us : List Value) (hs : a.eval s = v) (hown : w.ownsRow base e sz v n xs) (g0 c : Nat) (hx : a.eval x = .slice (some ⟨g0, 0, none⟩) 1 c) (hcells : w.heap[g0]? = some (.cells us.toArray tb)) (hul : us.length = sz) (hu : ∀ u ∈ us, u.oneCell' = true)
    (hbase : base ≤ w.heap.size) (hlen : n + 1 ≤ 100000000) (hby2 : bytes ≤ 1000000)
    (h : ∀ g cap w1, w1.ownsRow base e sz (.slice (some ⟨g, 0, none⟩) (n + 1) cap) (n + 1) (xs ++ us) → Kept (fun k => v.ownBlock = some k) w w1 → (v.ownBlock = some g ∨ w.heap.size ≤ g) → K (a.put o.dst (.slice (some ⟨g, 0, none⟩) (n + 1) cap)) w1) : o.wp P a w K Q := by
  refine wp_append_lies w s x t ho base e i z sz bytes ht hi hz hsize hby hzs hsz v n xs hs hown ⟨g0, 0, none⟩ 1 c us hx (by omega) ?_ hu (by decide) (by unfold maxLen; omega)
    (Nat.le_trans (Nat.mul_le_mul hlen hby2) (by decide)) hbase w.heap.size rfl ?_
  · intro j y hj
    have e0 : (⟨g0, 0, none⟩ : Addr).add j = ⟨g0, j, none⟩ := by unfold Addr.add; split <;> simp_all
    rw [e0, blk_cell hcells j]; simpa using hj
  · intro g cap w1 hown' hgrow hat _
    refine h g cap w1 hown' ((Kept.refl _ w).grown hgrow (fun k hk => .inl hk)) ?_
    rcases hat with q | q
    · exact .inl q
    · exact .inr (by omega)
end Go.Proofs.Ythhfcambdmdgfaa
