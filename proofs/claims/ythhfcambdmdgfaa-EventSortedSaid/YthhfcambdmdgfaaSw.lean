import Derived.Test.YthhfcambdmdgfaaEvg
import Derived.Test.YthhfcambdmdgfaaSeqM
import Derived.Test.YthhfcambdmdgfaaSeqV
namespace Go.Proofs.Ythhfcambdmdgfaa
open Go.RowKit Go.Maps Srt
set_option linter.unusedVariables false
set_option linter.unusedSimpArgs false
/-! ### A row of objects that is sorted -/
theorem name_exit {K : Exit → Act → World → Prop} {x : Exit} {a : Act} {W : World} (h : ∀ U, U = W → K x a U) : K x a W := h W rfl
theorem rowF_at {α : Type} (d : Nat → α) (n : Nat) {i : Nat} (h : i < (rowF d n).length) : (rowF d n)[i]'h = d i := by
  have := rowF_get d n (i := i) (by rw [rowF_len] at h; exact h)
  rw [List.getElem?_eq_getElem h] at this; exact Option.some.inj this
def updF {α : Type} (d : Nat → α) (x : Nat) (p : α) : Nat → α := fun i => if i = x then p else d i
theorem rowF_upd {α : Type} (d : Nat → α) (n x : Nat) (p : α) : rowF (updF d x p) n = (rowF d n).set x p := by
  apply List.ext_getElem?
  intro i
  by_cases hi : i < n
  · rw [rowF_get _ _ hi, List.getElem?_set]
    unfold updF
    by_cases e : x = i
    · subst e; rw [if_pos rfl, if_pos rfl, if_pos (by rw [rowF_len]; exact hi)]
    · rw [if_neg (fun q => e q.symm), if_neg e, rowF_get _ _ hi]
  · rw [List.getElem?_eq_none (by rw [rowF_len]; omega), List.getElem?_eq_none (by rw [List.length_set, rowF_len]; omega)]
theorem swF_upd {α : Type} (d : Nat → α) (x y : Nat) : updF (updF d x (d y)) y (d x) = swF d x y := by
  funext i
  unfold updF swF
  by_cases h1 : i = y
  · subst h1
    rw [if_pos rfl]
    by_cases h2 : i = x
    · subst h2; rw [if_pos rfl]
    · rw [if_neg h2, if_pos rfl]
  · rw [if_neg h1]
    by_cases h2 : i = x
    · rw [if_pos h2, if_pos h2]
    · rw [if_neg h2, if_neg h2, if_neg h1]
/-- Eight cells of one, in a list of cells. -/
def set8 (cs : List Value) (o : Nat) (p : OX) : List Value := (((((((cs.set o (.string p.1.key.kind)).set (o + 1) (.string p.1.key.space)).set (o + 2) (.string p.1.key.name)).set (o + 3) (.int .i64 p.1.ver)).set (o + 4) (.string p.1.cls)).set (o + 5) (.bool p.1.term)).set (o + 6) (.bool p.1.best)).set (o + 7) p.2
theorem set8_obj (p : OX) : ∀ (l : List OX) (x : Nat), x < l.length → set8 (objC l) (x * 8) p = objC (l.set x p)
  | q :: r, 0, _ => rfl
  | q :: r, x + 1, h => by
    have ih := set8_obj p r x (by simpa using h)
    have hl : (objX q).length = 8 := rfl
    have e : ∀ (B : List Value) (j : Nat) (v : Value), (objX q ++ B).set ((x + 1) * 8 + j) v = objX q ++ B.set (x * 8 + j) v := fun B j v => by
      rw [List.set_append_right _ _ (by rw [hl]; omega), hl]; congr 2; omega
    have e0 : ∀ (B : List Value) (v : Value), (objX q ++ B).set ((x + 1) * 8) v = objX q ++ B.set (x * 8) v := fun B v => e B 0 v
    show set8 (objX q ++ objC r) ((x + 1) * 8) p = objX q ++ objC (r.set x p)
    unfold set8 at ih ⊢
    rw [e0, e, e, e, e, e, e, e, ih]
def setC8 (W : World) (g o : Nat) (p : OX) : World := (((((((W.setCell ⟨g, o, none⟩ (.string p.1.key.kind)).setCell ⟨g, o + 1, none⟩ (.string p.1.key.space)).setCell ⟨g, o + 2, none⟩ (.string p.1.key.name)).setCell ⟨g, o + 3, none⟩ (.int .i64 p.1.ver)).setCell ⟨g, o + 4, none⟩ (.string p.1.cls)).setCell ⟨g, o + 5, none⟩ (.bool p.1.term)).setCell ⟨g, o + 6, none⟩ (.bool p.1.best)).setCell ⟨g, o + 7, none⟩ p.2
def OP (p : OX) : Prop := objSmall p.1 ∧ ∃ A k c, p.2 = .slice A k c
def AllP (n : Nat) (d : Nat → OX) : Prop := ∀ i, i < n → OP (d i)
/-- The world while the row is sorted: it holds d; all else is as it was. -/
structure SW (w0 : World) (b g n cap : Nat) (d : Nat → OX) (W : World) : Prop where
  row : W.ownsRow b 27 8 (.slice (some ⟨g, 0, none⟩) n cap) n (objC (rowF d n))
  kept : Kept (fun k => k = g) w0 W
section
variable {w0 W W' : World} {b g n cap : Nat} {d : Nat → OX}
theorem SW.read (h : SW w0 b g n cap d W) (hb : Below W.heap.size W W') : SW w0 b g n cap d W' :=
  ⟨rw_below h.row hb, h.kept.trans (kept_of_below (X := fun _ => False) hb) (fun _ q => q.elim)⟩
theorem SW.at (h : SW w0 b g n cap d W) {i : Nat} (hi : i < n) : ObjAt W g (i * 8) (d i) := by
  have hc := (rw_cells h.row).2.2.1
  have g8 : ∀ j, j < 8 → ∀ u, (objX (d i))[j]? = some u → W.cell? ⟨g, i * 8 + j, none⟩ = some u := fun j hj u hu => by
    have hi' : i < (rowF d n).length := by rw [rowF_len]; exact hi
    have e := objC_get (rowF d n) i hi' j hj
    rw [rowF_at, hu] at e
    have := hc (i * 8 + j) (by omega)
    rw [List.getD_eq_getElem?_getD, e] at this
    exact this
  exact ⟨g8 0 (by omega) _ rfl, g8 1 (by omega) _ rfl, g8 2 (by omega) _ rfl, g8 3 (by omega) _ rfl, g8 4 (by omega) _ rfl, g8 5 (by omega) _ rfl, g8 6 (by omega) _ rfl, g8 7 (by omega) _ rfl⟩
theorem SW.froz (h : SW w0 b g n cap d W) (j : Nat) : W.frozen? ⟨g, j, none⟩ = false := (rw_cells h.row).2.2.2 j
theorem SW.put (h : SW w0 b g n cap d W) {x : Nat} (hx : x < n) (p : OX) : SW w0 b g n cap (updF d x p) (setC8 W g (x * 8) p) := by
  refine ⟨?_, ?_⟩
  · rw [rowF_upd, ← set8_obj p _ _ (by rw [rowF_len]; exact hx)]
    exact rw_set (rw_set (rw_set (rw_set (rw_set (rw_set (rw_set (rw_set h.row _ _) _ _) _ _) _ _) _ _) _ _) _ _) _ _
  · exact Kept.setCell (Kept.setCell (Kept.setCell (Kept.setCell (Kept.setCell (Kept.setCell (Kept.setCell (Kept.setCell h.kept _ _ (.inl rfl)) _ _ (.inl rfl)) _ _ (.inl rfl)) _ _ (.inl rfl)) _ _ (.inl rfl)) _ _ (.inl rfl)) _ _ (.inl rfl)) _ _ (.inl rfl)
theorem SW.swap (h : SW w0 b g n cap d W) {x y : Nat} (hx : x < n) (hy : y < n) : SW w0 b g n cap (swF d x y) (setC8 (setC8 W g (x * 8) (d y)) g (y * 8) (d x)) := by
  rw [← swF_upd]; exact (h.put hx (d y)).put hy (d x)
end
theorem allP_of {n : Nat} {d e : Nat → OX} (h : AllP n d) (f : ∀ i, i < n → ∃ j, j < n ∧ e i = d j) : AllP n e := fun i hi => by
  obtain ⟨j, hj, q⟩ := f i hi; rw [q]; exact h j hj
theorem allP_sw {n : Nat} {d : Nat → OX} (h : AllP n d) {x y : Nat} (hx : x < n) (hy : y < n) : AllP n (swF d x y) := allP_of h fun i hi => by
  unfold swF
  by_cases h1 : i = x
  · rw [if_pos h1]; exact ⟨y, hy, rfl⟩
  · rw [if_neg h1]
    by_cases h2 : i = y
    · rw [if_pos h2]; exact ⟨x, hx, rfl⟩
    · rw [if_neg h2]; exact ⟨i, hi, rfl⟩
theorem allP_swR {N : Nat} {d : Nat → OX} (h : AllP N d) {x y m : Nat} (hx : x + m ≤ N) (hy : y + m ≤ N) : AllP N (swR d x y m) := allP_of h fun i hi => by
  unfold swR
  by_cases h1 : x ≤ i ∧ i < x + m
  · rw [if_pos h1]; exact ⟨_, by omega, rfl⟩
  · rw [if_neg h1]
    by_cases h2 : y ≤ i ∧ i < y + m
    · rw [if_pos h2]; exact ⟨_, by omega, rfl⟩
    · rw [if_neg h2]; exact ⟨i, hi, rfl⟩
theorem allP_rot {N : Nat} {d : Nat → OX} (h : AllP N d) {s m e : Nat} (h1 : s ≤ m) (h2 : m ≤ e) (h3 : e ≤ N) : AllP N (rot d s m e) := allP_of h fun i hi => by
  unfold rot
  by_cases h4 : s ≤ i ∧ i < e
  · rw [if_pos h4]
    by_cases h5 : i < s + (e - m)
    · rw [if_pos h5]; exact ⟨_, by omega, rfl⟩
    · rw [if_neg h5]; exact ⟨_, by omega, rfl⟩
  · rw [if_neg h4]; exact ⟨i, hi, rfl⟩
end Go.Proofs.Ythhfcambdmdgfaa
