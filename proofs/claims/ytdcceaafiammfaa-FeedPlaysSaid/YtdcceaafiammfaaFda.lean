import Derived.Test.YtdcceaafiammfaaProg
import Derived.Test.YtdcceaafiammfaaObj
import Derived.Test.YtdcceaafiammfaaPlan
namespace Go.Proofs.Ytdcceaafiammfaa
open Go.RowKit
set_option linter.unusedVariables false
set_option linter.unusedSimpArgs false
theorem fzb {W w1 : World} (hb : Below W.heap.size W w1) {a : Addr} (ha : a.block < W.heap.size) (h : W.frozen? a = false) : w1.frozen? a = false := fb hb ha h
/-! ### A feed in memory -/
structure Item where
  k : ByteArray
  s : ByteArray
  n : ByteArray
  st : Nat
def itemC (x : Item) : List Value := [.string x.k, .string x.s, .string x.n, .int .i64 x.st]
def itemsC (l : List Item) : List Value := l.flatMap itemC
theorem itemsC_length (l : List Item) : (itemsC l).length = l.length * 4 := by
  induction l with
  | nil => rfl
  | cons a r ih => simp only [itemsC, List.flatMap_cons, List.length_append, List.length_cons] at ih ⊢; rw [ih]; simp [itemC]; omega
theorem itemsC_getD : ∀ (l : List Item) (i j : Nat) (hi : i < l.length) (hj : j < 4), (itemsC l).getD (i * 4 + j) undef = (itemC (l[i]'hi)).getD j undef
  | a :: r, 0, j, _, hj => by
    simp only [itemsC, List.flatMap_cons, List.getElem_cons_zero, Nat.zero_mul, Nat.zero_add, List.getD_eq_getElem?_getD]
    rw [List.getElem?_append_left (by simpa [itemC] using hj)]
  | a :: r, i + 1, j, hi, hj => by
    have h := itemsC_getD r i j (by simpa using hi) hj
    simp only [itemsC, List.flatMap_cons, List.getElem_cons_succ, List.getD_eq_getElem?_getD] at h ⊢
    rw [List.getElem?_append_right (by simp [itemC]; omega), ← h]
    congr 2; simp [itemC]; omega
theorem itemsC_app (l : List Item) (x : Item) : itemsC l ++ itemC x = itemsC (l ++ [x]) := by simp [itemsC]
def setSt (l : List Item) (i st : Nat) : List Item := l.modify i fun x => { x with st := st }
theorem setSt_length (l : List Item) (i st : Nat) : (setSt l i st).length = l.length := by simp [setSt]
theorem itemsC_set : ∀ (l : List Item) (i st : Nat), i < l.length → (itemsC l).set (i * 4 + 3) (.int .i64 st) = itemsC (setSt l i st)
  | a :: r, 0, st, _ => by simp [itemsC, setSt, itemC, List.set_append]
  | a :: r, i + 1, st, hi => by
    have h := itemsC_set r i st (by simpa using hi)
    simp only [itemsC, setSt, List.flatMap_cons, List.modify_succ_cons] at h ⊢
    rw [List.set_append_right _ _ (by simp [itemC]; omega), ← h]
    congr 2; simp [itemC]; omega
structure FeedAt (w : World) (fb : Nat) (v : Value) (l : List Item) (cov : Nat) : Prop where
  box : w.heap[fb]? = some (.cells #[v, .int .i64 cov] 76)
  row : OwnN w 80 4 v l.length (itemsC l)
  apart : ∀ k, v.ownBlock = some k → k ≠ fb
/-- The blocks of a feed. -/
def feedX (fb : Nat) (v : Value) : Nat → Prop := fun k => k = fb ∨ v.ownBlock = some k
theorem FeedAt.kept {X : Nat → Prop} {w w' : World} {fb : Nat} {v : Value} {l : List Item} {cov : Nat} (h : FeedAt w fb v l cov) (hk : Kept X w w') (hx : ∀ k, feedX fb v k → ¬ X k) : FeedAt w' fb v l cov :=
  ⟨hk.heap h.box (hx fb (.inl rfl)), ownN_kept h.row hk (fun k hk => hx k (.inr hk)), h.apart⟩
theorem FeedAt.below {w w' : World} {fb : Nat} {v : Value} {l : List Item} {cov : Nat} (h : FeedAt w fb v l cov) (hb : Below w.heap.size w w') : FeedAt w' fb v l cov :=
  h.kept (kept_of_below (X := fun _ => False) hb) (fun _ _ q => q)
theorem FeedAt.lt {w : World} {fb : Nat} {v : Value} {l : List Item} {cov : Nat} (h : FeedAt w fb v l cov) : ∀ k, feedX fb v k → k < w.heap.size := by
  intro k hk
  rcases hk with rfl | hk
  · exact blk_lt h.box
  · exact (World.ownsRow.lt h.row k hk).2
theorem FeedAt.v0 {w : World} {fb : Nat} {v : Value} {l : List Item} {cov : Nat} (h : FeedAt w fb v l cov) : ∃ ao cap, v = .slice ao l.length cap := by
  rcases h.row.2 with ⟨rfl, h0⟩ | ⟨g, cap, cur, hv, _⟩
  · rw [h0]; exact ⟨_, _, rfl⟩
  · exact ⟨_, _, hv⟩
theorem fnew_calls (w : World) : Calls Try.prog 14 #[] w fun e w' => e = .returned (.pointer (some ⟨w.heap.size, 0, none⟩)) ∧ FeedAt w' w.heap.size (.slice none 0 0) [] 0 ∧ Below w.heap.size w w' := by
  have hB := Below.refl w.heap.size w
  go_enter Try.func14, Try.ntmps14
  go_wp2
  go_ret
  exact ⟨rfl, ⟨blk_new w _, World.ownsRow_nil _ _ _ _, fun k hk => by cases hk⟩, hB.alloc (Nat.le_refl _) _⟩
theorem flen_calls {fb : Nat} {v : Value} {l : List Item} {cov : Nat} (w : World) (h : FeedAt w fb v l cov) : Calls Try.prog 20 #[.pointer (some ⟨fb, 0, none⟩)] w fun e w' => e = .returned (.int .i64 l.length) ∧ Below w.heap.size w w' := by
  have hB := Below.refl w.heap.size w
  obtain ⟨ao, cap, rfl⟩ := h.v0
  have c0 := blk_cell h.box 0
  clear h
  go_enter Try.func20, Try.ntmps20
  go_wp2
  go_ret
  exact ⟨rfl, hB⟩
theorem flen_nil (w : World) : Calls Try.prog 20 #[.pointer none] w fun e w' => e = .returned (.int .i64 0) ∧ Below w.heap.size w w' := by
  have hB := Below.refl w.heap.size w
  go_enter Try.func20, Try.ntmps20
  go_wp2
  go_ret
  exact ⟨rfl, hB⟩
def stB (l : List Item) (cov i : Nat) : Bool := decide ((l.getD i ⟨⟨#[]⟩, ⟨#[]⟩, ⟨#[]⟩, 0⟩).st = 1) || decide (i < cov)
theorem item_cells {w : World} {fb : Nat} {v : Value} {l : List Item} {cov : Nat} (h : FeedAt w fb v l cov) (i : Nat) (hi : i < l.length) :
    ∃ g cap, v = .slice (some ⟨g, 0, none⟩) l.length cap ∧ g ≠ fb ∧ w.cell? ⟨g, i * 4, none⟩ = some (.string (l[i]'hi).k) ∧ w.cell? ⟨g, i * 4 + 1, none⟩ = some (.string (l[i]'hi).s) ∧ w.cell? ⟨g, i * 4 + 2, none⟩ = some (.string (l[i]'hi).n) ∧ w.cell? ⟨g, i * 4 + 3, none⟩ = some (.int .i64 (l[i]'hi).st) ∧ w.frozen? ⟨g, i * 4 + 3, none⟩ = false := by
  obtain ⟨g, cap, rfl, hg, hc, hf⟩ := ownN_cells h.row (by omega)
  refine ⟨g, cap, rfl, h.apart g rfl, ?_, ?_, ?_, ?_, hf _⟩
  · rw [hc (i * 4) (by omega)]; have := itemsC_getD l i 0 hi (by decide); rw [Nat.add_zero] at this; rw [this]; rfl
  · rw [hc (i * 4 + 1) (by omega), itemsC_getD l i 1 hi (by decide)]; rfl
  · rw [hc (i * 4 + 2) (by omega), itemsC_getD l i 2 hi (by decide)]; rfl
  · rw [hc (i * 4 + 3) (by omega), itemsC_getD l i 3 hi (by decide)]; rfl
theorem fsettled_calls {fb : Nat} {v : Value} {l : List Item} {cov : Nat} (w : World) (h : FeedAt w fb v l cov) (i : Nat) (hi : i < l.length) (hl : l.length ≤ 1000000) : Calls Try.prog 62 #[.pointer (some ⟨fb, 0, none⟩), .int .i64 i] w fun e w' => e = .returned (.bool (stB l cov i)) ∧ Below w.heap.size w w' := by
  have hB := Below.refl w.heap.size w
  obtain ⟨g, cap, rfl, hgf, i0, i1, i2, i3, _⟩ := item_cells h i hi
  have c0 := blk_cell h.box 0
  have c1 := blk_cell h.box 1
  have HS := Lib.hid (show stB l cov i = (decide ((l[i]'hi).st = 1) || decide (i < cov)) by unfold stB; rw [List.getD_eq_getElem?_getD, List.getElem?_eq_getElem hi]; rfl)
  obtain ⟨st, hst⟩ : ∃ st, (l[i]'hi).st = st := ⟨_, rfl⟩
  rw [hst] at i3 HS
  clear h hst i0 i1 i2
  have hiI : (i : Int) < l.length := by omega
  by_cases h1 : st = 1
  · subst h1
    go_enter Try.func62, Try.ntmps62
    go_wp2
    go_ret
    exact ⟨ret_bool (by rw [HS.out]; simp), hB⟩
  · have h1b : ((st : Int) == 1) = false := by simp; omega
    go_enter Try.func62, Try.ntmps62
    go_wp2
    go_ret
    exact ⟨ret_bool (by rw [HS.out]; simp [h1]), hB⟩
end Go.Proofs.Ytdcceaafiammfaa
