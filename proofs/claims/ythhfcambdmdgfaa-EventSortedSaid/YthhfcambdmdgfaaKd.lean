import Derived.Test.YthhfcambdmdgfaaBase
import Derived.ProofKit
import Derived.OpenShut
import Derived.ShutString
import Derived.ChangeOld
import Derived.Deep.Slices
namespace Go.Proofs.Ythhfcambdmdgfaa
open Go.RowKit
/-- How data of a kind lie in cells: all that is read lies in blocks that are ok. -/
structure Kd (α : Type) where
  sz : Nat
  K : World → (Nat → Prop) → α → List Value → Prop
  len : ∀ {w ok x cs}, K w ok x cs → cs.length = sz
  bound : ∀ {w : World} {ok x cs}, K w ok x cs → K w (fun k => ok k ∧ k < w.heap.size) x cs
  move : ∀ {w w1 : World} {ok x cs}, (∀ k, ok k → w1.heap[k]? = w.heap[k]?) → K w ok x cs → K w1 ok x cs
  mono : ∀ {w ok ok' x cs}, (∀ k, ok k → ok' k) → K w ok x cs → K w ok' x cs
def anyB : Nat → Prop := fun _ => True
namespace Kd
variable {α : Type} {d : Kd α} {w w1 : World} {ok ok' : Nat → Prop} {x : α} {cs : List Value}
theorem step (h : d.K w ok x cs) (hm : ∀ k, ok k → k < w.heap.size → w1.heap[k]? = w.heap[k]?) : d.K w1 ok x cs :=
  d.mono (fun _ hk => hk.1) (d.move (fun k hk => hm k hk.1 hk.2) (d.bound h))
theorem below (h : d.K w ok x cs) (hb : Below w.heap.size w w1) : d.K w1 ok x cs := step h (fun k _ hk => hb.block k hk)
theorem any (h : d.K w ok x cs) : d.K w anyB x cs := d.mono (fun _ _ => trivial) h
end Kd
/-- One cell. -/
def kOne {α : Type} (enc : α → Value) : Kd α where
  sz := 1
  K := fun _ _ x cs => cs = [enc x]
  len := fun h => by rw [h]; rfl
  bound := fun h => h
  move := fun _ h => h
  mono := fun _ h => h
def kStr : Kd ByteArray := kOne Value.string
def kBool : Kd Bool := kOne Value.bool
def kInt (k : IntKind) : Kd Int where
  sz := 1
  K := fun _ _ x cs => cs = [.int k x] ∧ (Lit.int k x).wf = true
  len := fun h => by rw [h.1]; rfl
  bound := fun h => h
  move := fun _ h => h
  mono := fun _ h => h
/-- Two in line. -/
def kPair {α β : Type} (a : Kd α) (b : Kd β) : Kd (α × β) where
  sz := a.sz + b.sz
  K := fun w ok x cs => ∃ c0 c1, cs = c0 ++ c1 ∧ a.K w ok x.1 c0 ∧ b.K w ok x.2 c1
  len := by rintro w ok x cs ⟨c0, c1, rfl, h0, h1⟩; rw [List.length_append, a.len h0, b.len h1]
  bound := by rintro w ok x cs ⟨c0, c1, rfl, h0, h1⟩; exact ⟨c0, c1, rfl, a.bound h0, b.bound h1⟩
  move := by rintro w w1 ok x cs hm ⟨c0, c1, rfl, h0, h1⟩; exact ⟨c0, c1, rfl, a.move hm h0, b.move hm h1⟩
  mono := by rintro w ok ok' x cs hm ⟨c0, c1, rfl, h0, h1⟩; exact ⟨c0, c1, rfl, a.mono hm h0, b.mono hm h1⟩
/-- A Lean structure by its fields. -/
def kIso {α β : Type} (d : Kd α) (f : β → α) : Kd β where
  sz := d.sz
  K := fun w ok x cs => d.K w ok (f x) cs
  len := d.len
  bound := d.bound
  move := d.move
  mono := d.mono
/-- The cells from an address on. -/
def cellsAt (w : World) (b off : Nat) (cs : List Value) : Prop := ∀ j v, cs[j]? = some v → w.cell? ⟨b, off + j, none⟩ = some v
theorem cellsAt_move {w w1 : World} {b off : Nat} {cs : List Value} (h : cellsAt w b off cs) (hm : w1.heap[b]? = w.heap[b]?) : cellsAt w1 b off cs := by
  intro j v hj
  rw [← h j v hj]
  exact World.cell?_of_block (w := w) (a := ⟨b, off + j, none⟩) hm
theorem cellsAt_lt {w : World} {b off : Nat} {cs : List Value} (h : cellsAt w b off cs) (hc : 0 < cs.length) : b < w.heap.size := by
  have := h 0 cs[0] (by simp [hc])
  exact World.block_lt_of_cell? w _ this
/-- A row of elements that is read. -/
def Row {α : Type} (d : Kd α) (w : World) (ok : Nat → Prop) (A : Option Addr) (xs : List α) : Prop :=
  xs = [] ∨ ∃ b off, A = some ⟨b, off, none⟩ ∧ ok b ∧ b < w.heap.size ∧ ∀ i (h : i < xs.length), ∃ cs, cellsAt w b (off + i * d.sz) cs ∧ d.K w ok xs[i] cs
theorem Row.bound {α : Type} {d : Kd α} {w : World} {ok : Nat → Prop} {A : Option Addr} {xs : List α} (h : Row d w ok A xs) : Row d w (fun k => ok k ∧ k < w.heap.size) A xs := by
  rcases h with h | ⟨b, off, hA, hb, hlt, h⟩
  · exact Or.inl h
  · exact Or.inr ⟨b, off, hA, ⟨hb, hlt⟩, hlt, fun i hi => let ⟨cs, h1, h2⟩ := h i hi; ⟨cs, h1, d.bound h2⟩⟩
theorem Row.mono {α : Type} {d : Kd α} {w : World} {ok ok' : Nat → Prop} {A : Option Addr} {xs : List α} (hm : ∀ k, ok k → ok' k) (h : Row d w ok A xs) : Row d w ok' A xs := by
  rcases h with h | ⟨b, off, hA, hb, hlt, h⟩
  · exact Or.inl h
  · exact Or.inr ⟨b, off, hA, hm _ hb, hlt, fun i hi => let ⟨cs, h1, h2⟩ := h i hi; ⟨cs, h1, d.mono hm h2⟩⟩
theorem Row.move {α : Type} {d : Kd α} {w w1 : World} {ok : Nat → Prop} {A : Option Addr} {xs : List α} (hm : ∀ k, ok k → w1.heap[k]? = w.heap[k]?) (h : Row d w ok A xs) : Row d w1 ok A xs := by
  rcases h with h | ⟨b, off, hA, hb, hlt, h⟩
  · exact Or.inl h
  · have e := hm _ hb
    have hlt' : b < w1.heap.size := by
      obtain ⟨o, ho⟩ : ∃ o, w.heap[b]? = some o := ⟨_, Array.getElem?_eq_getElem hlt⟩
      rw [ho] at e
      exact (Array.getElem?_eq_some_iff.1 e).1
    exact Or.inr ⟨b, off, hA, hb, hlt', fun i hi => let ⟨cs, h1, h2⟩ := h i hi; ⟨cs, cellsAt_move h1 e, d.move hm h2⟩⟩
theorem Row.step {α : Type} {d : Kd α} {w w1 : World} {ok : Nat → Prop} {A : Option Addr} {xs : List α} (h : Row d w ok A xs) (hm : ∀ k, ok k → k < w.heap.size → w1.heap[k]? = w.heap[k]?) : Row d w1 ok A xs :=
  Row.mono (fun _ hk => hk.1) (Row.move (fun k hk => hm k hk.1 hk.2) (Row.bound h))
theorem Row.below {α : Type} {d : Kd α} {w w1 : World} {ok : Nat → Prop} {A : Option Addr} {xs : List α} (h : Row d w ok A xs) (hb : Below w.heap.size w w1) : Row d w1 ok A xs := h.step (fun k _ hk => hb.block k hk)
def kSlice {α : Type} (d : Kd α) : Kd (List α) where
  sz := 1
  K := fun w ok xs cs => ∃ A c, cs = [.slice A xs.length c] ∧ xs.length ≤ c ∧ Row d w ok A xs
  len := by rintro w ok x cs ⟨A, c, rfl, _⟩; rfl
  bound := by rintro w ok x cs ⟨A, c, rfl, hl, h⟩; exact ⟨A, c, rfl, hl, h.bound⟩
  move := by rintro w w1 ok x cs hm ⟨A, c, rfl, hl, h⟩; exact ⟨A, c, rfl, hl, h.move hm⟩
  mono := by rintro w ok ok' x cs hm ⟨A, c, rfl, hl, h⟩; exact ⟨A, c, rfl, hl, h.mono hm⟩
/-! ### What came in -/
/-- Whatever is read at type t is of the kind. -/
def Opens {α : Type} (P : Program) (t : TypeId) (d : Kd α) : Prop :=
  P.cellsOf t = d.sz ∧ ∀ {H : Type} (enc : TypeId × Value → H) (w : World) (base : Nat) (spare : Nat → Bool) (held : Bool) (fuel : Nat) (cs : List Value) (x : DataW H × List MemPlace),
    DataW.trod enc P w base spare held fuel t cs = some x → ∃ y, d.K w anyB y cs
theorem opens_str {P : Program} {t : TypeId} (ht : P.underlying t = some .string) (hc : P.cellsOf t = 1) : Opens P t kStr :=
  ⟨hc, fun enc w base spare held fuel cs x h => by obtain ⟨s, rfl, _⟩ := DataW.trod_string ht h; exact ⟨s, rfl⟩⟩
theorem opens_int {P : Program} {t : TypeId} {k : IntKind} (ht : P.underlying t = some (.int k)) (hc : P.cellsOf t = 1) : Opens P t (kInt k) :=
  ⟨hc, fun enc w base spare held fuel cs x h => by obtain ⟨s, rfl, _, hw⟩ := DataW.trod_int ht h; exact ⟨s, rfl, hw⟩⟩
theorem opens_bool {P : Program} {t : TypeId} (ht : P.underlying t = some .bool) (hc : P.cellsOf t = 1) : Opens P t kBool :=
  ⟨hc, fun enc w base spare held fuel cs x h => by obtain ⟨s, rfl, _⟩ := DataW.trod_bool ht h; exact ⟨s, rfl⟩⟩
theorem opens_iso {α β : Type} {P : Program} {t : TypeId} {d : Kd α} {f : β → α} (g : α → β) (hfg : ∀ x, f (g x) = x) (h : Opens P t d) : Opens P t (kIso d f) :=
  ⟨h.1, fun enc w base spare held fuel cs x hx => by obtain ⟨y, hy⟩ := h.2 enc w base spare held fuel cs x hx; exact ⟨g y, by show d.K w anyB (f (g y)) cs; rw [hfg]; exact hy⟩⟩
theorem cells?_at {w : World} {base : Nat} {a : Addr} {n : Nat} {cs : List Value} (h : w.cells? base a n = some cs) (hn : 0 < n) : a.spot = none ∧ cs.length = n ∧ cellsAt w a.block a.off cs := by
  unfold World.cells? at h
  split at h
  case isFalse => simp at h
  have hl := mapM_some_length h
  have hg : ∀ i, i < n → w.cell? (a.add i) = cs[i]? := fun i hi => by
    have := mapM_some_get h i i (by simp [hi])
    simpa using this
  have h0 := hg 0 hn
  have hl' : cs.length = n := by simpa using hl
  have hsp : a.spot = none := by
    have : w.cell? a = some (cs[0]'(by omega)) := by simpa [Addr.add, show 0 < cs.length from by omega] using h0
    exact World.cell?_spot this
  refine ⟨hsp, hl', fun j v hj => ?_⟩
  have hj' : j < n := by have := (List.getElem?_eq_some_iff.1 hj).1; omega
  have := hg j hj'
  rw [hj] at this
  rw [← this]
  obtain ⟨b, o, sp⟩ := a
  simp only at hsp
  subst hsp
  by_cases hz : j = 0 <;> simp [Addr.add, hz]
theorem opens_slice {α : Type} {P : Program} {t e : TypeId} {d : Kd α} (ht : P.underlying t = some (.slice e)) (hc : P.cellsOf t = 1) (hs : 0 < d.sz) (h : Opens P e d) : Opens P t (kSlice d) := by
  refine ⟨hc, fun enc w base spare held fuel cs x hx => ?_⟩
  rcases Go.Deep.open_slice ht hx with ⟨rfl, _⟩ | ⟨a, len, cap, m, n, D, Pl, rfl, _, hl, _, hm, _, hel⟩
  · exact ⟨[], none, 0, rfl, by simp, Or.inl rfl⟩
  have hle : len ≤ m := by rw [hm]; split <;> omega
  have hy : ∀ i, i < len → ∃ y : α, ∃ cs, cellsAt w a.block (a.off + i * d.sz) cs ∧ d.K w anyB y cs ∧ a.spot = none := fun i hi => by
    obtain ⟨cs', h1, h2⟩ := hel i (by omega)
    obtain ⟨y, hy⟩ := h.2 enc w base spare held n cs' _ h2
    rw [h.1] at h1
    obtain ⟨g1, _, g3⟩ := cells?_at h1 hs
    have hsp : a.spot = none ∨ a.spot ≠ none := by by_cases a.spot = none <;> simp_all
    by_cases hz : i * d.sz = 0
    · rw [hz] at h1 g1 g3
      simp only [Addr.add, if_true] at g1 g3
      exact ⟨y, cs', by rw [hz]; simpa using g3, hy, g1⟩
    · -- the first element tells that the spot is none
      obtain ⟨cs0, h10, _⟩ := hel 0 (by omega)
      rw [h.1] at h10
      obtain ⟨k1, _, _⟩ := cells?_at h10 hs
      simp only [Nat.zero_mul, Addr.add, if_true] at k1
      simp only [Addr.add, if_neg hz] at g3
      exact ⟨y, cs', g3, hy, k1⟩
  by_cases h0 : len = 0
  · subst h0
    exact ⟨[], some a, cap, rfl, by simp, Or.inl rfl⟩
  obtain ⟨y0, _⟩ := hy 0 (by omega)
  have : Inhabited α := ⟨y0⟩
  obtain ⟨f, hf⟩ := Go.Deep.choose_lt hy
  have hsp : a.spot = none := by obtain ⟨_, _, _, k⟩ := hf 0 (by omega); exact k
  obtain ⟨b, o, sp⟩ := a
  simp only at hsp
  subst hsp
  have hlt : b < w.heap.size := by
    obtain ⟨cs, k1, k2, _⟩ := hf 0 (by omega)
    exact cellsAt_lt k1 (by rw [d.len k2]; exact hs)
  refine ⟨(List.range len).map f, some ⟨b, o, none⟩, cap, by simp, by simpa using hl, Or.inr ⟨b, o, rfl, trivial, hlt, fun i hi => ?_⟩⟩
  obtain ⟨cs, k1, k2, _⟩ := hf i (by simpa using hi)
  exact ⟨cs, k1, by simpa using k2⟩
def OpensF {α : Type} (P : Program) (fs : List Field) (off : Nat) (d : Kd α) : Prop :=
  ∀ {H : Type} (enc : TypeId × Value → H) (w : World) (base : Nat) (spare : Nat → Bool) (held : Bool) (fuel : Nat) (cs : List Value), cs.length = off + d.sz →
    (∀ f ∈ fs, ∃ x, DataW.trod enc P w base spare held fuel f.type ((cs.drop f.offset).take (P.cellsOf f.type)) = some x) → ∃ y, d.K w anyB y (cs.drop off)
theorem opensF_one {α : Type} {P : Program} {f : Field} {off : Nat} {d : Kd α} (ho : f.offset = off) (h : Opens P f.type d) : OpensF P [f] off d := by
  intro H enc w base spare held fuel cs hl hf
  obtain ⟨x, hx⟩ := hf f (by simp)
  obtain ⟨y, hy⟩ := h.2 enc w base spare held fuel _ x hx
  rw [ho, h.1, List.take_of_length_le (by simp; omega)] at hy
  exact ⟨y, hy⟩
theorem opensF_cons {α β : Type} {P : Program} {f : Field} {fs : List Field} {off : Nat} {d : Kd α} {e : Kd β} (ho : f.offset = off) (h : Opens P f.type d) (hs : OpensF P fs (off + d.sz) e) : OpensF P (f :: fs) off (kPair d e) := by
  intro H enc w base spare held fuel cs hl hf
  obtain ⟨x, hx⟩ := hf f (by simp)
  obtain ⟨y, hy⟩ := h.2 enc w base spare held fuel _ x hx
  obtain ⟨z, hz⟩ := hs enc w base spare held fuel cs (by rw [hl]; show off + (d.sz + e.sz) = _; omega) (fun g hg => hf g (by simp [hg]))
  rw [ho, h.1] at hy
  refine ⟨(y, z), (cs.drop off).take d.sz, cs.drop (off + d.sz), ?_, hy, hz⟩
  rw [← List.drop_drop, List.take_append_drop]
theorem opens_struct {α : Type} {P : Program} {t : TypeId} {fs : Array Field} {d : Kd α} (ht : P.underlying t = some (.struct fs)) (hc : P.cellsOf t = d.sz) (h : OpensF P fs.toList 0 d) : Opens P t d := by
  refine ⟨hc, fun enc w base spare held fuel cs x hx => ?_⟩
  obtain ⟨xs, n, rfl, rfl, hl, hn, hi⟩ := DataW.trod_struct ht hx
  have := h enc w base spare held n cs (by omega) (fun f hf => by
    obtain ⟨i, hi', he⟩ := List.getElem_of_mem hf
    have e := hi i f (by rw [← he]; simp at hi' ⊢)
    exact ⟨xs[i]'(by simp at hi'; omega), by rw [e]; simp⟩)
  simpa using this
theorem opens_arr2 {α : Type} {P : Program} {t e : TypeId} {d : Kd α} (ht : P.underlying t = some (.array 2 e)) (hc : P.cellsOf t = d.sz + d.sz) (h : Opens P e d) : Opens P t (kPair d d) := by
  refine ⟨hc, fun enc w base spare held fuel cs x hx => ?_⟩
  obtain ⟨xs, m, rfl, rfl, hl, hn, hi⟩ := DataW.trod_array ht hx
  have h0 := hi 0 (by omega)
  have h1 := hi 1 (by omega)
  rw [List.getElem?_eq_getElem (by omega)] at h0 h1
  obtain ⟨y0, k0⟩ := h.2 enc w base spare held m _ _ h0
  obtain ⟨y1, k1⟩ := h.2 enc w base spare held m _ _ h1
  rw [h.1] at k0 k1
  simp only [Nat.zero_mul, Nat.one_mul, List.drop_zero] at k0 k1
  rw [List.take_of_length_le (l := cs.drop d.sz) (by simp; omega)] at k1
  exact ⟨(y0, y1), _, _, (List.take_append_drop d.sz cs).symm, k0, k1⟩
theorem opens_arr3 {α : Type} {P : Program} {t e : TypeId} {d : Kd α} (ht : P.underlying t = some (.array 3 e)) (hc : P.cellsOf t = d.sz + (d.sz + d.sz)) (h : Opens P e d) : Opens P t (kPair d (kPair d d)) := by
  refine ⟨hc, fun enc w base spare held fuel cs x hx => ?_⟩
  obtain ⟨xs, m, rfl, rfl, hl, hn, hi⟩ := DataW.trod_array ht hx
  have h0 := hi 0 (by omega)
  have h1 := hi 1 (by omega)
  have h2 := hi 2 (by omega)
  rw [List.getElem?_eq_getElem (by omega)] at h0 h1 h2
  obtain ⟨y0, k0⟩ := h.2 enc w base spare held m _ _ h0
  obtain ⟨y1, k1⟩ := h.2 enc w base spare held m _ _ h1
  obtain ⟨y2, k2⟩ := h.2 enc w base spare held m _ _ h2
  rw [h.1] at k0 k1 k2
  simp only [Nat.zero_mul, Nat.one_mul, List.drop_zero] at k0 k1
  rw [List.take_of_length_le (l := cs.drop (2 * d.sz)) (by simp; omega)] at k2
  refine ⟨(y0, y1, y2), _, _, (List.take_append_drop d.sz cs).symm, k0, (cs.drop d.sz).take d.sz, cs.drop (2 * d.sz), ?_, k1, k2⟩
  rw [show 2 * d.sz = d.sz + d.sz from by omega, ← List.drop_drop, List.take_append_drop]
/-- An argument, whatever its type. -/
theorem arg_agg {P : Program} {W : World} {r : Reach} {b : Nat} {t : TypeId} {v : Value} (h : Value.okWide P W r b t v) (ht : (match P.underlying t with | some (.struct _) | some (.array _ _) => true | _ => false) = true) : ∃ cs, v = .agg cs := by
  unfold Value.okWide at h
  split at h
  · obtain ⟨cs, h, _⟩ := h; exact ⟨cs, h⟩
  · obtain ⟨cs, h, _⟩ := h; exact ⟨cs, h⟩
  · rename_i h1 h2; split at ht <;> simp_all
theorem agg_cells {cs : Array Value} {l : List Value} (h : (Value.agg cs).cells.toList = l) : Value.agg cs = .agg l.toArray := by
  have : cs.toList = l := h
  rw [← this]
end Go.Proofs.Ythhfcambdmdgfaa
