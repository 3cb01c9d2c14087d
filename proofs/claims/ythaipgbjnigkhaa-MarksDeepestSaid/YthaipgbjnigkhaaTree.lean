import Derived.Test.YthaipgbjnigkhaaSeqL
import Derived.Test.YthaipgbjnigkhaaSeqIn
import Derived.Test.YthaipgbjnigkhaaRw
namespace Go.Proofs.Ythaipgbjnigkhaa
open Go.RowKit
set_option linter.unusedVariables false
/-! ### A region that draws its order: several may come up at once; one operation L comes last and undoes what the others read -/
inductive Tr where
  | done
  | take (i : Nat) (t : Tr)
  | one (i : Nat) (t : Tr)
  | two (i : Nat) (t : Tr) (j : Nat) (u : Tr)
  | tri (i : Nat) (t : Tr) (j : Nat) (u : Tr) (k : Nat) (v : Tr)
section
variable {P : Program} {ops : Array Oper} {Q : Exit → Act → World → Prop} {S : World → Prop} {md : Region.Mode} {L : Nat}
def linT (md : Region.Mode) (ops : Array Oper) (L : Nat) : Nat → Array Bool → Tr → Bool
  | 0, listed, .done => Region.ready md ops listed == []
  | f + 1, listed, .take i t => Region.noSelect ops && Region.free md ops listed i && (Region.ready md ops listed).contains i && reachL md ops ops.size L i && !(listed.getD L true) && linT md ops L f (listed.setIfInBounds i true) t
  | f + 1, listed, .one i t => (Region.ready md ops listed == [i]) && linT md ops L f (listed.setIfInBounds i true) t
  | f + 1, listed, .two i t j u => (Region.ready md ops listed == [i, j]) && linT md ops L f (listed.setIfInBounds i true) t && linT md ops L f (listed.setIfInBounds j true) u
  | f + 1, listed, .tri i t j u k v => (Region.ready md ops listed == [i, j, k]) && linT md ops L f (listed.setIfInBounds i true) t && linT md ops L f (listed.setIfInBounds j true) u && linT md ops L f (listed.setIfInBounds k true) v
  | _, _, _ => false
def treeL (P : Program) (ops : Array Oper) (Q : Exit → Act → World → Prop) (S : World → Prop) (L : Nat) : Tr → Act → World → Prop
  | .done, a, w => Q .normal a w
  | .take i t, a, w => ∃ oi v, ops[i]? = some oi ∧ YieldsIf P ops S oi v a ∧ treeL P ops Q S L t (a.put oi.dst v) w
  | .one i t, a, w => wpOp P ops Q i (fun a' w' => (i = L ∨ S w') ∧ treeL P ops Q S L t a' w') a w
  | .two i t j u, a, w => wpOp P ops Q i (fun a' w' => (i = L ∨ S w') ∧ treeL P ops Q S L t a' w') a w ∧ wpOp P ops Q j (fun a' w' => (j = L ∨ S w') ∧ treeL P ops Q S L u a' w') a w
  | .tri i t j u k v, a, w => wpOp P ops Q i (fun a' w' => (i = L ∨ S w') ∧ treeL P ops Q S L t a' w') a w ∧ wpOp P ops Q j (fun a' w' => (j = L ∨ S w') ∧ treeL P ops Q S L u a' w') a w ∧ wpOp P ops Q k (fun a' w' => (k = L ∨ S w') ∧ treeL P ops Q S L v a' w') a w
theorem listed_L {listed : Array Bool} {j : Nat} {p : Prop} {S : Prop} (h : j = L ∨ S) : (listed.setIfInBounds j true).getD L true = false → S := fun hq => by
  rcases h with rfl | q
  · exfalso
    rcases Nat.lt_or_ge j listed.size with h9 | h9
    · simp [Array.getD, h9] at hq
    · simp [Array.getD, Nat.not_lt.2 h9] at hq
  · exact q
theorem treeL_any (hQ : ∀ c (a : Act) t w, Q (.panic c) { a with tmps := t } w → Q (.panic c) a w) : ∀ (f : Nat) (T : Tr) (listed : Array Bool) (a : Act) (w : World),
    linT md ops L f listed T = true → closedL md ops listed → (listed.getD L true = false → S w) → treeL P ops Q S L T a w → wpAnyL P md ops Q S L f listed a w
  | 0, .done, listed, a, w, hl, _, _, h => ⟨by simpa [linT] using hl, h⟩
  | f + 1, .done, listed, a, w, hl, _, _, h => by simp [linT] at hl
  | 0, .take _ _, _, _, _, hl, _, _, _ => by simp [linT] at hl
  | 0, .one _ _, _, _, _, hl, _, _, _ => by simp [linT] at hl
  | 0, .two _ _ _ _, _, _, _, hl, _, _, _ => by simp [linT] at hl
  | 0, .tri _ _ _ _ _ _, _, _, _, hl, _, _, _ => by simp [linT] at hl
  | f + 1, .take i t, listed, a, w, hl, hcl, hS, h => by
    simp only [linT, Bool.and_eq_true, Bool.not_eq_true'] at hl
    obtain ⟨oi, v, hi, hy, h⟩ := h
    obtain ⟨⟨⟨⟨⟨h1, h2⟩, h3⟩, h4⟩, h5⟩, h6⟩ := hl
    exact wpAnyL_first hi (Region.noSelect_spec h1) (put_panic hQ oi.dst v) h4 _ _ _ _ (Region.free_spec hi h2) (by simpa using h3) hy (hS h5) h5 hcl (treeL_any hQ f t _ _ _ h6 (closed_set hcl (by simpa using h3)) (fun _ => hS h5) h)
  | f + 1, .one i t, listed, a, w, hl, hcl, hS, h => by
    simp only [linT, Bool.and_eq_true, beq_iff_eq] at hl
    refine ⟨fun h0 => (by rw [hl.1] at h0; cases h0), fun j hj => ?_⟩
    have hjr : j ∈ Region.ready md ops listed := hj
    rw [hl.1] at hj
    obtain rfl : j = i := by simpa using hj
    have h' : wpOp P ops Q j (fun a' w' => (j = L ∨ S w') ∧ treeL P ops Q S L t a' w') a w := h
    refine wpOp_mono (K := fun a' w' => (j = L ∨ S w') ∧ treeL P ops Q S L t a' w') ?_ h'
    intro a' w' ⟨hS', h''⟩
    have hs := listed_L (listed := listed) (p := True) hS'
    exact ⟨hs, treeL_any hQ f t _ _ _ hl.2 (closed_set hcl hjr) hs h''⟩
  | f + 1, .two i t k u, listed, a, w, hl, hcl, hS, h => by
    simp only [linT, Bool.and_eq_true, beq_iff_eq] at hl
    refine ⟨fun h0 => (by rw [hl.1.1] at h0; cases h0), fun j hj => ?_⟩
    have hjr : j ∈ Region.ready md ops listed := hj
    rw [hl.1.1] at hj
    rcases List.mem_cons.1 hj with rfl | hj
    · refine wpOp_mono (K := fun a' w' => (j = L ∨ S w') ∧ treeL P ops Q S L t a' w') ?_ h.1
      intro a' w' ⟨hS', h''⟩
      have hs := listed_L (listed := listed) (p := True) hS'
      exact ⟨hs, treeL_any hQ f t _ _ _ hl.1.2 (closed_set hcl hjr) hs h''⟩
    · obtain rfl : j = k := by simpa using hj
      refine wpOp_mono (K := fun a' w' => (j = L ∨ S w') ∧ treeL P ops Q S L u a' w') ?_ h.2
      intro a' w' ⟨hS', h''⟩
      have hs := listed_L (listed := listed) (p := True) hS'
      exact ⟨hs, treeL_any hQ f u _ _ _ hl.2 (closed_set hcl hjr) hs h''⟩
  | f + 1, .tri i t k u m v, listed, a, w, hl, hcl, hS, h => by
    simp only [linT, Bool.and_eq_true, beq_iff_eq] at hl
    refine ⟨fun h0 => (by rw [hl.1.1.1] at h0; cases h0), fun j hj => ?_⟩
    have hjr : j ∈ Region.ready md ops listed := hj
    rw [hl.1.1.1] at hj
    rcases List.mem_cons.1 hj with rfl | hj
    · refine wpOp_mono (K := fun a' w' => (j = L ∨ S w') ∧ treeL P ops Q S L t a' w') ?_ h.1
      intro a' w' ⟨hS', h''⟩
      have hs := listed_L (listed := listed) (p := True) hS'
      exact ⟨hs, treeL_any hQ f t _ _ _ hl.1.1.2 (closed_set hcl hjr) hs h''⟩
    rcases List.mem_cons.1 hj with rfl | hj
    · refine wpOp_mono (K := fun a' w' => (j = L ∨ S w') ∧ treeL P ops Q S L u a' w') ?_ h.2.1
      intro a' w' ⟨hS', h''⟩
      have hs := listed_L (listed := listed) (p := True) hS'
      exact ⟨hs, treeL_any hQ f u _ _ _ hl.1.2 (closed_set hcl hjr) hs h''⟩
    · obtain rfl : j = m := by simpa using hj
      refine wpOp_mono (K := fun a' w' => (j = L ∨ S w') ∧ treeL P ops Q S L v a' w') ?_ h.2.2
      intro a' w' ⟨hS', h''⟩
      have hs := listed_L (listed := listed) (p := True) hS'
      exact ⟨hs, treeL_any hQ f v _ _ _ hl.2 (closed_set hcl hjr) hs h''⟩
theorem region_tree0 {id : Nat} {a : Act} {w : World} (S : World → Prop) (L : Nat) (T : Tr) (hm : P.follows .mixedOrders = true) (hl : linT .any ops L ops.size (Array.replicate ops.size false) T = true)
    (hQ : ∀ c (a : Act) t w, Q (.panic c) { a with tmps := t } w → Q (.panic c) a w) (hS : S w.drew) (h : treeL P ops Q S L T a w.drew) : (Code.region id ops true).wp P Q a w := by
  refine wp_region_any hm ?_
  exact wpAny_of_L _ _ _ _ (treeL_any hQ _ T _ _ _ hl (fun j o _ hj => by
    exfalso
    have e : (Array.replicate ops.size false).getD j false = false := by
      rw [Array.getD_eq_getD_getElem?, Array.getElem?_replicate]; split <;> rfl
    rw [e] at hj; cases hj) (fun _ => hS) h)
theorem region_tree {id : Nat} {a : Act} {w : World} (S : World → Prop) (L : Nat) (T : Tr) (hm : P.follows .mixedOrders = true) (hl : linT .any ops L ops.size (Array.replicate ops.size false) T = true)
    (hS : S w.drew) (h : treeL P ops (onlyN Q) S L T a w.drew) : (Code.region id ops true).wp P Q a w :=
  Code.wp_mono (fun _ _ _ h => h.2) (region_tree0 (Q := onlyN Q) S L T hm hl onlyN_panic hS h)
theorem region_treeIn {l n : Nat} {id : Nat} {a : Act} {w : World} (S : World → Prop) (L : Nat) (T : Tr) (hm : (P.follows .mixedOrders && noDefer ops) = true) (hl : linT .any ops L ops.size (Array.replicate ops.size false) T = true)
    (hS : S w.drew) (h : treeL P ops (onlyN Q) S L T a w.drew) : (Code.region id ops true).wpIn (Fence.wide.inRound l) n P Q a w := by
  simp only [Bool.and_eq_true] at hm
  refine Code.wpIn_mono (fun _ _ _ h => h.2) (wpIn_region_any (Q := onlyN Q) hm.1 (anyIn_of hm.2 onlyN_lets _ _ _ _ ?_))
  exact wpAny_of_L _ _ _ _ (treeL_any onlyN_panic _ T _ _ _ hl (fun j o _ hj => by
    exfalso
    have e : (Array.replicate ops.size false).getD j false = false := by
      rw [Array.getD_eq_getD_getElem?, Array.getElem?_replicate]; split <;> rfl
    rw [e] at hj; cases hj) (fun _ => hS) h)
theorem tl_done {a : Act} {w : World} (h : Q .normal a w) : treeL P ops (onlyN Q) S L .done a w := ⟨rfl, h⟩
theorem tl_take {t : Tr} {i : Nat} {a a' : Act} {w : World} {oi : Oper} {v : Value} (N : Option Tmp) (hi : ops[i]? = some oi) (hN : oi.dst = N) (hw : Region.wanted oi (yielded ops a.tmps) = true)
    (hv : ∀ w', S w' → (execOp a.eval oi).run P w' = .ok (.value v) w') (ha : a.put N v = a') (h : treeL P ops Q S L t a' w) : treeL P ops Q S L (.take i t) a w :=
  ⟨oi, v, hi, .inl ⟨hw, hv⟩, by rw [hN, ha]; exact h⟩
theorem tl_skip {t : Tr} {i : Nat} {a a' : Act} {w : World} {oi : Oper} (N : Option Tmp) (hi : ops[i]? = some oi) (hN : oi.dst = N) (hw : Region.wanted oi (yielded ops a.tmps) = false) (ha : a.put N undef = a') (h : treeL P ops Q S L t a' w) : treeL P ops Q S L (.take i t) a w :=
  ⟨oi, undef, hi, .inr ⟨hw, rfl⟩, by rw [hN, ha]; exact h⟩
/-- One step that may come up: what it leaves, S, and how it goes on. -/
def stepL (P : Program) (ops : Array Oper) (Q : Exit → Act → World → Prop) (S : World → Prop) (L i : Nat) (t : Tr) (a : Act) (w : World) : Prop :=
  wpOp P ops Q i (fun a' w' => (i = L ∨ S w') ∧ treeL P ops Q S L t a' w') a w
theorem tl_one {t : Tr} {i : Nat} {a : Act} {w : World} (h : stepL P ops Q S L i t a w) : treeL P ops Q S L (.one i t) a w := h
theorem tl_two {t u : Tr} {i j : Nat} {a : Act} {w : World} (h : stepL P ops Q S L i t a w) (k : stepL P ops Q S L j u a w) : treeL P ops Q S L (.two i t j u) a w := ⟨h, k⟩
theorem tl_tri {t u v : Tr} {i j m : Nat} {a : Act} {w : World} (h : stepL P ops Q S L i t a w) (k : stepL P ops Q S L j u a w) (l : stepL P ops Q S L m v a w) : treeL P ops Q S L (.tri i t j u m v) a w := ⟨h, k, l⟩
/-- An operation that lays a block of its own. -/
theorem st_new {t : Tr} {i : Nat} {a : Act} {w : World} {oi : Oper} (N : Option Tmp) (hi : ops[i]? = some oi) (hN : oi.dst = N) (hw : Region.wanted oi (yielded ops a.tmps) = true)
    (h : ∃ v o, (execOp a.eval oi).run P w = .ok (.value v) (w.alloc o) ∧ ∃ a', a.put N v = a' ∧ ∀ u, u.heap[w.heap.size]? = some o → Below w.heap.size w u → w.heap.size < u.heap.size → S u ∧ treeL P ops Q S L t a' u) : stepL P ops Q S L i t a w := by
  obtain ⟨v, o, hrun, a', ha, h⟩ := h
  obtain ⟨hS, h⟩ := h (w.alloc o) (blk_new w o) ((Below.refl _ _).alloc (Nat.le_refl _) _) (by simp)
  show wpOp P ops Q i _ a w
  unfold wpOp
  rw [hi]
  simp only [hw, if_true]
  refine .inl ?_
  unfold Oper.wp
  rw [hrun, Oper.upon_value, hN, ha]
  exact ⟨.inr hS, h⟩
/-- An operation by a law of its own. -/
theorem st_law {t : Tr} {i : Nat} {a : Act} {w : World} {oi : Oper} (hi : ops[i]? = some oi) (hw : Region.wanted oi (yielded ops a.tmps) = true)
    (h : oi.wp P a w (fun a' w' => (i = L ∨ S w') ∧ treeL P ops Q S L t a' w') Q) : stepL P ops Q S L i t a w := by
  show wpOp P ops Q i _ a w
  unfold wpOp
  rw [hi]
  simp only [hw, if_true]
  exact .inl h
theorem st_res {t : Tr} {i : Nat} {a : Act} {w : World} {oi : Oper} (N : Option Tmp) (hi : ops[i]? = some oi) (hN : oi.dst = N) (hw : Region.wanted oi (yielded ops a.tmps) = true) {R : Value → World → Prop}
    (hl : ∀ K : Act → World → Prop, (∀ v w1, R v w1 → K (a.put oi.dst v) w1) → oi.wp P a w K Q) (h : ∀ v w1, R v w1 → S w1 ∧ treeL P ops Q S L t (a.put N v) w1) : stepL P ops Q S L i t a w :=
  st_law hi hw (hl _ fun v w1 hR => by rw [hN]; exact ⟨.inr (h v w1 hR).1, (h v w1 hR).2⟩)
/-- A store that comes last. -/
theorem st_last {t : Tr} {a : Act} {w : World} {oi : Oper} (N : Option Tmp) (hi : ops[L]? = some oi) (hN : oi.dst = N) (hw : Region.wanted oi (yielded ops a.tmps) = true)
    (h : ∃ w1, (execOp a.eval oi).run P w = .ok .skip w1 ∧ ∃ a', a.put N undef = a' ∧ treeL P ops Q S L t a' w1) : stepL P ops Q S L L t a w := by
  obtain ⟨w1, hrun, a', ha, h⟩ := h
  show wpOp P ops Q L _ a w
  unfold wpOp
  rw [hi]
  simp only [hw, if_true]
  refine .inl ?_
  unfold Oper.wp
  rw [hrun, Oper.upon_skip, hN, ha]
  exact ⟨by simp, h⟩
end
/-- An append of a whole row (nil, too). -/
theorem run_append_none {P : Program} (w : World) (base : Nat) (t ty e : TypeId) (i : TypeInfo) (sz : Nat) (ht : P.underlying t = some (.slice e)) (hi : P.info? e = some i)
    (v : Value) (n : Nat) (xs : List Value) (hown : w.ownsRow base e sz v n xs) : (Builtin.append_ #[t, t] ty #[v, .slice none 0 0]).run P w = .ok v w := by
  rcases hown.2 with ⟨rfl, rfl⟩ | ⟨g, cap, cur, rfl, _, _, hnc, _⟩
  · simp [Builtin.append_, run_underlying ht, sizeOf, typeInfo, hi, Builtin.lenOf, Builtin.firstCells]
  · simp [Builtin.append_, run_underlying ht, sizeOf, typeInfo, hi, Builtin.lenOf, Builtin.firstCells, hnc, storeCells]
theorem app_row_at {P : Program} {o : Oper} {a : Act} {K : Act → World → Prop} {Q : Exit → Act → World → Prop} {w : World} (s x : Operand) (t : TypeId)
    (ho : o.op = .call { callee := .builtin .append, args := #[s, x], argTypes := #[t, t] })
    (base : Nat) (e : TypeId) (i : TypeInfo) (z : Value) (sz bytes : Nat) (ht : P.underlying t = some (.slice e)) (hi : P.info? e = some i) (hz : i.zero = some z)
    (hsize : i.size = sz) (hby : i.bytes = bytes) (hzs : z.cells.size = sz) (hsz : 0 < sz)
    (v : Value) (n : Nat) (xs : List Value) (hs : a.eval s = v) (hown : w.ownsRow base e sz v n xs) (v2 : Value) (base2 m : Nat) (ys : List Value) (hx : a.eval x = v2) (hrow : w.ownsRow base2 e sz v2 m ys) (hu : ∀ u ∈ ys, u.oneCell' = true)
    (hbase : base ≤ w.heap.size) (hlen : n + m ≤ 100000000) (hby2 : bytes ≤ 1000000)
    (h : ∀ v' w1, w1.ownsRow base e sz v' (n + m) (xs ++ ys) → Kept (fun k => v.ownBlock = some k) w w1 → (v'.ownBlock = v.ownBlock ∨ v'.ownBlock = some w.heap.size) → K (a.put o.dst v') w1) : o.wp P a w K Q := by
  have key : ∃ v' w1, (Builtin.append_ #[t, t] o.type #[v, v2]).run P w = .ok v' w1 ∧ w1.ownsRow base e sz v' (n + m) (xs ++ ys) ∧ w.grownBy w1 v.ownBlock ∧ (v'.ownBlock = v.ownBlock ∨ v'.ownBlock = some w.heap.size) := by
    rcases hrow.2 with ⟨rfl, rfl⟩ | ⟨g, cap, cur, rfl, _, _, _⟩
    · have hn : ys = [] := List.eq_nil_of_length_eq_zero (by simpa using hrow.1)
      subst hn
      exact ⟨v, w, run_append_none w base t o.type e i sz ht hi v n xs hown, by simpa using hown, World.grownBy.refl w _, .inl rfl⟩
    · obtain ⟨v', w', hr, h2, h3, _, h5⟩ := run_append_own_at (P := P) w base t o.type e i z sz bytes ht hi hz hsize hby hzs hsz v n xs hown ⟨g, 0, none⟩ m cap ys hrow.1 (World.ownsRow.cells hrow (g := g) rfl) hu (by unfold maxLen; omega) (Nat.le_trans (Nat.mul_le_mul hlen hby2) (by decide)) hbase
      exact ⟨v', w', hr, h2, h3, h5⟩
  obtain ⟨v', w1, hr, h2, h3, h4⟩ := key
  unfold Oper.wp execOp
  simp only [ho, resolve, invoke, builtin, Sem.run_bind, Sem.run_pure, Result.andThen_ok, List.map_toArray, List.map_cons, List.map_nil, hs, hx, hr]
  exact h v' w1 h2 ((Kept.refl _ w).grown h3 (fun k hk => .inl hk)) h4
theorem app_row {P : Program} {ops : Array Oper} {rest : List Oper} {o : Oper} {a : Act} {Q : Exit → Act → World → Prop} {w : World} (hgd : o.guard = none) (s x : Operand) (t : TypeId)
    (ho : o.op = .call { callee := .builtin .append, args := #[s, x], argTypes := #[t, t] })
    (base : Nat) (e : TypeId) (i : TypeInfo) (z : Value) (sz bytes : Nat) (ht : P.underlying t = some (.slice e)) (hi : P.info? e = some i) (hz : i.zero = some z)
    (hsize : i.size = sz) (hby : i.bytes = bytes) (hzs : z.cells.size = sz) (hsz : 0 < sz)
    (v : Value) (n : Nat) (xs : List Value) (hs : a.eval s = v) (hown : w.ownsRow base e sz v n xs) (v2 : Value) (base2 m : Nat) (ys : List Value) (hx : a.eval x = v2) (hrow : w.ownsRow base2 e sz v2 m ys) (hu : ∀ u ∈ ys, u.oneCell' = true)
    (hbase : base ≤ w.heap.size) (hlen : n + m ≤ 100000000) (hby2 : bytes ≤ 1000000)
    (h : ∀ v' w1, w1.ownsRow base e sz v' (n + m) (xs ++ ys) → Kept (fun k => v.ownBlock = some k) w w1 → (v'.ownBlock = v.ownBlock ∨ v'.ownBlock = some w.heap.size) → wpList P ops Q rest (a.put o.dst v') w1) : wpList P ops Q (o :: rest) a w :=
  wpList_plain hgd fun _ hK => app_row_at s x t ho base e i z sz bytes ht hi hz hsize hby hzs hsz v n xs hs hown v2 base2 m ys hx hrow hu hbase hlen hby2 fun v' w1 h1 h2 h3 => hK _ _ (h v' w1 h1 h2 h3)
theorem app_row_R {P : Program} {o : Oper} {a : Act} {Q : Exit → Act → World → Prop} {w : World} (s x : Operand) (t : TypeId)
    (ho : o.op = .call { callee := .builtin .append, args := #[s, x], argTypes := #[t, t] })
    (base : Nat) (e : TypeId) (i : TypeInfo) (z : Value) (sz bytes : Nat) (ht : P.underlying t = some (.slice e)) (hi : P.info? e = some i) (hz : i.zero = some z)
    (hsize : i.size = sz) (hby : i.bytes = bytes) (hzs : z.cells.size = sz) (hsz : 0 < sz)
    (v : Value) (n : Nat) (xs : List Value) (hs : a.eval s = v) (hown : w.ownsRow base e sz v n xs) (v2 : Value) (base2 m : Nat) (ys : List Value) (hx : a.eval x = v2) (hrow : w.ownsRow base2 e sz v2 m ys) (hu : ∀ u ∈ ys, u.oneCell' = true)
    (hbase : base ≤ w.heap.size) (hlen : n + m ≤ 100000000) (hby2 : bytes ≤ 1000000) :
    ∀ K : Act → World → Prop, (∀ v' w1, (w1.ownsRow base e sz v' (n + m) (xs ++ ys) ∧ Kept (fun k => v.ownBlock = some k) w w1 ∧ (v'.ownBlock = v.ownBlock ∨ v'.ownBlock = some w.heap.size)) → K (a.put o.dst v') w1) → o.wp P a w K Q :=
  fun K h => app_row_at s x t ho base e i z sz bytes ht hi hz hsize hby hzs hsz v n xs hs hown v2 base2 m ys hx hrow hu hbase hlen hby2 fun v' w1 h1 h2 h3 => h v' w1 ⟨h1, h2, h3⟩
theorem app_rw_R {P : Program} {o : Oper} {a : Act} {Q : Exit → Act → World → Prop} {w : World} (s x : Operand) (t : TypeId)
    (ho : o.op = .call { callee := .builtin .append, args := #[s, x], argTypes := #[t, t] })
    (base : Nat) (e : TypeId) (i : TypeInfo) (z : Value) (sz bytes : Nat) (ht : P.underlying t = some (.slice e)) (hi : P.info? e = some i) (hz : i.zero = some z)
    (hsize : i.size = sz) (hby : i.bytes = bytes) (hzs : z.cells.size = sz) (hsz : 0 < sz) {tb : TypeId}
    (v : Value) (n : Nat) (xs us : List Value) (hs : a.eval s = v) (hown : w.ownsRow base e sz v n xs) (g0 c : Nat) (hx : a.eval x = .slice (some ⟨g0, 0, none⟩) 1 c) (hcells : w.heap[g0]? = some (.cells us.toArray tb)) (hul : us.length = sz) (hu : ∀ u ∈ us, u.oneCell' = true)
    (hbase : base ≤ w.heap.size) (hlen : n + 1 ≤ 100000000) (hby2 : bytes ≤ 1000000) :
    ∀ K : Act → World → Prop, (∀ v' w1, (∃ g cap, v' = .slice (some ⟨g, 0, none⟩) (n + 1) cap ∧ w1.ownsRow base e sz (.slice (some ⟨g, 0, none⟩) (n + 1) cap) (n + 1) (xs ++ us) ∧ Kept (fun k => v.ownBlock = some k) w w1 ∧ (v.ownBlock = some g ∨ w.heap.size ≤ g)) → K (a.put o.dst v') w1) → o.wp P a w K Q :=
  fun K h => app_rw_at s x t ho base e i z sz bytes ht hi hz hsize hby hzs hsz v n xs us hs hown g0 c hx hcells hul hu hbase hlen hby2 fun g cap w1 h1 h2 h3 => h _ w1 ⟨g, cap, rfl, h1, h2, h3⟩
theorem heap_ne {w : World} {a b : Nat} {T T2 : TypeId} {v : Value} {cs : Array Value} (ha : w.heap[a]? = some (.cells #[] T)) (hb : w.heap[b]? = some (.cells #[v] T2) ∨ ∃ u r, w.heap[b]? = some (.cells (#[v, u] ++ r) T2)) : a ≠ b := by
  rintro rfl
  rcases hb with h | ⟨u, r, h⟩
  · rw [ha] at h; cases h
  · rw [ha] at h
    injection h with h; injection h with h1 h2
    have := congrArg Array.size h1; simp at this; omega
end Go.Proofs.Ythaipgbjnigkhaa
