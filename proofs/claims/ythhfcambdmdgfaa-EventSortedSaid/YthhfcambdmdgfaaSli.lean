import Derived.Test.YthhfcambdmdgfaaRw
namespace Go.Proofs.Ythhfcambdmdgfaa
open Go.RowKit
set_option linter.unusedVariables false
set_option linter.unusedSimpArgs false
/-! ### A slice that is read: its cells in line -/
def SliS (w : World) (v : Value) (sz n : Nat) (cs : List Value) : Prop :=
  cs.length = n * sz ∧ ∃ A c, v = .slice A n c ∧ n ≤ c ∧ (n = 0 ∨ ∃ b off, A = some ⟨b, off, none⟩ ∧ ∀ j u, cs[j]? = some u → w.cell? ⟨b, off + j, none⟩ = some u)
section
variable {w w' : World} {v : Value} {sz n : Nat} {cs : List Value}
theorem SliS.form (h : SliS w v sz n cs) : ∃ A c, v = .slice A n c := by obtain ⟨_, A, c, rfl, _⟩ := h; exact ⟨_, _, rfl⟩
theorem SliS.below (h : SliS w v sz n cs) (hb : Below w.heap.size w w') : SliS w' v sz n cs := by
  obtain ⟨hl, A, c, rfl, hc, h0 | ⟨b, off, rfl, hx⟩⟩ := h
  · exact ⟨hl, A, c, rfl, hc, .inl h0⟩
  · exact ⟨hl, _, c, rfl, hc, .inr ⟨b, off, rfl, fun j u hu => cb hb (hx j u hu)⟩⟩
theorem SliS.at' (h : SliS w v sz n cs) {k : Nat} (hk : k < n) : ∃ b off c, v = .slice (some ⟨b, off, none⟩) n c ∧ n ≤ c ∧ ∀ j, j < sz → ∀ u, cs[k * sz + j]? = some u → w.cell? ⟨b, off + k * sz + j, none⟩ = some u := by
  obtain ⟨hl, A, c, rfl, hc, h0 | ⟨b, off, rfl, hx⟩⟩ := h
  · omega
  · exact ⟨b, off, c, rfl, hc, fun j _ u hu => by rw [Nat.add_assoc]; exact hx _ u hu⟩
theorem sliS_nil (w : World) (sz : Nat) : SliS w (.slice none 0 0) sz 0 [] := ⟨by simp, none, 0, rfl, Nat.le_refl _, .inl rfl⟩
theorem sliS_of {b : Nat} {e : TypeId} (h : w.ownsRow b e sz v n cs) : SliS w v sz n cs := by
  refine ⟨h.1, ?_⟩
  rcases h.2 with ⟨rfl, h0⟩ | ⟨g, cap, cur, rfl, _, _, hc, _⟩
  · subst h0; exact ⟨none, 0, rfl, Nat.le_refl _, .inl rfl⟩
  · refine ⟨_, cap, rfl, hc, .inr ⟨g, 0, rfl, fun j u hu => ?_⟩⟩
    have := World.ownsRow.cells h (g := g) rfl j u hu
    have e0 : (⟨g, 0, none⟩ : Addr).add j = ⟨g, j, none⟩ := by unfold Addr.add; split <;> simp_all
    rw [e0] at this
    rw [Nat.zero_add]; exact this
theorem sliS_lit {g : Nat} {t : TypeId} (h : w.heap[g]? = some (.cells cs.toArray t)) (hl : cs.length = n * sz) : SliS w (.slice (some ⟨g, 0, none⟩) n n) sz n cs :=
  ⟨hl, _, n, rfl, Nat.le_refl _, .inr ⟨g, 0, rfl, fun j u hu => by rw [blk_cell h, Nat.zero_add]; simpa using hu⟩⟩
end
theorem name_body {P : Program} {f : Func} {Q : Ending → World → Prop} {x : Exit} {a : Act} {W : World} (h : ∀ U, U = W → bodyPost P f Q x a U) : bodyPost P f Q x a W := h W rfl
/-- All of a slice that is read, appended to a row of the call's own. -/
theorem app_all {P : Program} {o : Oper} {a : Act} {K : Act → World → Prop} {Q : Exit → Act → World → Prop} {w : World} (s x : Operand) (t : TypeId)
    (ho : o.op = .call { callee := .builtin .append, args := #[s, x], argTypes := #[t, t] })
    (base : Nat) (e : TypeId) (i : TypeInfo) (z : Value) (sz bytes : Nat) (ht : P.underlying t = some (.slice e)) (hi : P.info? e = some i) (hz : i.zero = some z)
    (hsize : i.size = sz) (hby : i.bytes = bytes) (hzs : z.cells.size = sz) (hsz : 0 < sz)
    (v : Value) (n : Nat) (xs : List Value) (hs : a.eval s = v) (hown : w.ownsRow base e sz v n xs) (u : Value) (m : Nat) (cs : List Value) (hx : a.eval x = u) (hr : SliS w u sz m cs) (h1 : ∀ y ∈ cs, y.oneCell' = true)
    (hbase : base ≤ w.heap.size) (hlen : n + m ≤ 100000000) (hby2 : bytes ≤ 1000000)
    (h : ∀ v' w1, w1.ownsRow base e sz v' (n + m) (xs ++ cs) → Kept (fun k => v.ownBlock = some k) w w1 → K (a.put o.dst v') w1) : o.wp P a w K Q := by
  have hb : (n + m) * bytes ≤ 140737488355328 := Nat.le_trans (Nat.mul_le_mul hlen hby2) (by decide)
  have h63 : n + m ≤ maxLen := by unfold maxLen; omega
  have key : ∃ v' w1, (Builtin.append_ #[t, t] o.type #[v, u]).run P w = .ok v' w1 ∧ w1.ownsRow base e sz v' (n + m) (xs ++ cs) ∧ Kept (fun k => v.ownBlock = some k) w w1 := by
    obtain ⟨hl, A, c, rfl, hc, hm⟩ := hr
    cases A with
    | none =>
      have hm0 : m = 0 := by
        rcases hm with h0 | ⟨b, off, hA, _⟩
        · exact h0
        · cases hA
      subst hm0
      have hcs : cs = [] := List.eq_nil_of_length_eq_zero (by simpa using hl)
      subst hcs
      refine ⟨v, w, ?_, by simpa using hown, Kept.refl _ _⟩
      rcases hown.2 with ⟨rfl, rfl⟩ | ⟨g, cap, cur, rfl, _, _, hnc, _⟩
      · simp [Builtin.append_, run_underlying ht, sizeOf, typeInfo, hi, Builtin.lenOf, Builtin.firstCells]
      · simp [Builtin.append_, run_underlying ht, sizeOf, typeInfo, hi, Builtin.lenOf, Builtin.firstCells, hnc, storeCells]
    | some ad =>
      have hcells : ∀ j y, cs[j]? = some y → w.cell? (ad.add j) = some y := fun j y hj => by
        rcases hm with h0 | ⟨b, off, hA, hx9⟩
        · subst h0
          have hcs : cs = [] := List.eq_nil_of_length_eq_zero (by simpa using hl)
          subst hcs; simp at hj
        · cases hA
          have e0 : (⟨b, off, none⟩ : Addr).add j = ⟨b, off + j, none⟩ := by unfold Addr.add; split <;> simp_all
          rw [e0]; exact hx9 j y hj
      obtain ⟨v', w1, hrun, h2, h3, _⟩ := run_append_own_at (P := P) w base t o.type e i z sz bytes ht hi hz hsize hby hzs hsz v n xs hown ad m c cs hl hcells h1 h63 hb hbase
      exact ⟨v', w1, hrun, h2, (Kept.refl _ w).grown h3 (fun k hk => .inl hk)⟩
  obtain ⟨v', w1, hrun, h2, h3⟩ := key
  unfold Oper.wp execOp
  simp only [ho, resolve, invoke, builtin, Sem.run_bind, Sem.run_pure, Result.andThen_ok, List.map_toArray, List.map_cons, List.map_nil, hs, hx, hrun]
  exact h v' w1 h2 h3
end Go.Proofs.Ythhfcambdmdgfaa
