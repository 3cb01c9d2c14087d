import Derived.Test.YthhfcambdmdgfaaSli
import Derived.Laws.CopyRow
import Derived.Laws.CopyOwn
import Derived.Laws.OwnMore
import Derived.Laws.MakeOwn
import Derived.Lib.SlBuf
namespace Go.Proofs.Ythhfcambdmdgfaa
open Go.RowKit
set_option linter.unusedVariables false
set_option linter.unusedSimpArgs false
/-! ### make and copy: a slice of the call's own that holds what another one holds -/
theorem addr_add (g off j : Nat) : (⟨g, off, none⟩ : Addr).add j = ⟨g, off + j, none⟩ := by unfold Addr.add; split <;> simp_all
theorem setRow_kept {w : World} {g : Nat} {cur : Array Value} {T : TypeId} (h : w.heap[g]? = some (.cells cur T)) (cs : Array Value) : (w.setRow g cs).heap[g]? = some (.cells cs T) ∧ Kept (fun k => k = g) w (w.setRow g cs) := by
  refine ⟨setRow_heap w g cur cs T _ h, ?_⟩
  exact ⟨rfl, rfl, rfl, by simp [World.setRow], fun k hk hx => setRow_other w g k cs hx⟩
theorem run_copy_all {P : Program} (w : World) (t ty elem : TypeId) (i : TypeInfo) (sz : Nat) (hu : P.underlying t = some (.slice elem)) (hi : P.info? elem = some i) (hsize : i.size = sz) (g n : Nat) (cur : Array Value) (T : TypeId)
    (hg : w.heap[g]? = some (.cells cur T)) (hcur : cur.size = n * sz) (u : Value) (cs : List Value) (hr : SliS w u sz n cs) (h1 : ∀ y ∈ cs, y.oneCell' = true) :
    ∃ w', (Builtin.copy_ #[t, t] ty #[.slice (some ⟨g, 0, none⟩) n n, u]).run P w = .ok (goInt n) w' ∧ w'.heap[g]? = some (.cells cs.toArray T) ∧ Kept (fun k => k = g) w w' := by
  obtain ⟨hl, A, c, rfl, hc, hx⟩ := hr
  cases A with
  | none =>
    have hn : n = 0 := by
      rcases hx with h | ⟨b, off, h, _⟩
      · exact h
      · cases h
    subst hn
    obtain rfl : cs = [] := List.eq_nil_of_length_eq_zero (by simpa using hl)
    refine ⟨w, ?_, ?_, Kept.refl _ _⟩
    · simp [Builtin.copy_, run_underlying hu, Builtin.lenOf, Builtin.firstCells, sizeOf, typeInfo, hi, storeCells]
    · rw [hg]; congr 2; exact Array.eq_empty_of_size_eq_zero (by simpa using hcur)
  | some ad =>
    have hsrc : ∀ j y, cs[j]? = some y → w.cell? (ad.add j) = some y := fun j y hj => by
      rcases hx with h | ⟨b, off, h, hx⟩
      · subst h
        obtain rfl : cs = [] := List.eq_nil_of_length_eq_zero (by simpa using hl)
        simp at hj
      · cases h
        rw [addr_add]; exact hx j y hj
    have hld := run_loadCells_list (P := P) w ad cs hsrc
    have hst := run_storeCells_at P g 0 T cs 0 cur w hg (by omega) h1
    obtain ⟨k1, k2⟩ := setRow_kept hg cs.toArray
    have e : (cur.toList.take (0 + 0) ++ cs ++ cur.toList.drop (0 + 0 + cs.length)).toArray = cs.toArray := by
      rw [List.drop_of_length_le (by simp; omega)]; simp
    refine ⟨w.setRow g cs.toArray, ?_, k1, k2⟩
    rw [e] at hst
    simp [Builtin.copy_, run_underlying hu, Builtin.lenOf, Builtin.firstCells, sizeOf, typeInfo, hi, hsize, hc, ← hl, hld, hst]
end Go.Proofs.Ythhfcambdmdgfaa
