import Derived.Maps.Own
import Derived.Maps.OwnSet
import Derived.Maps.OwnOps
import Derived.Maps.Ext
import Derived.Sort.KeysCollected
import Derived.Test.YthhfcambdmdgfaaObj
namespace Go.Proofs.Ythhfcambdmdgfaa
open Go.RowKit Go.Maps
set_option linter.unusedVariables false
set_option linter.unusedSimpArgs false
/-! ### Maps whose elements read as they stand -/
def RV (v : Value) : Option (DataW Value × List MemPlace) := some (.held v, [])
/-- What stands at a key; z: nothing. -/
def valAt (D : DataW Value) (k : Lit) (z : Value) : Value := match D.atKey k (.held z) with | .held v => v | _ => z
section
variable {P : Program} {w : World} {K : TypeId} {b n : Nat} {D : DataW Value}
theorem mv_tight (h : w.ownsMap P K RV b n D) : w.ownsMap P K RV b (Maps.size D) D := by
  obtain ⟨es, clock, hb, F, hs, rfl⟩ := h
  exact ⟨es, clock, hb, F, by simp [Maps.size, length_sorted], rfl⟩
theorem mv_look {t e : TypeId} (h : w.ownsMap P K RV b n D) (Kk : Keyed P K) (ht : P.underlying t = some (.map K e)) {z : Value} (hz : (zeroValue e).run P w = .ok z w) {key : Value} {kl : Lit} (hkey : keyOf P K key = some kl) :
    (Instr.lookup t (.map (some b)) key false).run P w = .ok (valAt D kl z) w := by
  obtain ⟨v, ps, hrun, hv⟩ := h.lookup (zd := .held z) (zp := []) Kk ht hz rfl hkey
  have e : valAt D kl z = v := by
    unfold valAt
    have := congrArg (fun o => o.map Prod.fst) hv
    simp only [RV, Option.map_some, Option.some.injEq] at this
    rw [← this]
  rw [e]; exact hrun
theorem mv_look_ok {t e : TypeId} (h : w.ownsMap P K RV b n D) (Kk : Keyed P K) (ht : P.underlying t = some (.map K e)) {z : Value} (hz : (zeroValue e).run P w = .ok z w) {key : Value} {kl : Lit} (hkey : keyOf P K key = some kl) :
    (Instr.lookup t (.map (some b)) key true).run P w = .ok (.tuple #[valAt D kl z, .bool (Maps.has D kl)]) w := by
  obtain ⟨v, ps, hrun, hv⟩ := h.look_ok (zd := .held z) (zp := []) Kk ht hz rfl hkey
  have e : valAt D kl z = v := by
    unfold valAt
    have := congrArg (fun o => o.map Prod.fst) hv
    simp only [RV, Option.map_some, Option.some.injEq] at this
    rw [← this]
  rw [e]; exact hrun
theorem mv_kept {X : Nat → Prop} {w' : World} (h : w.ownsMap P K RV b n D) (hk : Kept X w w') (hx : ¬ X b) : w'.ownsMap P K RV b n D := by
  obtain ⟨es, clock, hb, r⟩ := h
  exact ⟨es, clock, hk.heap hb hx, r⟩
theorem mv_below {w' : World} (h : w.ownsMap P K RV b n D) (hb : Below w.heap.size w w') : w'.ownsMap P K RV b n D := mv_kept h (kept_of_below (X := fun _ => False) hb) (fun q => q)
theorem mv_other {c : Array Value} {T : TypeId} (h : w.ownsMap P K RV b n D) {k : Nat} (hc : w.heap[k]? = some (.cells c T)) : k ≠ b := by
  rintro rfl
  obtain ⟨es, clock, hb, _⟩ := h
  rw [hb] at hc; cases hc
theorem kept_turned {w' : World} (h : w.mapTurned w' b) : Kept (fun k => k = b) w w' := by
  have hg := h.grown
  exact ⟨hg.os, hg.tape, hg.output, hg.size, fun k hk hx => hg.block k hk (fun e => hx (Option.some.inj e))⟩
end
end Go.Proofs.Ythhfcambdmdgfaa
