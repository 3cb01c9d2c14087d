import Derived.Test.YthaipgbjnigkhaaSeq
import Derived.Test.YthaipgbjnigkhaaSeqL
import Derived.OrdersHeld
import Derived.OrdersIn
import Derived.RangeFuncCalls
namespace Go.Proofs.Ythaipgbjnigkhaa
open Go.RowKit
/-! ### A region that draws its order, inside a round of a range over a function (the wide fence) -/
section
variable {P : Program} {ops : Array Oper} {Q : Exit → Act → World → Prop} {S : World → Prop} {md : Region.Mode} {l n : Nat}
def noDefer (ops : Array Oper) : Bool := ops.toList.all fun o => match o.op with | .defer _ => false | _ => true
theorem noDefer_at (h : noDefer ops = true) {i : Nat} {o : Oper} (ho : ops[i]? = some o) : ∀ c, o.op ≠ .defer c := by
  intro c hc
  have hm : o ∈ ops.toList := by rw [Array.mem_toList_iff]; exact Array.mem_of_getElem? ho
  have := List.all_eq_true.1 h o hm
  rw [hc] at this; cases this
theorem rowsIn_round {row : String} {args : Array Value} {w : World} {R : Value → World → Prop} (h : Rows P row args w R) : RowsIn (Fence.wide.inRound l) n P row args w R := fun c cs _ => by
  obtain ⟨v, w', r, s⟩ := h c cs
  exact ⟨v, w', r, stepsIn_wide.2 s⟩
theorem callsIn_round {f : FuncId} {args : Array Value} {w : World} {R : Ending → World → Prop} (h : Calls P f args w R) : CallsIn (Fence.wide.inRound l) n P f args w R := CallsIn.inRound l (callsIn_wide.2 h)
theorem operIn_of {o : Oper} {a : Act} {w : World} {K : Act → World → Prop} (hd : ∀ c, o.op ≠ .defer c) (h : o.wp P a w K Q) : o.wpIn (Fence.wide.inRound l) n P a w K Q := by
  refine ⟨fun _ _ => trivial, ?_⟩
  rw [Oper.semAt_eq _ _ _ hd]
  unfold Oper.wp at h
  generalize (execOp a.eval o).run P w = r at h
  cases r with
  | ok x w' =>
    cases x
    case enter f args => exact ⟨fun hh => (by cases hh), callsIn_round h⟩
    case row f args => exact ⟨fun hh => (by cases hh), rowsIn_round h⟩
    case round => exact h.elim
    all_goals exact h
  | halt x w' => cases x <;> exact h
theorem opIn_of {i : Nat} {a : Act} {w : World} {K K' : Act → World → Prop} (hd : noDefer ops = true) (hlo : LetsOut Q → False) (hk : ∀ a w, K a w → K' a w) (h : wpOp P ops Q i K a w) : wpOpIn (Fence.wide.inRound l) n P ops Q i K' a w := by
  refine wpOpIn_mono hk ?_
  unfold wpOp at h
  unfold wpOpIn
  split
  · rename_i ho; simp only [ho] at h; exact h
  · rename_i o ho
    simp only [ho] at h
    split
    · rename_i hw
      simp only [hw, if_true] at h
      rcases h with h | h
      · exact operIn_of (noDefer_at hd ho) h
      · exact (hlo h.2).elim
    · rename_i hw
      simp only [hw] at h
      exact ⟨fun _ _ => trivial, h⟩
theorem anyIn_of (hd : noDefer ops = true) (hlo : LetsOut Q → False) : ∀ (fuel : Nat) (listed : Array Bool) (a : Act) (w : World), wpAny P md ops Q fuel listed a w → wpAnyIn (Fence.wide.inRound l) n P md ops Q fuel listed a w
  | 0, _, _, _, h => h
  | fuel + 1, listed, a, w, h => ⟨h.1, fun i hi => opIn_of hd hlo (fun a' w' h' => anyIn_of hd hlo fuel _ a' w' h') (h.2 i hi)⟩
/-- Nothing but the region's end. -/
def onlyN (Q : Exit → Act → World → Prop) : Exit → Act → World → Prop := fun e a w => e = .normal ∧ Q e a w
theorem onlyN_panic (c) (a : Act) (t) (w : World) (h : onlyN Q (.panic c) { a with tmps := t } w) : onlyN Q (.panic c) a w := by cases h.1
theorem onlyN_lets (h : LetsOut (onlyN Q)) : False := by obtain ⟨_, _, h⟩ := h; cases h.1
theorem seqN_done {a : Act} {w : World} (h : Q .normal a w) : seqH P ops (onlyN Q) S [] a w := ⟨rfl, h⟩
theorem region_seqN {id : Nat} {a : Act} {w : World} (S : World → Prop) (fl : List (Nat × Bool)) (hm : P.follows .mixedOrders = true) (hl : (lin .any ops (Array.replicate ops.size false) fl && (fl.length == ops.size)) = true)
    (hS : S w.drew) (h : seqH P ops (onlyN Q) S fl a w.drew) : (Code.region id ops true).wp P Q a w :=
  Code.wp_mono (fun _ _ _ h => h.2) (region_seq (Q := onlyN Q) S fl hm hl onlyN_panic hS h)
theorem region_seqIn {id : Nat} {a : Act} {w : World} (S : World → Prop) (fl : List (Nat × Bool)) (hm : (P.follows .mixedOrders && noDefer ops) = true) (hl : (lin .any ops (Array.replicate ops.size false) fl && (fl.length == ops.size)) = true)
    (hS : S w.drew) (h : seqH P ops (onlyN Q) S fl a w.drew) : (Code.region id ops true).wpIn (Fence.wide.inRound l) n P Q a w := by
  simp only [Bool.and_eq_true, beq_iff_eq] at hl hm
  refine Code.wpIn_mono (fun _ _ _ h => h.2) (wpIn_region_any (Q := onlyN Q) hm.1 (anyIn_of hm.2 onlyN_lets _ _ _ _ (wpAny_of_held (S := S) _ _ _ _ ?_)))
  rw [← hl.2]
  exact seqH_any onlyN_panic fl _ _ _ (by rw [hl.2]; exact hl.1) hS h
theorem region_seqLN {id : Nat} {a : Act} {w : World} (S : World → Prop) (L : Nat) (fl : List (Nat × Bool)) (hm : P.follows .mixedOrders = true) (hl : (linL .any ops L (Array.replicate ops.size false) fl && (fl.length == ops.size)) = true)
    (hS : S w.drew) (h : seqL P ops (onlyN Q) S L fl a w.drew) : (Code.region id ops true).wp P Q a w :=
  Code.wp_mono (fun _ _ _ h => h.2) (region_seqL (Q := onlyN Q) S L fl hm hl onlyN_panic hS h)
theorem slN_done {L : Nat} {a : Act} {w : World} (h : Q .normal a w) : seqL P ops (onlyN Q) S L [] a w := ⟨rfl, h⟩
end
end Go.Proofs.Ythaipgbjnigkhaa
