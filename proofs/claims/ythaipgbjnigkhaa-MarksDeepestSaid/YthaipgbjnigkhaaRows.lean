/-
  No cell of these rows narrows 'for every input' (looked for: loops, veiled, ifaces, maps, wideKeys, modest, calm, conditions, laid).
  DERIVED. THE GIVEN ROWS OF THIS SEAT. 7 by the template 'for every input the law returns true; each argument reads behind the call as it read before'; 0 by the template 'total and deterministic' (their statements: YthaipgbjnigkhaaTotals.lean).
  GIVEN WITH THE SEED: the statements are not yours to turn. If you find one false, say at which input.
  Laid BY PROGRAM, IN A SANDBOX (cutbox-rows.mjs): the forced cells as the released guide's own fill.sh prints them over the translation 6d2aa91ddbb98932… (all of the seat's roots in one cut). By AI agents, Wed Nov 11 2026. No macro, syntax, notation, axiom, sorry.
-/
import Derived.Test.YthaipgbjnigkhaaChecked
import GoSem.Claim
import GoSem.ClaimJoined
import GoSem.ClaimMapViews
import Derived.JoinedTies
import Derived.KernelRfl
namespace Go.Proofs.Ythaipgbjnigkhaa
/- THE CELL 'sum', in the pinned program and in every row, IS THE sha256 OF THE DUMP (.gsa) THAT YthaipgbjnigkhaaProg.lean LOADS. Nothing in Lean hashes anything: it is a label: what it is worth is what the hold of that sum in a sandbox is worth. -/
noncomputable def Try.pinned : Pinned := { name := "ythaipgbjnigkhaa", sum := "6d2aa91ddbb9893280827ab9a34d7def8658b03e935324c016620b5a4c8ec756", checked := Try.checked }
namespace Rows
def none {H : Type} : Left H := { results := [], args := [] }

/-- 'scutagelaw11.TreePlays': WHATEVER THE INPUT: true; the input reads as it did. -/
def treePlaysSpec : ChangeSpec := { name := "treePlays", fn := fun _ => fun
  | [d] => { results := [.lit (.bool true)], args := [d] }
  | _ => none }
def treePlaysRow : OpenClaim := { program := "ythaipgbjnigkhaa", sum := "6d2aa91ddbb9893280827ab9a34d7def8658b03e935324c016620b5a4c8ec756", func := "scutage/scutagelaw11.TreePlays", spec := "treePlays", unfollowed := true, recurses := true, plainKeys := false, apart := false }
def TreePlaysSaid : Prop := treePlaysRow.holds Try.pinned (OpenSpec.ofChange treePlaysSpec)

/-- ITS FALSE NEIGHBOUR: 'it returns false'. Refute it at one input. -/
def treePlaysWrong : ChangeSpec := { name := "treePlays", fn := fun _ => fun
  | [d] => { results := [.lit (.bool false)], args := [d] }
  | _ => none }
def TreePlaysWrongFalsely : Prop := treePlaysRow.holds Try.pinned (OpenSpec.ofChange treePlaysWrong)

/-- 'scutagelaw11.TreeRoot': WHATEVER THE INPUT: true; the input reads as it did. -/
def treeRootSpec : ChangeSpec := { name := "treeRoot", fn := fun _ => fun
  | [d] => { results := [.lit (.bool true)], args := [d] }
  | _ => none }
def treeRootRow : OpenClaim := { program := "ythaipgbjnigkhaa", sum := "6d2aa91ddbb9893280827ab9a34d7def8658b03e935324c016620b5a4c8ec756", func := "scutage/scutagelaw11.TreeRoot", spec := "treeRoot", unfollowed := true, recurses := true, plainKeys := false, apart := false }
def TreeRootSaid : Prop := treeRootRow.holds Try.pinned (OpenSpec.ofChange treeRootSpec)

/-- ITS FALSE NEIGHBOUR: 'it returns false'. Refute it at one input. -/
def treeRootWrong : ChangeSpec := { name := "treeRoot", fn := fun _ => fun
  | [d] => { results := [.lit (.bool false)], args := [d] }
  | _ => none }
def TreeRootWrongFalsely : Prop := treeRootRow.holds Try.pinned (OpenSpec.ofChange treeRootWrong)

/-- 'scutagelaw11.TreeLost': WHATEVER THE INPUT: true; the input reads as it did. -/
def treeLostSpec : ChangeSpec := { name := "treeLost", fn := fun _ => fun
  | [d1, d2] => { results := [.lit (.bool true)], args := [d1, d2] }
  | _ => none }
def treeLostRow : OpenClaim := { program := "ythaipgbjnigkhaa", sum := "6d2aa91ddbb9893280827ab9a34d7def8658b03e935324c016620b5a4c8ec756", func := "scutage/scutagelaw11.TreeLost", spec := "treeLost", unfollowed := true, recurses := true, plainKeys := false, apart := false }
def TreeLostSaid : Prop := treeLostRow.holds Try.pinned (OpenSpec.ofChange treeLostSpec)

/-- ITS FALSE NEIGHBOUR: 'it returns false'. Refute it at one input. -/
def treeLostWrong : ChangeSpec := { name := "treeLost", fn := fun _ => fun
  | [d1, d2] => { results := [.lit (.bool false)], args := [d1, d2] }
  | _ => none }
def TreeLostWrongFalsely : Prop := treeLostRow.holds Try.pinned (OpenSpec.ofChange treeLostWrong)

/-- 'scutagelaw16.QuotaPlays': WHATEVER THE INPUT: true; the input reads as it did. -/
def quotaPlaysSpec : ChangeSpec := { name := "quotaPlays", fn := fun _ => fun
  | [d1, d2] => { results := [.lit (.bool true)], args := [d1, d2] }
  | _ => none }
def quotaPlaysRow : OpenClaim := { program := "ythaipgbjnigkhaa", sum := "6d2aa91ddbb9893280827ab9a34d7def8658b03e935324c016620b5a4c8ec756", func := "scutage/scutagelaw16.QuotaPlays", spec := "quotaPlays", unfollowed := true, recurses := true, plainKeys := false, apart := false }
def QuotaPlaysSaid : Prop := quotaPlaysRow.holds Try.pinned (OpenSpec.ofChange quotaPlaysSpec)

/-- ITS FALSE NEIGHBOUR: 'it returns false'. Refute it at one input. -/
def quotaPlaysWrong : ChangeSpec := { name := "quotaPlays", fn := fun _ => fun
  | [d1, d2] => { results := [.lit (.bool false)], args := [d1, d2] }
  | _ => none }
def QuotaPlaysWrongFalsely : Prop := quotaPlaysRow.holds Try.pinned (OpenSpec.ofChange quotaPlaysWrong)

/-- 'scutagelaw16.QuotaPut': WHATEVER THE INPUT: true; the input reads as it did. -/
def quotaPutSpec : ChangeSpec := { name := "quotaPut", fn := fun _ => fun
  | [d1, d2] => { results := [.lit (.bool true)], args := [d1, d2] }
  | _ => none }
def quotaPutRow : OpenClaim := { program := "ythaipgbjnigkhaa", sum := "6d2aa91ddbb9893280827ab9a34d7def8658b03e935324c016620b5a4c8ec756", func := "scutage/scutagelaw16.QuotaPut", spec := "quotaPut", unfollowed := true, recurses := true, plainKeys := false, apart := false }
def QuotaPutSaid : Prop := quotaPutRow.holds Try.pinned (OpenSpec.ofChange quotaPutSpec)

/-- ITS FALSE NEIGHBOUR: 'it returns false'. Refute it at one input. -/
def quotaPutWrong : ChangeSpec := { name := "quotaPut", fn := fun _ => fun
  | [d1, d2] => { results := [.lit (.bool false)], args := [d1, d2] }
  | _ => none }
def QuotaPutWrongFalsely : Prop := quotaPutRow.holds Try.pinned (OpenSpec.ofChange quotaPutWrong)

/-- 'scutagelaw12.MarksPlay': WHATEVER THE INPUT: true; the input reads as it did. -/
def marksPlaySpec : ChangeSpec := { name := "marksPlay", fn := fun _ => fun
  | [d1, d2] => { results := [.lit (.bool true)], args := [d1, d2] }
  | _ => none }
def marksPlayRow : OpenClaim := { program := "ythaipgbjnigkhaa", sum := "6d2aa91ddbb9893280827ab9a34d7def8658b03e935324c016620b5a4c8ec756", func := "scutage/scutagelaw12.MarksPlay", spec := "marksPlay", unfollowed := true, recurses := true, plainKeys := false, apart := false }
def MarksPlaySaid : Prop := marksPlayRow.holds Try.pinned (OpenSpec.ofChange marksPlaySpec)

/-- ITS FALSE NEIGHBOUR: 'it returns false'. Refute it at one input. -/
def marksPlayWrong : ChangeSpec := { name := "marksPlay", fn := fun _ => fun
  | [d1, d2] => { results := [.lit (.bool false)], args := [d1, d2] }
  | _ => none }
def MarksPlayWrongFalsely : Prop := marksPlayRow.holds Try.pinned (OpenSpec.ofChange marksPlayWrong)

/-- 'scutagelaw12.MarksDeepest': WHATEVER THE INPUT: true; the input reads as it did. -/
def marksDeepestSpec : ChangeSpec := { name := "marksDeepest", fn := fun _ => fun
  | [d1, d2] => { results := [.lit (.bool true)], args := [d1, d2] }
  | _ => none }
def marksDeepestRow : OpenClaim := { program := "ythaipgbjnigkhaa", sum := "6d2aa91ddbb9893280827ab9a34d7def8658b03e935324c016620b5a4c8ec756", func := "scutage/scutagelaw12.MarksDeepest", spec := "marksDeepest", unfollowed := true, recurses := true, plainKeys := false, apart := false }
def MarksDeepestSaid : Prop := marksDeepestRow.holds Try.pinned (OpenSpec.ofChange marksDeepestSpec)

/-- ITS FALSE NEIGHBOUR: 'it returns false'. Refute it at one input. -/
def marksDeepestWrong : ChangeSpec := { name := "marksDeepest", fn := fun _ => fun
  | [d1, d2] => { results := [.lit (.bool false)], args := [d1, d2] }
  | _ => none }
def MarksDeepestWrongFalsely : Prop := marksDeepestRow.holds Try.pinned (OpenSpec.ofChange marksDeepestWrong)

/- THE SECOND FORM. 'bulk': how many values and letters a reading holds, each counted each time it is reached (what is shared counts as often as it is met; a slice's spare places count too). A statement '..UptoSaid' is the law's where the arguments, and the package variables that the reading takes, are together of bulk at most 1048576: NARROWER than '..Said'. Prove '..Said' where nothing that the law and all that it calls make is longer than what came in: it says more and counts as full. Else prove '..UptoSaid'. A law counts once. -/
mutual
def uptoBulk {H : Type} : DataW H → Nat
  | .lit (.string bytes) => bytes.length + 1
  | .lit _ => 1
  | .nil => 1
  | .ptr d => uptoBulk d + 1
  | .slice elems spare => uptoBulkAll elems + uptoBulkAll spare + 1
  | .agg parts => uptoBulkAll parts + 1
  | .iface _ d => uptoBulk d + 1
  | .map entries => uptoBulkEntries entries + 1
  | .held _ => 1
def uptoBulkAll {H : Type} : List (DataW H) → Nat
  | [] => 0
  | d :: r => uptoBulk d + uptoBulkAll r
def uptoBulkEntries {H : Type} : List (Lit × DataW H) → Nat
  | [] => 0
  | x :: r => uptoBulkEntry x + uptoBulkEntries r
def uptoBulkEntry {H : Type} : Lit × DataW H → Nat
  | (.string bytes, d) => bytes.length + uptoBulk d + 1
  | (_, d) => uptoBulk d + 1
 end
def uptoSmall : (H : Type) → List (DataW H) → Bool := fun _ ds => decide (uptoBulkAll ds ≤ 1048576)
def OpenSpec.upto (s : _root_.Go.ChangeSpec) : _root_.Go.OpenSpec := { _root_.Go.OpenSpec.ofChange s with cond := some uptoSmall }

/-- 'scutagelaw11.TreePlays', WHERE WHAT IT READS IS OF BULK AT MOST 1048576: true; the input reads as it did. -/
def treePlaysUptoRow : OpenClaim := { program := "ythaipgbjnigkhaa", sum := "6d2aa91ddbb9893280827ab9a34d7def8658b03e935324c016620b5a4c8ec756", func := "scutage/scutagelaw11.TreePlays", spec := "treePlays", unfollowed := true, recurses := true, plainKeys := false, apart := false, narrowed := true }
def TreePlaysUptoSaid : Prop := treePlaysUptoRow.holds Try.pinned (OpenSpec.upto treePlaysSpec)

/-- 'scutagelaw11.TreeRoot', WHERE WHAT IT READS IS OF BULK AT MOST 1048576: true; the input reads as it did. -/
def treeRootUptoRow : OpenClaim := { program := "ythaipgbjnigkhaa", sum := "6d2aa91ddbb9893280827ab9a34d7def8658b03e935324c016620b5a4c8ec756", func := "scutage/scutagelaw11.TreeRoot", spec := "treeRoot", unfollowed := true, recurses := true, plainKeys := false, apart := false, narrowed := true }
def TreeRootUptoSaid : Prop := treeRootUptoRow.holds Try.pinned (OpenSpec.upto treeRootSpec)

/-- 'scutagelaw11.TreeLost', WHERE WHAT IT READS IS OF BULK AT MOST 1048576: true; the input reads as it did. -/
def treeLostUptoRow : OpenClaim := { program := "ythaipgbjnigkhaa", sum := "6d2aa91ddbb9893280827ab9a34d7def8658b03e935324c016620b5a4c8ec756", func := "scutage/scutagelaw11.TreeLost", spec := "treeLost", unfollowed := true, recurses := true, plainKeys := false, apart := false, narrowed := true }
def TreeLostUptoSaid : Prop := treeLostUptoRow.holds Try.pinned (OpenSpec.upto treeLostSpec)

/-- 'scutagelaw16.QuotaPlays', WHERE WHAT IT READS IS OF BULK AT MOST 1048576: true; the input reads as it did. -/
def quotaPlaysUptoRow : OpenClaim := { program := "ythaipgbjnigkhaa", sum := "6d2aa91ddbb9893280827ab9a34d7def8658b03e935324c016620b5a4c8ec756", func := "scutage/scutagelaw16.QuotaPlays", spec := "quotaPlays", unfollowed := true, recurses := true, plainKeys := false, apart := false, narrowed := true }
def QuotaPlaysUptoSaid : Prop := quotaPlaysUptoRow.holds Try.pinned (OpenSpec.upto quotaPlaysSpec)

/-- 'scutagelaw16.QuotaPut', WHERE WHAT IT READS IS OF BULK AT MOST 1048576: true; the input reads as it did. -/
def quotaPutUptoRow : OpenClaim := { program := "ythaipgbjnigkhaa", sum := "6d2aa91ddbb9893280827ab9a34d7def8658b03e935324c016620b5a4c8ec756", func := "scutage/scutagelaw16.QuotaPut", spec := "quotaPut", unfollowed := true, recurses := true, plainKeys := false, apart := false, narrowed := true }
def QuotaPutUptoSaid : Prop := quotaPutUptoRow.holds Try.pinned (OpenSpec.upto quotaPutSpec)

/-- 'scutagelaw12.MarksPlay', WHERE WHAT IT READS IS OF BULK AT MOST 1048576: true; the input reads as it did. -/
def marksPlayUptoRow : OpenClaim := { program := "ythaipgbjnigkhaa", sum := "6d2aa91ddbb9893280827ab9a34d7def8658b03e935324c016620b5a4c8ec756", func := "scutage/scutagelaw12.MarksPlay", spec := "marksPlay", unfollowed := true, recurses := true, plainKeys := false, apart := false, narrowed := true }
def MarksPlayUptoSaid : Prop := marksPlayUptoRow.holds Try.pinned (OpenSpec.upto marksPlaySpec)

/-- 'scutagelaw12.MarksDeepest', WHERE WHAT IT READS IS OF BULK AT MOST 1048576: true; the input reads as it did. -/
def marksDeepestUptoRow : OpenClaim := { program := "ythaipgbjnigkhaa", sum := "6d2aa91ddbb9893280827ab9a34d7def8658b03e935324c016620b5a4c8ec756", func := "scutage/scutagelaw12.MarksDeepest", spec := "marksDeepest", unfollowed := true, recurses := true, plainKeys := false, apart := false, narrowed := true }
def MarksDeepestUptoSaid : Prop := marksDeepestUptoRow.holds Try.pinned (OpenSpec.upto marksDeepestSpec)

end Rows
end Go.Proofs.Ythaipgbjnigkhaa
