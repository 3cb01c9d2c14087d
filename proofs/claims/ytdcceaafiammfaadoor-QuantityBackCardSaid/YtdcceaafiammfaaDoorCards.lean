/-
  DERIVED. GIVEN WITH THE SEED: THE CARDS: each row of YtdcceaafiammfaaDoorRows.lean that lists a variable, with what it lists TIED to the program's text (the seventh form; the later family's looks); each row that meets fmt, with fmt's text TOLD by the authors' own Lean function (tested against real Go, not proved from fmt's source: count such statements apart). THE CARD IS WHAT COUNTS. Prove the row's statement (the work); the ties are given (YtdcceaafiammfaaDoorTie.lean); close each card by the builder's one call (the guide's Derived/Test/ToyasCard.lean, 'card_holds'). Laid BY PROGRAM, IN A SANDBOX (cutbox-door.mjs). By AI agents, Wed Nov 11 2026. No macro, syntax, notation, axiom, sorry.
-/
import Derived.Test.YtdcceaafiammfaaDoorRows
import GoSem.ClaimSeven
namespace Go.Proofs.YtdcceaafiammfaaDoor
namespace Rows

/-- THE TIED CARD OF 'scutagelaw03.QuantityTells'. -/
def quantityTellsCard : Claim7 := { stood := { row := quantityTellsRow, standIns := [], harness := (true, "bbd5182d3ad4de8b9be65f3391b86ffdd708c0a336ab9385e3be1518019757ec"), looks := true }, kinds := [], alts := [], laidByText := true, laidKinds := [.data, .data, .data, .sentinel, .sentinel, .data], laidTests := true, laidLooks := .later }
def QuantityTellsCardSaid : Prop := Claim7.holds Tryd.pinned (.plain (OpenSpec.ofChange quantityTellsSpec)) quantityTellsCard

/-- THE TIED CARD OF 'scutagelaw03.QuantityBack'. -/
def quantityBackCard : Claim7 := { stood := { row := quantityBackRow, standIns := [], harness := (true, "bbd5182d3ad4de8b9be65f3391b86ffdd708c0a336ab9385e3be1518019757ec"), looks := true }, kinds := [], alts := [], laidByText := true, laidKinds := [.data, .data, .data, .sentinel, .sentinel, .data], laidTests := true, laidLooks := .later }
def QuantityBackCardSaid : Prop := Claim7.holds Tryd.pinned (.plain (OpenSpec.ofChange quantityBackSpec)) quantityBackCard

/-- THE TIED CARD OF 'scutagelaw03.QuantityFactor'. -/
def quantityFactorCard : Claim7 := { stood := { row := quantityFactorRow, standIns := [], harness := (true, "bbd5182d3ad4de8b9be65f3391b86ffdd708c0a336ab9385e3be1518019757ec"), looks := true }, kinds := [], alts := [], laidByText := true, laidKinds := [.data, .data, .data, .sentinel, .sentinel, .data], laidTests := true, laidLooks := .later }
def QuantityFactorCardSaid : Prop := Claim7.holds Tryd.pinned (.plain (OpenSpec.ofChange quantityFactorSpec)) quantityFactorCard

/-- THE SECOND FORM's CARD OF 'scutagelaw03.QuantityTells'. -/
def quantityTellsUptoCard : Claim7 := { stood := { row := quantityTellsUptoRow, standIns := [], harness := (true, "bbd5182d3ad4de8b9be65f3391b86ffdd708c0a336ab9385e3be1518019757ec"), looks := true }, kinds := [], alts := [], laidByText := true, laidKinds := [.data, .data, .data, .sentinel, .sentinel, .data], laidTests := true, laidLooks := .later }
def QuantityTellsUptoCardSaid : Prop := Claim7.holds Tryd.pinned (.plain (OpenSpec.upto quantityTellsSpec)) quantityTellsUptoCard

/-- THE SECOND FORM's CARD OF 'scutagelaw03.QuantityBack'. -/
def quantityBackUptoCard : Claim7 := { stood := { row := quantityBackUptoRow, standIns := [], harness := (true, "bbd5182d3ad4de8b9be65f3391b86ffdd708c0a336ab9385e3be1518019757ec"), looks := true }, kinds := [], alts := [], laidByText := true, laidKinds := [.data, .data, .data, .sentinel, .sentinel, .data], laidTests := true, laidLooks := .later }
def QuantityBackUptoCardSaid : Prop := Claim7.holds Tryd.pinned (.plain (OpenSpec.upto quantityBackSpec)) quantityBackUptoCard

/-- THE SECOND FORM's CARD OF 'scutagelaw03.QuantityFactor'. -/
def quantityFactorUptoCard : Claim7 := { stood := { row := quantityFactorUptoRow, standIns := [], harness := (true, "bbd5182d3ad4de8b9be65f3391b86ffdd708c0a336ab9385e3be1518019757ec"), looks := true }, kinds := [], alts := [], laidByText := true, laidKinds := [.data, .data, .data, .sentinel, .sentinel, .data], laidTests := true, laidLooks := .later }
def QuantityFactorUptoCardSaid : Prop := Claim7.holds Tryd.pinned (.plain (OpenSpec.upto quantityFactorSpec)) quantityFactorUptoCard
end Rows
end Go.Proofs.YtdcceaafiammfaaDoor
