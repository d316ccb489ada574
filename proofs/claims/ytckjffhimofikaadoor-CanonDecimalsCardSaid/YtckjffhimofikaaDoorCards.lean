/-
  DERIVED. GIVEN WITH THE SEED: THE CARDS: each row of YtckjffhimofikaaDoorRows.lean that lists a variable, with what it lists TIED to the program's text (the seventh form; the later family's looks); each row that meets fmt, with fmt's text TOLD by the authors' own Lean function (tested against real Go, not proved from fmt's source: count such statements apart). THE CARD IS WHAT COUNTS. Prove the row's statement (the work); the ties are given (YtckjffhimofikaaDoorTie.lean); close each card by the builder's one call (the guide's Derived/Test/ToyasCard.lean, 'card_holds'). Laid BY PROGRAM, IN A SANDBOX (cutbox-door.mjs). By AI agents, Wed Nov 11 2026. No macro, syntax, notation, axiom, sorry.
-/
import Derived.Test.YtckjffhimofikaaDoorRows
import GoSem.ClaimSeven
namespace Go.Proofs.YtckjffhimofikaaDoor
namespace Rows

/-- THE TIED CARD OF 'gatehouselaw05.CanonNames'. -/
def canonNamesCard : Claim7 := { stood := { row := canonNamesRow, standIns := [], harness := (true, "d65d3821bf234323d79246a40776e9ec0e1c3c3d2bc4c28a58512cd76e80730d"), looks := false }, kinds := [], alts := [], laidByText := true, laidKinds := [.data, .data, .data, .data, .pinned, .pinned], laidTests := true, laidLooks := .later }
def CanonNamesCardSaid : Prop := Claim7.holds Tryd.pinned (.plain (OpenSpec.ofChange canonNamesSpec)) canonNamesCard

/-- THE TIED CARD OF 'gatehouselaw05.CanonNumber'. -/
def canonNumberCard : Claim7 := { stood := { row := canonNumberRow, standIns := [], harness := (true, "d65d3821bf234323d79246a40776e9ec0e1c3c3d2bc4c28a58512cd76e80730d"), looks := false }, kinds := [], alts := [], laidByText := true, laidKinds := [.data, .data, .data, .data, .pinned, .pinned], laidTests := true, laidLooks := .later }
def CanonNumberCardSaid : Prop := Claim7.holds Tryd.pinned (.plain (OpenSpec.ofChange canonNumberSpec)) canonNumberCard

/-- THE TIED CARD OF 'gatehouselaw05.CanonDecimals'. -/
def canonDecimalsCard : Claim7 := { stood := { row := canonDecimalsRow, standIns := [], harness := (true, "d65d3821bf234323d79246a40776e9ec0e1c3c3d2bc4c28a58512cd76e80730d"), looks := false }, kinds := [], alts := [], laidByText := true, laidKinds := [.data, .data, .data, .data, .pinned, .pinned], laidTests := true, laidLooks := .later }
def CanonDecimalsCardSaid : Prop := Claim7.holds Tryd.pinned (.plain (OpenSpec.ofChange canonDecimalsSpec)) canonDecimalsCard

/-- THE SECOND FORM's CARD OF 'gatehouselaw05.CanonNames'. -/
def canonNamesUptoCard : Claim7 := { stood := { row := canonNamesUptoRow, standIns := [], harness := (true, "d65d3821bf234323d79246a40776e9ec0e1c3c3d2bc4c28a58512cd76e80730d"), looks := false }, kinds := [], alts := [], laidByText := true, laidKinds := [.data, .data, .data, .data, .pinned, .pinned], laidTests := true, laidLooks := .later }
def CanonNamesUptoCardSaid : Prop := Claim7.holds Tryd.pinned (.plain (OpenSpec.upto canonNamesSpec)) canonNamesUptoCard

/-- THE SECOND FORM's CARD OF 'gatehouselaw05.CanonNumber'. -/
def canonNumberUptoCard : Claim7 := { stood := { row := canonNumberUptoRow, standIns := [], harness := (true, "d65d3821bf234323d79246a40776e9ec0e1c3c3d2bc4c28a58512cd76e80730d"), looks := false }, kinds := [], alts := [], laidByText := true, laidKinds := [.data, .data, .data, .data, .pinned, .pinned], laidTests := true, laidLooks := .later }
def CanonNumberUptoCardSaid : Prop := Claim7.holds Tryd.pinned (.plain (OpenSpec.upto canonNumberSpec)) canonNumberUptoCard

/-- THE SECOND FORM's CARD OF 'gatehouselaw05.CanonDecimals'. -/
def canonDecimalsUptoCard : Claim7 := { stood := { row := canonDecimalsUptoRow, standIns := [], harness := (true, "d65d3821bf234323d79246a40776e9ec0e1c3c3d2bc4c28a58512cd76e80730d"), looks := false }, kinds := [], alts := [], laidByText := true, laidKinds := [.data, .data, .data, .data, .pinned, .pinned], laidTests := true, laidLooks := .later }
def CanonDecimalsUptoCardSaid : Prop := Claim7.holds Tryd.pinned (.plain (OpenSpec.upto canonDecimalsSpec)) canonDecimalsUptoCard
end Rows
end Go.Proofs.YtckjffhimofikaaDoor
