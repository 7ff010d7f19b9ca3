/-
  DERIVED. GIVEN WITH THE SEED: THE CARDS: each row of YtbgokpobaemibaaDoorRows.lean that lists a variable, with what it lists TIED to the program's text (the seventh form; the later family's looks); each row that meets fmt, with fmt's text TOLD by the authors' own Lean function (tested against real Go, not proved from fmt's source: count such statements apart). THE CARD IS WHAT COUNTS. Prove the row's statement (the work); the ties are given (YtbgokpobaemibaaDoorTie.lean); close each card by the builder's one call (the guide's Derived/Test/ToyasCard.lean, 'card_holds'). Laid BY PROGRAM, IN A SANDBOX (cutbox-door.mjs). By AI agents, Wed Nov 11 2026. No macro, syntax, notation, axiom, sorry.
-/
import Derived.Test.YtbgokpobaemibaaDoorRows
import GoSem.ClaimSeven
namespace Go.Proofs.YtbgokpobaemibaaDoor
namespace Rows

/-- THE TIED CARD OF 'laws.FnNeeded'. -/
def fnNeededCard : Claim7 := { stood := { row := fnNeededRow, standIns := [], harness := (true, "f2d37b0f896787773c4c8cedc5c14365dbfb8cc83f1b41a96c6a43d3fd925938"), looks := true }, kinds := [], alts := [], laidByText := true, laidKinds := [.data, .data, .data, .data, .sentinel, .sentinel, .pinned], laidTests := true, laidLooks := .later }
def FnNeededCardSaid : Prop := Claim7.holds Tryd.pinned (.plain (OpenSpec.ofChange fnNeededSpec)) fnNeededCard

/-- THE TIED CARD OF 'laws.FnExactReadDiagram'. -/
def fnExactReadDiagramCard : Claim7 := { stood := { row := fnExactReadDiagramRow, standIns := [], harness := (true, "f2d37b0f896787773c4c8cedc5c14365dbfb8cc83f1b41a96c6a43d3fd925938"), looks := true }, kinds := [], alts := [], laidByText := true, laidKinds := [.data, .data, .data, .data, .sentinel, .sentinel, .pinned], laidTests := true, laidLooks := .later }
def FnExactReadDiagramCardSaid : Prop := Claim7.holds Tryd.pinned (.plain (OpenSpec.ofChange fnExactReadDiagramSpec)) fnExactReadDiagramCard

/-- THE SECOND FORM's CARD OF 'laws.FnNeeded'. -/
def fnNeededUptoCard : Claim7 := { stood := { row := fnNeededUptoRow, standIns := [], harness := (true, "f2d37b0f896787773c4c8cedc5c14365dbfb8cc83f1b41a96c6a43d3fd925938"), looks := true }, kinds := [], alts := [], laidByText := true, laidKinds := [.data, .data, .data, .data, .sentinel, .sentinel, .pinned], laidTests := true, laidLooks := .later }
def FnNeededUptoCardSaid : Prop := Claim7.holds Tryd.pinned (.plain (OpenSpec.upto fnNeededSpec)) fnNeededUptoCard

/-- THE SECOND FORM's CARD OF 'laws.FnExactReadDiagram'. -/
def fnExactReadDiagramUptoCard : Claim7 := { stood := { row := fnExactReadDiagramUptoRow, standIns := [], harness := (true, "f2d37b0f896787773c4c8cedc5c14365dbfb8cc83f1b41a96c6a43d3fd925938"), looks := true }, kinds := [], alts := [], laidByText := true, laidKinds := [.data, .data, .data, .data, .sentinel, .sentinel, .pinned], laidTests := true, laidLooks := .later }
def FnExactReadDiagramUptoCardSaid : Prop := Claim7.holds Tryd.pinned (.plain (OpenSpec.upto fnExactReadDiagramSpec)) fnExactReadDiagramUptoCard
end Rows
end Go.Proofs.YtbgokpobaemibaaDoor
