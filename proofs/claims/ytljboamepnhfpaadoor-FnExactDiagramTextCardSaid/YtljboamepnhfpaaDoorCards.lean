/-
  DERIVED. GIVEN WITH THE SEED: THE CARDS: each row of YtljboamepnhfpaaDoorRows.lean that lists a variable, with what it lists TIED to the program's text (the seventh form; the later family's looks); each row that meets fmt, with fmt's text TOLD by the authors' own Lean function (tested against real Go, not proved from fmt's source: count such statements apart). THE CARD IS WHAT COUNTS. Prove the row's statement (the work); the ties are given (YtljboamepnhfpaaDoorTie.lean); close each card by the builder's one call (the guide's Derived/Test/ToyasCard.lean, 'card_holds'). Laid BY PROGRAM, IN A SANDBOX (cutbox-door.mjs). By AI agents, Wed Nov 11 2026. No macro, syntax, notation, axiom, sorry.
-/
import Derived.Test.YtljboamepnhfpaaDoorRows
import GoSem.ClaimSeven
namespace Go.Proofs.YtljboamepnhfpaaDoor
namespace Rows

/-- THE TIED CARD OF 'laws.FnExactDiagramText'. -/
def fnExactDiagramTextCard : Claim7 := { stood := { row := fnExactDiagramTextRow, standIns := [], harness := (true, "b9d4557958ab74dba172ef895f80701f461c78fba707cfad9631ac5bbf62fb8a"), looks := false }, kinds := [], alts := [], laidByText := true, laidKinds := [.data, .data, .data], laidTests := true, laidLooks := .later }
def FnExactDiagramTextCardSaid : Prop := Claim7.holds Tryd.pinned (.plain (OpenSpec.ofChange fnExactDiagramTextSpec)) fnExactDiagramTextCard

/-- THE SECOND FORM's CARD OF 'laws.FnExactDiagramText'. -/
def fnExactDiagramTextUptoCard : Claim7 := { stood := { row := fnExactDiagramTextUptoRow, standIns := [], harness := (true, "b9d4557958ab74dba172ef895f80701f461c78fba707cfad9631ac5bbf62fb8a"), looks := false }, kinds := [], alts := [], laidByText := true, laidKinds := [.data, .data, .data], laidTests := true, laidLooks := .later }
def FnExactDiagramTextUptoCardSaid : Prop := Claim7.holds Tryd.pinned (.plain (OpenSpec.upto fnExactDiagramTextSpec)) fnExactDiagramTextUptoCard
end Rows
end Go.Proofs.YtljboamepnhfpaaDoor
