/-
  DERIVED. GIVEN WITH THE SEED: THE CARDS: each row of YteccfnppbonniaaDoorRows.lean that lists a variable, with what it lists TIED to the program's text (the seventh form; the later family's looks); each row that meets fmt, with fmt's text TOLD by the authors' own Lean function (tested against real Go, not proved from fmt's source: count such statements apart). THE CARD IS WHAT COUNTS. Prove the row's statement (the work); the ties are given (YteccfnppbonniaaDoorTie.lean); close each card by the builder's one call (the guide's Derived/Test/ToyasCard.lean, 'card_holds'). Laid BY PROGRAM, IN A SANDBOX (cutbox-door.mjs). By AI agents, Wed Nov 11 2026. No macro, syntax, notation, axiom, sorry.
-/
import Derived.Test.YteccfnppbonniaaDoorRows
import GoSem.ClaimSeven
namespace Go.Proofs.YteccfnppbonniaaDoor
namespace Rows

/-- THE TIED CARD OF 'laws.FnExactRunQueue'. -/
def fnExactRunQueueCard : Claim7 := { stood := { row := fnExactRunQueueRow, standIns := [], harness := (true, "d73fd9f7a56682297275c486241c99c3455adf85a20cfa24d430722d6f06c11a"), looks := false }, kinds := [], alts := [], laidByText := true, laidKinds := [.data, .pinned], laidTests := true, laidLooks := .later }
def FnExactRunQueueCardSaid : Prop := Claim7.holds Tryd.pinned (.plain (OpenSpec.ofChange fnExactRunQueueSpec)) fnExactRunQueueCard

/-- THE TIED CARD OF 'laws.FnExactRunLink'. -/
def fnExactRunLinkCard : Claim7 := { stood := { row := fnExactRunLinkRow, standIns := [], harness := (true, "d73fd9f7a56682297275c486241c99c3455adf85a20cfa24d430722d6f06c11a"), looks := false }, kinds := [], alts := [], laidByText := true, laidKinds := [.data, .pinned], laidTests := true, laidLooks := .later }
def FnExactRunLinkCardSaid : Prop := Claim7.holds Tryd.pinned (.plain (OpenSpec.ofChange fnExactRunLinkSpec)) fnExactRunLinkCard

/-- THE SECOND FORM's CARD OF 'laws.FnExactRunQueue'. -/
def fnExactRunQueueUptoCard : Claim7 := { stood := { row := fnExactRunQueueUptoRow, standIns := [], harness := (true, "d73fd9f7a56682297275c486241c99c3455adf85a20cfa24d430722d6f06c11a"), looks := false }, kinds := [], alts := [], laidByText := true, laidKinds := [.data, .pinned], laidTests := true, laidLooks := .later }
def FnExactRunQueueUptoCardSaid : Prop := Claim7.holds Tryd.pinned (.plain (OpenSpec.upto fnExactRunQueueSpec)) fnExactRunQueueUptoCard

/-- THE SECOND FORM's CARD OF 'laws.FnExactRunLink'. -/
def fnExactRunLinkUptoCard : Claim7 := { stood := { row := fnExactRunLinkUptoRow, standIns := [], harness := (true, "d73fd9f7a56682297275c486241c99c3455adf85a20cfa24d430722d6f06c11a"), looks := false }, kinds := [], alts := [], laidByText := true, laidKinds := [.data, .pinned], laidTests := true, laidLooks := .later }
def FnExactRunLinkUptoCardSaid : Prop := Claim7.holds Tryd.pinned (.plain (OpenSpec.upto fnExactRunLinkSpec)) fnExactRunLinkUptoCard
end Rows
end Go.Proofs.YteccfnppbonniaaDoor
