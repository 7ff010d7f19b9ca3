/-
  DERIVED. GIVEN WITH THE SEED: THE CARDS: each row of YtmipelgjmmgmnaaDoorRows.lean that lists a variable, with what it lists TIED to the program's text (the seventh form; the later family's looks); each row that meets fmt, with fmt's text TOLD by the authors' own Lean function (tested against real Go, not proved from fmt's source: count such statements apart). THE CARD IS WHAT COUNTS. Prove the row's statement (the work); the ties are given (YtmipelgjmmgmnaaDoorTie.lean); close each card by the builder's one call (the guide's Derived/Test/ToyasCard.lean, 'card_holds'). Laid BY PROGRAM, IN A SANDBOX (cutbox-door.mjs). By AI agents, Wed Nov 11 2026. No macro, syntax, notation, axiom, sorry.
-/
import Derived.Test.YtmipelgjmmgmnaaDoorRows
import GoSem.ClaimSeven
namespace Go.Proofs.YtmipelgjmmgmnaaDoor
namespace Rows

/-- THE TIED CARD OF 'laws.FnExactPlainSwitch'. -/
def fnExactPlainSwitchCard : Claim7 := { stood := { row := fnExactPlainSwitchRow, standIns := [], harness := (true, "45cfac6e2a6d1f885834d11e09e0b150c6c4d9170a6bf080672738dcd88d1c4e"), looks := false }, kinds := [], alts := [], laidByText := true, laidKinds := [.data, .pinned], laidTests := true, laidLooks := .later }
def FnExactPlainSwitchCardSaid : Prop := Claim7.holds Tryd.pinned (.plain (OpenSpec.ofChange fnExactPlainSwitchSpec)) fnExactPlainSwitchCard

/-- THE TIED CARD OF 'laws.FnExactPlainGate'. -/
def fnExactPlainGateCard : Claim7 := { stood := { row := fnExactPlainGateRow, standIns := [], harness := (true, "45cfac6e2a6d1f885834d11e09e0b150c6c4d9170a6bf080672738dcd88d1c4e"), looks := false }, kinds := [], alts := [], laidByText := true, laidKinds := [.data, .pinned], laidTests := true, laidLooks := .later }
def FnExactPlainGateCardSaid : Prop := Claim7.holds Tryd.pinned (.plain (OpenSpec.ofChange fnExactPlainGateSpec)) fnExactPlainGateCard

/-- THE TIED CARD OF 'laws.FnExactGateWave'. -/
def fnExactGateWaveCard : Claim7 := { stood := { row := fnExactGateWaveRow, standIns := [], harness := (true, "45cfac6e2a6d1f885834d11e09e0b150c6c4d9170a6bf080672738dcd88d1c4e"), looks := false }, kinds := [], alts := [], laidByText := true, laidKinds := [.data, .pinned], laidTests := true, laidLooks := .later }
def FnExactGateWaveCardSaid : Prop := Claim7.holds Tryd.pinned (.plain (OpenSpec.ofChange fnExactGateWaveSpec)) fnExactGateWaveCard

/-- THE TIED CARD OF 'laws.FnExactToggleWave'. -/
def fnExactToggleWaveCard : Claim7 := { stood := { row := fnExactToggleWaveRow, standIns := [], harness := (true, "45cfac6e2a6d1f885834d11e09e0b150c6c4d9170a6bf080672738dcd88d1c4e"), looks := false }, kinds := [], alts := [], laidByText := true, laidKinds := [.data, .pinned], laidTests := true, laidLooks := .later }
def FnExactToggleWaveCardSaid : Prop := Claim7.holds Tryd.pinned (.plain (OpenSpec.ofChange fnExactToggleWaveSpec)) fnExactToggleWaveCard

/-- THE TIED CARD OF 'laws.FnExactDivideWave'. -/
def fnExactDivideWaveCard : Claim7 := { stood := { row := fnExactDivideWaveRow, standIns := [], harness := (true, "45cfac6e2a6d1f885834d11e09e0b150c6c4d9170a6bf080672738dcd88d1c4e"), looks := false }, kinds := [], alts := [], laidByText := true, laidKinds := [.data, .pinned], laidTests := true, laidLooks := .later }
def FnExactDivideWaveCardSaid : Prop := Claim7.holds Tryd.pinned (.plain (OpenSpec.ofChange fnExactDivideWaveSpec)) fnExactDivideWaveCard

/-- THE TIED CARD OF 'laws.FnExactDivideChain'. -/
def fnExactDivideChainCard : Claim7 := { stood := { row := fnExactDivideChainRow, standIns := [], harness := (true, "45cfac6e2a6d1f885834d11e09e0b150c6c4d9170a6bf080672738dcd88d1c4e"), looks := false }, kinds := [], alts := [], laidByText := true, laidKinds := [.data, .pinned], laidTests := true, laidLooks := .later }
def FnExactDivideChainCardSaid : Prop := Claim7.holds Tryd.pinned (.plain (OpenSpec.ofChange fnExactDivideChainSpec)) fnExactDivideChainCard

/-- THE TIED CARD OF 'laws.FnExactIsEvenPattern'. -/
def fnExactIsEvenPatternCard : Claim7 := { stood := { row := fnExactIsEvenPatternRow, standIns := [], harness := (true, "45cfac6e2a6d1f885834d11e09e0b150c6c4d9170a6bf080672738dcd88d1c4e"), looks := false }, kinds := [], alts := [], laidByText := true, laidKinds := [.data, .pinned], laidTests := true, laidLooks := .later }
def FnExactIsEvenPatternCardSaid : Prop := Claim7.holds Tryd.pinned (.plain (OpenSpec.ofChange fnExactIsEvenPatternSpec)) fnExactIsEvenPatternCard

/-- THE TIED CARD OF 'laws.FnExactMostUneven'. -/
def fnExactMostUnevenCard : Claim7 := { stood := { row := fnExactMostUnevenRow, standIns := [], harness := (true, "45cfac6e2a6d1f885834d11e09e0b150c6c4d9170a6bf080672738dcd88d1c4e"), looks := false }, kinds := [], alts := [], laidByText := true, laidKinds := [.data, .pinned], laidTests := true, laidLooks := .later }
def FnExactMostUnevenCardSaid : Prop := Claim7.holds Tryd.pinned (.plain (OpenSpec.ofChange fnExactMostUnevenSpec)) fnExactMostUnevenCard

/-- THE TIED CARD OF 'laws.FnExactIsOrder'. -/
def fnExactIsOrderCard : Claim7 := { stood := { row := fnExactIsOrderRow, standIns := [], harness := (true, "45cfac6e2a6d1f885834d11e09e0b150c6c4d9170a6bf080672738dcd88d1c4e"), looks := false }, kinds := [], alts := [], laidByText := true, laidKinds := [.data, .pinned], laidTests := true, laidLooks := .later }
def FnExactIsOrderCardSaid : Prop := Claim7.holds Tryd.pinned (.plain (OpenSpec.ofChange fnExactIsOrderSpec)) fnExactIsOrderCard

/-- THE TIED CARD OF 'laws.FnExactRunLink'. -/
def fnExactRunLinkCard : Claim7 := { stood := { row := fnExactRunLinkRow, standIns := [], harness := (true, "45cfac6e2a6d1f885834d11e09e0b150c6c4d9170a6bf080672738dcd88d1c4e"), looks := false }, kinds := [], alts := [], laidByText := true, laidKinds := [.data, .pinned], laidTests := true, laidLooks := .later }
def FnExactRunLinkCardSaid : Prop := Claim7.holds Tryd.pinned (.plain (OpenSpec.ofChange fnExactRunLinkSpec)) fnExactRunLinkCard

/-- THE TIED CARD OF 'laws.FnExactRunQueue'. -/
def fnExactRunQueueCard : Claim7 := { stood := { row := fnExactRunQueueRow, standIns := [], harness := (true, "45cfac6e2a6d1f885834d11e09e0b150c6c4d9170a6bf080672738dcd88d1c4e"), looks := false }, kinds := [], alts := [], laidByText := true, laidKinds := [.data, .pinned], laidTests := true, laidLooks := .later }
def FnExactRunQueueCardSaid : Prop := Claim7.holds Tryd.pinned (.plain (OpenSpec.ofChange fnExactRunQueueSpec)) fnExactRunQueueCard

/-- THE TIED CARD OF 'laws.FnDivided'. -/
def fnDividedCard : Claim7 := { stood := { row := fnDividedRow, standIns := [], harness := (true, "45cfac6e2a6d1f885834d11e09e0b150c6c4d9170a6bf080672738dcd88d1c4e"), looks := false }, kinds := [], alts := [], laidByText := true, laidKinds := [.data, .pinned], laidTests := true, laidLooks := .later }
def FnDividedCardSaid : Prop := Claim7.holds Tryd.pinned (.plain (OpenSpec.ofChange fnDividedSpec)) fnDividedCard

/-- THE SECOND FORM's CARD OF 'laws.FnExactPlainSwitch'. -/
def fnExactPlainSwitchUptoCard : Claim7 := { stood := { row := fnExactPlainSwitchUptoRow, standIns := [], harness := (true, "45cfac6e2a6d1f885834d11e09e0b150c6c4d9170a6bf080672738dcd88d1c4e"), looks := false }, kinds := [], alts := [], laidByText := true, laidKinds := [.data, .pinned], laidTests := true, laidLooks := .later }
def FnExactPlainSwitchUptoCardSaid : Prop := Claim7.holds Tryd.pinned (.plain (OpenSpec.upto fnExactPlainSwitchSpec)) fnExactPlainSwitchUptoCard

/-- THE SECOND FORM's CARD OF 'laws.FnExactPlainGate'. -/
def fnExactPlainGateUptoCard : Claim7 := { stood := { row := fnExactPlainGateUptoRow, standIns := [], harness := (true, "45cfac6e2a6d1f885834d11e09e0b150c6c4d9170a6bf080672738dcd88d1c4e"), looks := false }, kinds := [], alts := [], laidByText := true, laidKinds := [.data, .pinned], laidTests := true, laidLooks := .later }
def FnExactPlainGateUptoCardSaid : Prop := Claim7.holds Tryd.pinned (.plain (OpenSpec.upto fnExactPlainGateSpec)) fnExactPlainGateUptoCard

/-- THE SECOND FORM's CARD OF 'laws.FnExactGateWave'. -/
def fnExactGateWaveUptoCard : Claim7 := { stood := { row := fnExactGateWaveUptoRow, standIns := [], harness := (true, "45cfac6e2a6d1f885834d11e09e0b150c6c4d9170a6bf080672738dcd88d1c4e"), looks := false }, kinds := [], alts := [], laidByText := true, laidKinds := [.data, .pinned], laidTests := true, laidLooks := .later }
def FnExactGateWaveUptoCardSaid : Prop := Claim7.holds Tryd.pinned (.plain (OpenSpec.upto fnExactGateWaveSpec)) fnExactGateWaveUptoCard

/-- THE SECOND FORM's CARD OF 'laws.FnExactToggleWave'. -/
def fnExactToggleWaveUptoCard : Claim7 := { stood := { row := fnExactToggleWaveUptoRow, standIns := [], harness := (true, "45cfac6e2a6d1f885834d11e09e0b150c6c4d9170a6bf080672738dcd88d1c4e"), looks := false }, kinds := [], alts := [], laidByText := true, laidKinds := [.data, .pinned], laidTests := true, laidLooks := .later }
def FnExactToggleWaveUptoCardSaid : Prop := Claim7.holds Tryd.pinned (.plain (OpenSpec.upto fnExactToggleWaveSpec)) fnExactToggleWaveUptoCard

/-- THE SECOND FORM's CARD OF 'laws.FnExactDivideWave'. -/
def fnExactDivideWaveUptoCard : Claim7 := { stood := { row := fnExactDivideWaveUptoRow, standIns := [], harness := (true, "45cfac6e2a6d1f885834d11e09e0b150c6c4d9170a6bf080672738dcd88d1c4e"), looks := false }, kinds := [], alts := [], laidByText := true, laidKinds := [.data, .pinned], laidTests := true, laidLooks := .later }
def FnExactDivideWaveUptoCardSaid : Prop := Claim7.holds Tryd.pinned (.plain (OpenSpec.upto fnExactDivideWaveSpec)) fnExactDivideWaveUptoCard

/-- THE SECOND FORM's CARD OF 'laws.FnExactDivideChain'. -/
def fnExactDivideChainUptoCard : Claim7 := { stood := { row := fnExactDivideChainUptoRow, standIns := [], harness := (true, "45cfac6e2a6d1f885834d11e09e0b150c6c4d9170a6bf080672738dcd88d1c4e"), looks := false }, kinds := [], alts := [], laidByText := true, laidKinds := [.data, .pinned], laidTests := true, laidLooks := .later }
def FnExactDivideChainUptoCardSaid : Prop := Claim7.holds Tryd.pinned (.plain (OpenSpec.upto fnExactDivideChainSpec)) fnExactDivideChainUptoCard

/-- THE SECOND FORM's CARD OF 'laws.FnExactIsEvenPattern'. -/
def fnExactIsEvenPatternUptoCard : Claim7 := { stood := { row := fnExactIsEvenPatternUptoRow, standIns := [], harness := (true, "45cfac6e2a6d1f885834d11e09e0b150c6c4d9170a6bf080672738dcd88d1c4e"), looks := false }, kinds := [], alts := [], laidByText := true, laidKinds := [.data, .pinned], laidTests := true, laidLooks := .later }
def FnExactIsEvenPatternUptoCardSaid : Prop := Claim7.holds Tryd.pinned (.plain (OpenSpec.upto fnExactIsEvenPatternSpec)) fnExactIsEvenPatternUptoCard

/-- THE SECOND FORM's CARD OF 'laws.FnExactMostUneven'. -/
def fnExactMostUnevenUptoCard : Claim7 := { stood := { row := fnExactMostUnevenUptoRow, standIns := [], harness := (true, "45cfac6e2a6d1f885834d11e09e0b150c6c4d9170a6bf080672738dcd88d1c4e"), looks := false }, kinds := [], alts := [], laidByText := true, laidKinds := [.data, .pinned], laidTests := true, laidLooks := .later }
def FnExactMostUnevenUptoCardSaid : Prop := Claim7.holds Tryd.pinned (.plain (OpenSpec.upto fnExactMostUnevenSpec)) fnExactMostUnevenUptoCard

/-- THE SECOND FORM's CARD OF 'laws.FnExactIsOrder'. -/
def fnExactIsOrderUptoCard : Claim7 := { stood := { row := fnExactIsOrderUptoRow, standIns := [], harness := (true, "45cfac6e2a6d1f885834d11e09e0b150c6c4d9170a6bf080672738dcd88d1c4e"), looks := false }, kinds := [], alts := [], laidByText := true, laidKinds := [.data, .pinned], laidTests := true, laidLooks := .later }
def FnExactIsOrderUptoCardSaid : Prop := Claim7.holds Tryd.pinned (.plain (OpenSpec.upto fnExactIsOrderSpec)) fnExactIsOrderUptoCard

/-- THE SECOND FORM's CARD OF 'laws.FnExactRunLink'. -/
def fnExactRunLinkUptoCard : Claim7 := { stood := { row := fnExactRunLinkUptoRow, standIns := [], harness := (true, "45cfac6e2a6d1f885834d11e09e0b150c6c4d9170a6bf080672738dcd88d1c4e"), looks := false }, kinds := [], alts := [], laidByText := true, laidKinds := [.data, .pinned], laidTests := true, laidLooks := .later }
def FnExactRunLinkUptoCardSaid : Prop := Claim7.holds Tryd.pinned (.plain (OpenSpec.upto fnExactRunLinkSpec)) fnExactRunLinkUptoCard

/-- THE SECOND FORM's CARD OF 'laws.FnExactRunQueue'. -/
def fnExactRunQueueUptoCard : Claim7 := { stood := { row := fnExactRunQueueUptoRow, standIns := [], harness := (true, "45cfac6e2a6d1f885834d11e09e0b150c6c4d9170a6bf080672738dcd88d1c4e"), looks := false }, kinds := [], alts := [], laidByText := true, laidKinds := [.data, .pinned], laidTests := true, laidLooks := .later }
def FnExactRunQueueUptoCardSaid : Prop := Claim7.holds Tryd.pinned (.plain (OpenSpec.upto fnExactRunQueueSpec)) fnExactRunQueueUptoCard

/-- THE SECOND FORM's CARD OF 'laws.FnDivided'. -/
def fnDividedUptoCard : Claim7 := { stood := { row := fnDividedUptoRow, standIns := [], harness := (true, "45cfac6e2a6d1f885834d11e09e0b150c6c4d9170a6bf080672738dcd88d1c4e"), looks := false }, kinds := [], alts := [], laidByText := true, laidKinds := [.data, .pinned], laidTests := true, laidLooks := .later }
def FnDividedUptoCardSaid : Prop := Claim7.holds Tryd.pinned (.plain (OpenSpec.upto fnDividedSpec)) fnDividedUptoCard
end Rows
end Go.Proofs.YtmipelgjmmgmnaaDoor
