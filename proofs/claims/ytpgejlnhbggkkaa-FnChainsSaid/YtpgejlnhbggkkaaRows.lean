/-
  No cell of these rows narrows 'for every input' (looked for: loops, veiled, ifaces, maps, wideKeys, modest, calm, conditions, laid).
  DERIVED. THE GIVEN ROWS OF THIS SEAT. 7 by the template 'for every input the law returns true; each argument reads behind the call as it read before'; 0 by the template 'total and deterministic' (their statements: YtpgejlnhbggkkaaTotals.lean).
  GIVEN WITH THE SEED: the statements are not yours to turn. If you find one false, say at which input.
  Laid BY PROGRAM, IN A SANDBOX (cutbox-rows.mjs): the forced cells as the released guide's own fill.sh prints them over the translation 0b5583d109397189… (all of the seat's roots in one cut). By AI agents, Wed Nov 11 2026. No macro, syntax, notation, axiom, sorry.
-/
import Derived.Test.YtpgejlnhbggkkaaChecked
import GoSem.Claim
import GoSem.ClaimJoined
import GoSem.ClaimMapViews
import Derived.JoinedTies
import Derived.KernelRfl
namespace Go.Proofs.Ytpgejlnhbggkkaa
/- THE CELL 'sum', in the pinned program and in every row, IS THE sha256 OF THE DUMP (.gsa) THAT YtpgejlnhbggkkaaProg.lean LOADS. Nothing in Lean hashes anything: it is a label: what it is worth is what the hold of that sum in a sandbox is worth. -/
noncomputable def Try.pinned : Pinned := { name := "ytpgejlnhbggkkaa", sum := "0b5583d109397189a605a663d225a5db15a1beeffbaee3f2600b72e74eb91595", checked := Try.checked }
namespace Rows
def none {H : Type} : Left H := { results := [], args := [] }

/-- 'laws.FnExactValidSwitch': WHATEVER THE INPUT: true; the input reads as it did. -/
def fnExactValidSwitchSpec : ChangeSpec := { name := "fnExactValidSwitch", fn := fun _ => fun
  | [d] => { results := [.lit (.bool true)], args := [d] }
  | _ => none }
def fnExactValidSwitchRow : OpenClaim := { program := "ytpgejlnhbggkkaa", sum := "0b5583d109397189a605a663d225a5db15a1beeffbaee3f2600b72e74eb91595", func := "loop.example/g01153/laws.FnExactValidSwitch", spec := "fnExactValidSwitch", apart := false }
def FnExactValidSwitchSaid : Prop := fnExactValidSwitchRow.holds Try.pinned (OpenSpec.ofChange fnExactValidSwitchSpec)

/-- ITS FALSE NEIGHBOUR: 'it returns false'. Refute it at one input. -/
def fnExactValidSwitchWrong : ChangeSpec := { name := "fnExactValidSwitch", fn := fun _ => fun
  | [d] => { results := [.lit (.bool false)], args := [d] }
  | _ => none }
def FnExactValidSwitchWrongFalsely : Prop := fnExactValidSwitchRow.holds Try.pinned (OpenSpec.ofChange fnExactValidSwitchWrong)

/-- 'laws.FnExactValidQueue': WHATEVER THE INPUT: true; the input reads as it did. -/
def fnExactValidQueueSpec : ChangeSpec := { name := "fnExactValidQueue", fn := fun _ => fun
  | [d] => { results := [.lit (.bool true)], args := [d] }
  | _ => none }
def fnExactValidQueueRow : OpenClaim := { program := "ytpgejlnhbggkkaa", sum := "0b5583d109397189a605a663d225a5db15a1beeffbaee3f2600b72e74eb91595", func := "loop.example/g01153/laws.FnExactValidQueue", spec := "fnExactValidQueue", apart := false }
def FnExactValidQueueSaid : Prop := fnExactValidQueueRow.holds Try.pinned (OpenSpec.ofChange fnExactValidQueueSpec)

/-- ITS FALSE NEIGHBOUR: 'it returns false'. Refute it at one input. -/
def fnExactValidQueueWrong : ChangeSpec := { name := "fnExactValidQueue", fn := fun _ => fun
  | [d] => { results := [.lit (.bool false)], args := [d] }
  | _ => none }
def FnExactValidQueueWrongFalsely : Prop := fnExactValidQueueRow.holds Try.pinned (OpenSpec.ofChange fnExactValidQueueWrong)

/-- 'laws.FnExactValidLink': WHATEVER THE INPUT: true; the input reads as it did. -/
def fnExactValidLinkSpec : ChangeSpec := { name := "fnExactValidLink", fn := fun _ => fun
  | [d] => { results := [.lit (.bool true)], args := [d] }
  | _ => none }
def fnExactValidLinkRow : OpenClaim := { program := "ytpgejlnhbggkkaa", sum := "0b5583d109397189a605a663d225a5db15a1beeffbaee3f2600b72e74eb91595", func := "loop.example/g01153/laws.FnExactValidLink", spec := "fnExactValidLink", apart := false }
def FnExactValidLinkSaid : Prop := fnExactValidLinkRow.holds Try.pinned (OpenSpec.ofChange fnExactValidLinkSpec)

/-- ITS FALSE NEIGHBOUR: 'it returns false'. Refute it at one input. -/
def fnExactValidLinkWrong : ChangeSpec := { name := "fnExactValidLink", fn := fun _ => fun
  | [d] => { results := [.lit (.bool false)], args := [d] }
  | _ => none }
def FnExactValidLinkWrongFalsely : Prop := fnExactValidLinkRow.holds Try.pinned (OpenSpec.ofChange fnExactValidLinkWrong)

/-- 'laws.FnChains': WHATEVER THE INPUT: true; the input reads as it did. -/
def fnChainsSpec : ChangeSpec := { name := "fnChains", fn := fun _ => fun
  | [d1, d2] => { results := [.lit (.bool true)], args := [d1, d2] }
  | _ => none }
def fnChainsRow : OpenClaim := { program := "ytpgejlnhbggkkaa", sum := "0b5583d109397189a605a663d225a5db15a1beeffbaee3f2600b72e74eb91595", func := "loop.example/g01153/laws.FnChains", spec := "fnChains", recurses := true, apart := false }
def FnChainsSaid : Prop := fnChainsRow.holds Try.pinned (OpenSpec.ofChange fnChainsSpec)

/-- ITS FALSE NEIGHBOUR: 'it returns false'. Refute it at one input. -/
def fnChainsWrong : ChangeSpec := { name := "fnChains", fn := fun _ => fun
  | [d1, d2] => { results := [.lit (.bool false)], args := [d1, d2] }
  | _ => none }
def FnChainsWrongFalsely : Prop := fnChainsRow.holds Try.pinned (OpenSpec.ofChange fnChainsWrong)

/-- 'laws.FnExactBetween': WHATEVER THE INPUT: true; the input reads as it did. -/
def fnExactBetweenSpec : ChangeSpec := { name := "fnExactBetween", fn := fun _ => fun
  | [d1, d2, d3, d4] => { results := [.lit (.bool true)], args := [d1, d2, d3, d4] }
  | _ => none }
def fnExactBetweenRow : OpenClaim := { program := "ytpgejlnhbggkkaa", sum := "0b5583d109397189a605a663d225a5db15a1beeffbaee3f2600b72e74eb91595", func := "loop.example/g01153/laws.FnExactBetween", spec := "fnExactBetween", apart := false }
def FnExactBetweenSaid : Prop := fnExactBetweenRow.holds Try.pinned (OpenSpec.ofChange fnExactBetweenSpec)

/-- ITS FALSE NEIGHBOUR: 'it returns false'. Refute it at one input. -/
def fnExactBetweenWrong : ChangeSpec := { name := "fnExactBetween", fn := fun _ => fun
  | [d1, d2, d3, d4] => { results := [.lit (.bool false)], args := [d1, d2, d3, d4] }
  | _ => none }
def FnExactBetweenWrongFalsely : Prop := fnExactBetweenRow.holds Try.pinned (OpenSpec.ofChange fnExactBetweenWrong)

/-- 'laws.FnExactChainFor': WHATEVER THE INPUT: true; the input reads as it did. -/
def fnExactChainForSpec : ChangeSpec := { name := "fnExactChainFor", fn := fun _ => fun
  | [d1, d2] => { results := [.lit (.bool true)], args := [d1, d2] }
  | _ => none }
def fnExactChainForRow : OpenClaim := { program := "ytpgejlnhbggkkaa", sum := "0b5583d109397189a605a663d225a5db15a1beeffbaee3f2600b72e74eb91595", func := "loop.example/g01153/laws.FnExactChainFor", spec := "fnExactChainFor", recurses := true, apart := false }
def FnExactChainForSaid : Prop := fnExactChainForRow.holds Try.pinned (OpenSpec.ofChange fnExactChainForSpec)

/-- ITS FALSE NEIGHBOUR: 'it returns false'. Refute it at one input. -/
def fnExactChainForWrong : ChangeSpec := { name := "fnExactChainFor", fn := fun _ => fun
  | [d1, d2] => { results := [.lit (.bool false)], args := [d1, d2] }
  | _ => none }
def FnExactChainForWrongFalsely : Prop := fnExactChainForRow.holds Try.pinned (OpenSpec.ofChange fnExactChainForWrong)

/-- 'laws.FnExactRatioSteps': WHATEVER THE INPUT: true; the input reads as it did. -/
def fnExactRatioStepsSpec : ChangeSpec := { name := "fnExactRatioSteps", fn := fun _ => fun
  | [d] => { results := [.lit (.bool true)], args := [d] }
  | _ => none }
def fnExactRatioStepsRow : OpenClaim := { program := "ytpgejlnhbggkkaa", sum := "0b5583d109397189a605a663d225a5db15a1beeffbaee3f2600b72e74eb91595", func := "loop.example/g01153/laws.FnExactRatioSteps", spec := "fnExactRatioSteps", apart := false }
def FnExactRatioStepsSaid : Prop := fnExactRatioStepsRow.holds Try.pinned (OpenSpec.ofChange fnExactRatioStepsSpec)

/-- ITS FALSE NEIGHBOUR: 'it returns false'. Refute it at one input. -/
def fnExactRatioStepsWrong : ChangeSpec := { name := "fnExactRatioSteps", fn := fun _ => fun
  | [d] => { results := [.lit (.bool false)], args := [d] }
  | _ => none }
def FnExactRatioStepsWrongFalsely : Prop := fnExactRatioStepsRow.holds Try.pinned (OpenSpec.ofChange fnExactRatioStepsWrong)

/- THE SECOND FORM. 'bulk': how many values and letters a reading holds, each counted each time it is reached (what is shared counts as often as it is met; a slice's spare places count too). A statement '..UptoSaid' is the law's where the arguments, and the package variables that the reading takes, are together of bulk at most 1048576: NARROWER than '..Said'. Prove '..Said' where nothing that the law and all that it calls make is longer than what came in: it says more and counts as full. Else prove '..UptoSaid'. A law counts once. -/
mutual
def uptoBulk {H : Type} : DataW H → Nat
  | .lit (.string bytes) => bytes.length + 1
  | .lit _ => 1
  | .nil => 1
  | .ptr d => uptoBulk d + 1
  | .slice elems spare => uptoBulkAll elems + uptoBulkAll spare + 1
  | .agg parts => uptoBulkAll parts + 1
  | .iface _ d => uptoBulk d + 1
  | .map entries => uptoBulkEntries entries + 1
  | .held _ => 1
def uptoBulkAll {H : Type} : List (DataW H) → Nat
  | [] => 0
  | d :: r => uptoBulk d + uptoBulkAll r
def uptoBulkEntries {H : Type} : List (Lit × DataW H) → Nat
  | [] => 0
  | x :: r => uptoBulkEntry x + uptoBulkEntries r
def uptoBulkEntry {H : Type} : Lit × DataW H → Nat
  | (.string bytes, d) => bytes.length + uptoBulk d + 1
  | (_, d) => uptoBulk d + 1
 end
def uptoSmall : (H : Type) → List (DataW H) → Bool := fun _ ds => decide (uptoBulkAll ds ≤ 1048576)
def OpenSpec.upto (s : _root_.Go.ChangeSpec) : _root_.Go.OpenSpec := { _root_.Go.OpenSpec.ofChange s with cond := some uptoSmall }

/-- 'laws.FnExactValidSwitch', WHERE WHAT IT READS IS OF BULK AT MOST 1048576: true; the input reads as it did. -/
def fnExactValidSwitchUptoRow : OpenClaim := { program := "ytpgejlnhbggkkaa", sum := "0b5583d109397189a605a663d225a5db15a1beeffbaee3f2600b72e74eb91595", func := "loop.example/g01153/laws.FnExactValidSwitch", spec := "fnExactValidSwitch", apart := false, narrowed := true }
def FnExactValidSwitchUptoSaid : Prop := fnExactValidSwitchUptoRow.holds Try.pinned (OpenSpec.upto fnExactValidSwitchSpec)

/-- 'laws.FnExactValidQueue', WHERE WHAT IT READS IS OF BULK AT MOST 1048576: true; the input reads as it did. -/
def fnExactValidQueueUptoRow : OpenClaim := { program := "ytpgejlnhbggkkaa", sum := "0b5583d109397189a605a663d225a5db15a1beeffbaee3f2600b72e74eb91595", func := "loop.example/g01153/laws.FnExactValidQueue", spec := "fnExactValidQueue", apart := false, narrowed := true }
def FnExactValidQueueUptoSaid : Prop := fnExactValidQueueUptoRow.holds Try.pinned (OpenSpec.upto fnExactValidQueueSpec)

/-- 'laws.FnExactValidLink', WHERE WHAT IT READS IS OF BULK AT MOST 1048576: true; the input reads as it did. -/
def fnExactValidLinkUptoRow : OpenClaim := { program := "ytpgejlnhbggkkaa", sum := "0b5583d109397189a605a663d225a5db15a1beeffbaee3f2600b72e74eb91595", func := "loop.example/g01153/laws.FnExactValidLink", spec := "fnExactValidLink", apart := false, narrowed := true }
def FnExactValidLinkUptoSaid : Prop := fnExactValidLinkUptoRow.holds Try.pinned (OpenSpec.upto fnExactValidLinkSpec)

/-- 'laws.FnChains', WHERE WHAT IT READS IS OF BULK AT MOST 1048576: true; the input reads as it did. -/
def fnChainsUptoRow : OpenClaim := { program := "ytpgejlnhbggkkaa", sum := "0b5583d109397189a605a663d225a5db15a1beeffbaee3f2600b72e74eb91595", func := "loop.example/g01153/laws.FnChains", spec := "fnChains", recurses := true, apart := false, narrowed := true }
def FnChainsUptoSaid : Prop := fnChainsUptoRow.holds Try.pinned (OpenSpec.upto fnChainsSpec)

/-- 'laws.FnExactBetween', WHERE WHAT IT READS IS OF BULK AT MOST 1048576: true; the input reads as it did. -/
def fnExactBetweenUptoRow : OpenClaim := { program := "ytpgejlnhbggkkaa", sum := "0b5583d109397189a605a663d225a5db15a1beeffbaee3f2600b72e74eb91595", func := "loop.example/g01153/laws.FnExactBetween", spec := "fnExactBetween", apart := false, narrowed := true }
def FnExactBetweenUptoSaid : Prop := fnExactBetweenUptoRow.holds Try.pinned (OpenSpec.upto fnExactBetweenSpec)

/-- 'laws.FnExactChainFor', WHERE WHAT IT READS IS OF BULK AT MOST 1048576: true; the input reads as it did. -/
def fnExactChainForUptoRow : OpenClaim := { program := "ytpgejlnhbggkkaa", sum := "0b5583d109397189a605a663d225a5db15a1beeffbaee3f2600b72e74eb91595", func := "loop.example/g01153/laws.FnExactChainFor", spec := "fnExactChainFor", recurses := true, apart := false, narrowed := true }
def FnExactChainForUptoSaid : Prop := fnExactChainForUptoRow.holds Try.pinned (OpenSpec.upto fnExactChainForSpec)

/-- 'laws.FnExactRatioSteps', WHERE WHAT IT READS IS OF BULK AT MOST 1048576: true; the input reads as it did. -/
def fnExactRatioStepsUptoRow : OpenClaim := { program := "ytpgejlnhbggkkaa", sum := "0b5583d109397189a605a663d225a5db15a1beeffbaee3f2600b72e74eb91595", func := "loop.example/g01153/laws.FnExactRatioSteps", spec := "fnExactRatioSteps", apart := false, narrowed := true }
def FnExactRatioStepsUptoSaid : Prop := fnExactRatioStepsUptoRow.holds Try.pinned (OpenSpec.upto fnExactRatioStepsSpec)

end Rows
end Go.Proofs.Ytpgejlnhbggkkaa
