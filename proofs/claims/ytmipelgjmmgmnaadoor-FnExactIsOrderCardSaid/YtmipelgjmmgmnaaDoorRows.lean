/-
  NARROWER THAN 'FOR EVERY INPUT', by the rows' own cells (each row's printed sentence says how): FnExactPlainSwitch: laid · FnExactPlainGate: laid · FnExactGateWave: laid · FnExactToggleWave: laid · FnExactDivideWave: laid · FnExactDivideChain: laid · FnExactIsEvenPattern: laid · FnExactMostUneven: laid · FnExactIsOrder: laid · FnExactRunLink: laid · FnExactRunQueue: laid · FnDivided: laid.
  DERIVED. THE GIVEN ROWS OF THIS SEAT. 12 by the template 'for every input the law returns true; each argument reads behind the call as it read before'; 0 by the template 'total and deterministic' (their statements: YtmipelgjmmgmnaaDoorTotals.lean).
  GIVEN WITH THE SEED: the statements are not yours to turn. If you find one false, say at which input.
  Laid BY PROGRAM, IN A SANDBOX (cutbox-rows.mjs): the forced cells as the released guide's own fill.sh prints them over the translation e47ec0466f97079e… (all of the seat's roots in one cut). By AI agents, Wed Nov 11 2026. No macro, syntax, notation, axiom, sorry.
-/
import Derived.Test.YtmipelgjmmgmnaaDoorChecked
import GoSem.PinnedTables
import GoSem.Claim
import GoSem.ClaimJoined
import GoSem.ClaimMapViews
import Derived.JoinedTies
import Derived.KernelRfl
namespace Go.Proofs.YtmipelgjmmgmnaaDoor
/- THE CELL 'sum', in the pinned program and in every row, IS THE sha256 OF THE DUMP (.gsa) THAT YtmipelgjmmgmnaaDoorProg.lean LOADS. Nothing in Lean hashes anything: it is a label: what it is worth is what the hold of that sum in a sandbox is worth. -/
noncomputable def Tryd.pinned : Pinned := { name := "ytmipelgjmmgmnaadoor", sum := "e47ec0466f97079e1523258f4c499e5d1d5198e89f731a14cf7037f0e9c6d611", checked := Tryd.checked }
namespace Rows
def none {H : Type} : Left H := { results := [], args := [] }

/- WHAT THE LISTED PACKAGE-LEVEL VARIABLES READ AS WHEN THE CALL BEGINS. Each datum BY PROGRAM (the guide's laid-datum.mjs) off the statement by which the dump's own 'gosem.cut.vars' lays the variable. In a bare row this is a premise. The card (YtmipelgjmmgmnaaDoorCards.lean) ties it to the program's text. -/
def laid_unicode_utf8_acceptRanges {H : Type} : DataW H := .agg [.agg [.lit (.int .u8 128), .lit (.int .u8 191)], .agg [.lit (.int .u8 160), .lit (.int .u8 191)], .agg [.lit (.int .u8 128), .lit (.int .u8 159)], .agg [.lit (.int .u8 144), .lit (.int .u8 191)], .agg [.lit (.int .u8 128), .lit (.int .u8 143)], .agg [.lit (.int .u8 0), .lit (.int .u8 0)], .agg [.lit (.int .u8 0), .lit (.int .u8 0)], .agg [.lit (.int .u8 0), .lit (.int .u8 0)], .agg [.lit (.int .u8 0), .lit (.int .u8 0)], .agg [.lit (.int .u8 0), .lit (.int .u8 0)], .agg [.lit (.int .u8 0), .lit (.int .u8 0)], .agg [.lit (.int .u8 0), .lit (.int .u8 0)], .agg [.lit (.int .u8 0), .lit (.int .u8 0)], .agg [.lit (.int .u8 0), .lit (.int .u8 0)], .agg [.lit (.int .u8 0), .lit (.int .u8 0)], .agg [.lit (.int .u8 0), .lit (.int .u8 0)]]
/-- One of Go's own tables, pinned by name: the form's constant. -/
def laid_unicode_utf8_first : DataW Unit := Go.Pinned.utf8First

/-- 'laws.FnExactPlainSwitch': WHATEVER THE INPUT: true; the input reads as it did. -/
def fnExactPlainSwitchSpec : ChangeSpec := { name := "fnExactPlainSwitch", fn := fun _ => fun
  | [d1, d2, d3] => { results := [.lit (.bool true)], args := [d1, d2, d3] }
  | _ => none }
def fnExactPlainSwitchRow : OpenClaim := { program := "ytmipelgjmmgmnaadoor", sum := "e47ec0466f97079e1523258f4c499e5d1d5198e89f731a14cf7037f0e9c6d611", func := "loop.example/g01153/laws.FnExactPlainSwitch", spec := "fnExactPlainSwitch", inPlace := ["internal/bytealg.IndexByteString", "internal/bytealg.IndexString"], unfollowed := true, recurses := true, named := ["unicode/utf8.first", "unicode/utf8.acceptRanges", "internal/bytealg.MaxLen"], apart := false, laid := [("unicode/utf8.acceptRanges", laid_unicode_utf8_acceptRanges), ("unicode/utf8.first", laid_unicode_utf8_first)] }
def FnExactPlainSwitchSaid : Prop := fnExactPlainSwitchRow.holds Tryd.pinned (OpenSpec.ofChange fnExactPlainSwitchSpec)

/-- ITS FALSE NEIGHBOUR: 'it returns false'. Refute it at one input. -/
def fnExactPlainSwitchWrong : ChangeSpec := { name := "fnExactPlainSwitch", fn := fun _ => fun
  | [d1, d2, d3] => { results := [.lit (.bool false)], args := [d1, d2, d3] }
  | _ => none }
def FnExactPlainSwitchWrongFalsely : Prop := fnExactPlainSwitchRow.holds Tryd.pinned (OpenSpec.ofChange fnExactPlainSwitchWrong)

/-- 'laws.FnExactPlainGate': WHATEVER THE INPUT: true; the input reads as it did. -/
def fnExactPlainGateSpec : ChangeSpec := { name := "fnExactPlainGate", fn := fun _ => fun
  | [d1, d2] => { results := [.lit (.bool true)], args := [d1, d2] }
  | _ => none }
def fnExactPlainGateRow : OpenClaim := { program := "ytmipelgjmmgmnaadoor", sum := "e47ec0466f97079e1523258f4c499e5d1d5198e89f731a14cf7037f0e9c6d611", func := "loop.example/g01153/laws.FnExactPlainGate", spec := "fnExactPlainGate", inPlace := ["internal/bytealg.IndexByteString", "internal/bytealg.IndexString"], unfollowed := true, recurses := true, named := ["unicode/utf8.first", "unicode/utf8.acceptRanges", "internal/bytealg.MaxLen"], apart := false, laid := [("unicode/utf8.acceptRanges", laid_unicode_utf8_acceptRanges), ("unicode/utf8.first", laid_unicode_utf8_first)] }
def FnExactPlainGateSaid : Prop := fnExactPlainGateRow.holds Tryd.pinned (OpenSpec.ofChange fnExactPlainGateSpec)

/-- ITS FALSE NEIGHBOUR: 'it returns false'. Refute it at one input. -/
def fnExactPlainGateWrong : ChangeSpec := { name := "fnExactPlainGate", fn := fun _ => fun
  | [d1, d2] => { results := [.lit (.bool false)], args := [d1, d2] }
  | _ => none }
def FnExactPlainGateWrongFalsely : Prop := fnExactPlainGateRow.holds Tryd.pinned (OpenSpec.ofChange fnExactPlainGateWrong)

/-- 'laws.FnExactGateWave': WHATEVER THE INPUT: true; the input reads as it did. -/
def fnExactGateWaveSpec : ChangeSpec := { name := "fnExactGateWave", fn := fun _ => fun
  | [d1, d2] => { results := [.lit (.bool true)], args := [d1, d2] }
  | _ => none }
def fnExactGateWaveRow : OpenClaim := { program := "ytmipelgjmmgmnaadoor", sum := "e47ec0466f97079e1523258f4c499e5d1d5198e89f731a14cf7037f0e9c6d611", func := "loop.example/g01153/laws.FnExactGateWave", spec := "fnExactGateWave", inPlace := ["internal/bytealg.IndexByteString", "internal/bytealg.IndexString"], unfollowed := true, recurses := true, named := ["unicode/utf8.first", "unicode/utf8.acceptRanges", "internal/bytealg.MaxLen"], apart := false, laid := [("unicode/utf8.acceptRanges", laid_unicode_utf8_acceptRanges), ("unicode/utf8.first", laid_unicode_utf8_first)] }
def FnExactGateWaveSaid : Prop := fnExactGateWaveRow.holds Tryd.pinned (OpenSpec.ofChange fnExactGateWaveSpec)

/-- ITS FALSE NEIGHBOUR: 'it returns false'. Refute it at one input. -/
def fnExactGateWaveWrong : ChangeSpec := { name := "fnExactGateWave", fn := fun _ => fun
  | [d1, d2] => { results := [.lit (.bool false)], args := [d1, d2] }
  | _ => none }
def FnExactGateWaveWrongFalsely : Prop := fnExactGateWaveRow.holds Tryd.pinned (OpenSpec.ofChange fnExactGateWaveWrong)

/-- 'laws.FnExactToggleWave': WHATEVER THE INPUT: true; the input reads as it did. -/
def fnExactToggleWaveSpec : ChangeSpec := { name := "fnExactToggleWave", fn := fun _ => fun
  | [d1, d2] => { results := [.lit (.bool true)], args := [d1, d2] }
  | _ => none }
def fnExactToggleWaveRow : OpenClaim := { program := "ytmipelgjmmgmnaadoor", sum := "e47ec0466f97079e1523258f4c499e5d1d5198e89f731a14cf7037f0e9c6d611", func := "loop.example/g01153/laws.FnExactToggleWave", spec := "fnExactToggleWave", inPlace := ["internal/bytealg.IndexByteString", "internal/bytealg.IndexString"], unfollowed := true, recurses := true, named := ["unicode/utf8.first", "unicode/utf8.acceptRanges", "internal/bytealg.MaxLen"], apart := false, laid := [("unicode/utf8.acceptRanges", laid_unicode_utf8_acceptRanges), ("unicode/utf8.first", laid_unicode_utf8_first)] }
def FnExactToggleWaveSaid : Prop := fnExactToggleWaveRow.holds Tryd.pinned (OpenSpec.ofChange fnExactToggleWaveSpec)

/-- ITS FALSE NEIGHBOUR: 'it returns false'. Refute it at one input. -/
def fnExactToggleWaveWrong : ChangeSpec := { name := "fnExactToggleWave", fn := fun _ => fun
  | [d1, d2] => { results := [.lit (.bool false)], args := [d1, d2] }
  | _ => none }
def FnExactToggleWaveWrongFalsely : Prop := fnExactToggleWaveRow.holds Tryd.pinned (OpenSpec.ofChange fnExactToggleWaveWrong)

/-- 'laws.FnExactDivideWave': WHATEVER THE INPUT: true; the input reads as it did. -/
def fnExactDivideWaveSpec : ChangeSpec := { name := "fnExactDivideWave", fn := fun _ => fun
  | [d1, d2] => { results := [.lit (.bool true)], args := [d1, d2] }
  | _ => none }
def fnExactDivideWaveRow : OpenClaim := { program := "ytmipelgjmmgmnaadoor", sum := "e47ec0466f97079e1523258f4c499e5d1d5198e89f731a14cf7037f0e9c6d611", func := "loop.example/g01153/laws.FnExactDivideWave", spec := "fnExactDivideWave", inPlace := ["internal/bytealg.IndexByteString", "internal/bytealg.IndexString"], unfollowed := true, recurses := true, named := ["unicode/utf8.first", "unicode/utf8.acceptRanges", "internal/bytealg.MaxLen"], apart := false, laid := [("unicode/utf8.acceptRanges", laid_unicode_utf8_acceptRanges), ("unicode/utf8.first", laid_unicode_utf8_first)] }
def FnExactDivideWaveSaid : Prop := fnExactDivideWaveRow.holds Tryd.pinned (OpenSpec.ofChange fnExactDivideWaveSpec)

/-- ITS FALSE NEIGHBOUR: 'it returns false'. Refute it at one input. -/
def fnExactDivideWaveWrong : ChangeSpec := { name := "fnExactDivideWave", fn := fun _ => fun
  | [d1, d2] => { results := [.lit (.bool false)], args := [d1, d2] }
  | _ => none }
def FnExactDivideWaveWrongFalsely : Prop := fnExactDivideWaveRow.holds Tryd.pinned (OpenSpec.ofChange fnExactDivideWaveWrong)

/-- 'laws.FnExactDivideChain': WHATEVER THE INPUT: true; the input reads as it did. -/
def fnExactDivideChainSpec : ChangeSpec := { name := "fnExactDivideChain", fn := fun _ => fun
  | [d1, d2] => { results := [.lit (.bool true)], args := [d1, d2] }
  | _ => none }
def fnExactDivideChainRow : OpenClaim := { program := "ytmipelgjmmgmnaadoor", sum := "e47ec0466f97079e1523258f4c499e5d1d5198e89f731a14cf7037f0e9c6d611", func := "loop.example/g01153/laws.FnExactDivideChain", spec := "fnExactDivideChain", inPlace := ["internal/bytealg.IndexByteString", "internal/bytealg.IndexString"], unfollowed := true, recurses := true, named := ["unicode/utf8.first", "unicode/utf8.acceptRanges", "internal/bytealg.MaxLen"], apart := false, laid := [("unicode/utf8.acceptRanges", laid_unicode_utf8_acceptRanges), ("unicode/utf8.first", laid_unicode_utf8_first)] }
def FnExactDivideChainSaid : Prop := fnExactDivideChainRow.holds Tryd.pinned (OpenSpec.ofChange fnExactDivideChainSpec)

/-- ITS FALSE NEIGHBOUR: 'it returns false'. Refute it at one input. -/
def fnExactDivideChainWrong : ChangeSpec := { name := "fnExactDivideChain", fn := fun _ => fun
  | [d1, d2] => { results := [.lit (.bool false)], args := [d1, d2] }
  | _ => none }
def FnExactDivideChainWrongFalsely : Prop := fnExactDivideChainRow.holds Tryd.pinned (OpenSpec.ofChange fnExactDivideChainWrong)

/-- 'laws.FnExactIsEvenPattern': WHATEVER THE INPUT: true; the input reads as it did. -/
def fnExactIsEvenPatternSpec : ChangeSpec := { name := "fnExactIsEvenPattern", fn := fun _ => fun
  | [d] => { results := [.lit (.bool true)], args := [d] }
  | _ => none }
def fnExactIsEvenPatternRow : OpenClaim := { program := "ytmipelgjmmgmnaadoor", sum := "e47ec0466f97079e1523258f4c499e5d1d5198e89f731a14cf7037f0e9c6d611", func := "loop.example/g01153/laws.FnExactIsEvenPattern", spec := "fnExactIsEvenPattern", inPlace := ["internal/bytealg.IndexByteString", "internal/bytealg.IndexString", "internal/bytealg.CountString"], named := ["unicode/utf8.first", "unicode/utf8.acceptRanges", "internal/bytealg.MaxLen"], apart := false, laid := [("unicode/utf8.acceptRanges", laid_unicode_utf8_acceptRanges), ("unicode/utf8.first", laid_unicode_utf8_first)] }
def FnExactIsEvenPatternSaid : Prop := fnExactIsEvenPatternRow.holds Tryd.pinned (OpenSpec.ofChange fnExactIsEvenPatternSpec)

/-- ITS FALSE NEIGHBOUR: 'it returns false'. Refute it at one input. -/
def fnExactIsEvenPatternWrong : ChangeSpec := { name := "fnExactIsEvenPattern", fn := fun _ => fun
  | [d] => { results := [.lit (.bool false)], args := [d] }
  | _ => none }
def FnExactIsEvenPatternWrongFalsely : Prop := fnExactIsEvenPatternRow.holds Tryd.pinned (OpenSpec.ofChange fnExactIsEvenPatternWrong)

/-- 'laws.FnExactMostUneven': WHATEVER THE INPUT: true; the input reads as it did. -/
def fnExactMostUnevenSpec : ChangeSpec := { name := "fnExactMostUneven", fn := fun _ => fun
  | [d] => { results := [.lit (.bool true)], args := [d] }
  | _ => none }
def fnExactMostUnevenRow : OpenClaim := { program := "ytmipelgjmmgmnaadoor", sum := "e47ec0466f97079e1523258f4c499e5d1d5198e89f731a14cf7037f0e9c6d611", func := "loop.example/g01153/laws.FnExactMostUneven", spec := "fnExactMostUneven", inPlace := ["internal/bytealg.IndexByteString", "internal/bytealg.IndexString", "internal/bytealg.CountString"], named := ["unicode/utf8.first", "unicode/utf8.acceptRanges", "internal/bytealg.MaxLen"], apart := false, laid := [("unicode/utf8.acceptRanges", laid_unicode_utf8_acceptRanges), ("unicode/utf8.first", laid_unicode_utf8_first)] }
def FnExactMostUnevenSaid : Prop := fnExactMostUnevenRow.holds Tryd.pinned (OpenSpec.ofChange fnExactMostUnevenSpec)

/-- ITS FALSE NEIGHBOUR: 'it returns false'. Refute it at one input. -/
def fnExactMostUnevenWrong : ChangeSpec := { name := "fnExactMostUneven", fn := fun _ => fun
  | [d] => { results := [.lit (.bool false)], args := [d] }
  | _ => none }
def FnExactMostUnevenWrongFalsely : Prop := fnExactMostUnevenRow.holds Tryd.pinned (OpenSpec.ofChange fnExactMostUnevenWrong)

/-- 'laws.FnExactIsOrder': WHATEVER THE INPUT: true; the input reads as it did. -/
def fnExactIsOrderSpec : ChangeSpec := { name := "fnExactIsOrder", fn := fun _ => fun
  | [d1, d2] => { results := [.lit (.bool true)], args := [d1, d2] }
  | _ => none }
def fnExactIsOrderRow : OpenClaim := { program := "ytmipelgjmmgmnaadoor", sum := "e47ec0466f97079e1523258f4c499e5d1d5198e89f731a14cf7037f0e9c6d611", func := "loop.example/g01153/laws.FnExactIsOrder", spec := "fnExactIsOrder", inPlace := ["internal/bytealg.IndexByteString", "internal/bytealg.IndexString", "internal/abi.NoEscape", "internal/bytealg.MakeNoZero"], named := ["unicode/utf8.first", "unicode/utf8.acceptRanges", "internal/bytealg.MaxLen"], apart := false, laid := [("unicode/utf8.acceptRanges", laid_unicode_utf8_acceptRanges), ("unicode/utf8.first", laid_unicode_utf8_first)] }
def FnExactIsOrderSaid : Prop := fnExactIsOrderRow.holds Tryd.pinned (OpenSpec.ofChange fnExactIsOrderSpec)

/-- ITS FALSE NEIGHBOUR: 'it returns false'. Refute it at one input. -/
def fnExactIsOrderWrong : ChangeSpec := { name := "fnExactIsOrder", fn := fun _ => fun
  | [d1, d2] => { results := [.lit (.bool false)], args := [d1, d2] }
  | _ => none }
def FnExactIsOrderWrongFalsely : Prop := fnExactIsOrderRow.holds Tryd.pinned (OpenSpec.ofChange fnExactIsOrderWrong)

/-- 'laws.FnExactRunLink': WHATEVER THE INPUT: true; the input reads as it did. -/
def fnExactRunLinkSpec : ChangeSpec := { name := "fnExactRunLink", fn := fun _ => fun
  | [d1, d2] => { results := [.lit (.bool true)], args := [d1, d2] }
  | _ => none }
def fnExactRunLinkRow : OpenClaim := { program := "ytmipelgjmmgmnaadoor", sum := "e47ec0466f97079e1523258f4c499e5d1d5198e89f731a14cf7037f0e9c6d611", func := "loop.example/g01153/laws.FnExactRunLink", spec := "fnExactRunLink", inPlace := ["internal/bytealg.IndexByteString", "internal/bytealg.IndexString"], named := ["unicode/utf8.first", "unicode/utf8.acceptRanges", "internal/bytealg.MaxLen"], apart := false, laid := [("unicode/utf8.acceptRanges", laid_unicode_utf8_acceptRanges), ("unicode/utf8.first", laid_unicode_utf8_first)] }
def FnExactRunLinkSaid : Prop := fnExactRunLinkRow.holds Tryd.pinned (OpenSpec.ofChange fnExactRunLinkSpec)

/-- ITS FALSE NEIGHBOUR: 'it returns false'. Refute it at one input. -/
def fnExactRunLinkWrong : ChangeSpec := { name := "fnExactRunLink", fn := fun _ => fun
  | [d1, d2] => { results := [.lit (.bool false)], args := [d1, d2] }
  | _ => none }
def FnExactRunLinkWrongFalsely : Prop := fnExactRunLinkRow.holds Tryd.pinned (OpenSpec.ofChange fnExactRunLinkWrong)

/-- 'laws.FnExactRunQueue': WHATEVER THE INPUT: true; the input reads as it did. -/
def fnExactRunQueueSpec : ChangeSpec := { name := "fnExactRunQueue", fn := fun _ => fun
  | [d1, d2] => { results := [.lit (.bool true)], args := [d1, d2] }
  | _ => none }
def fnExactRunQueueRow : OpenClaim := { program := "ytmipelgjmmgmnaadoor", sum := "e47ec0466f97079e1523258f4c499e5d1d5198e89f731a14cf7037f0e9c6d611", func := "loop.example/g01153/laws.FnExactRunQueue", spec := "fnExactRunQueue", inPlace := ["internal/bytealg.IndexByteString", "internal/bytealg.IndexString"], named := ["unicode/utf8.first", "unicode/utf8.acceptRanges", "internal/bytealg.MaxLen"], apart := false, laid := [("unicode/utf8.acceptRanges", laid_unicode_utf8_acceptRanges), ("unicode/utf8.first", laid_unicode_utf8_first)] }
def FnExactRunQueueSaid : Prop := fnExactRunQueueRow.holds Tryd.pinned (OpenSpec.ofChange fnExactRunQueueSpec)

/-- ITS FALSE NEIGHBOUR: 'it returns false'. Refute it at one input. -/
def fnExactRunQueueWrong : ChangeSpec := { name := "fnExactRunQueue", fn := fun _ => fun
  | [d1, d2] => { results := [.lit (.bool false)], args := [d1, d2] }
  | _ => none }
def FnExactRunQueueWrongFalsely : Prop := fnExactRunQueueRow.holds Tryd.pinned (OpenSpec.ofChange fnExactRunQueueWrong)

/-- 'laws.FnDivided': WHATEVER THE INPUT: true; the input reads as it did. -/
def fnDividedSpec : ChangeSpec := { name := "fnDivided", fn := fun _ => fun
  | [d1, d2] => { results := [.lit (.bool true)], args := [d1, d2] }
  | _ => none }
def fnDividedRow : OpenClaim := { program := "ytmipelgjmmgmnaadoor", sum := "e47ec0466f97079e1523258f4c499e5d1d5198e89f731a14cf7037f0e9c6d611", func := "loop.example/g01153/laws.FnDivided", spec := "fnDivided", inPlace := ["internal/bytealg.IndexByteString", "internal/bytealg.IndexString"], unfollowed := true, recurses := true, named := ["unicode/utf8.first", "unicode/utf8.acceptRanges", "internal/bytealg.MaxLen"], apart := false, laid := [("unicode/utf8.acceptRanges", laid_unicode_utf8_acceptRanges), ("unicode/utf8.first", laid_unicode_utf8_first)] }
def FnDividedSaid : Prop := fnDividedRow.holds Tryd.pinned (OpenSpec.ofChange fnDividedSpec)

/-- ITS FALSE NEIGHBOUR: 'it returns false'. Refute it at one input. -/
def fnDividedWrong : ChangeSpec := { name := "fnDivided", fn := fun _ => fun
  | [d1, d2] => { results := [.lit (.bool false)], args := [d1, d2] }
  | _ => none }
def FnDividedWrongFalsely : Prop := fnDividedRow.holds Tryd.pinned (OpenSpec.ofChange fnDividedWrong)

/- THE SECOND FORM. 'bulk': how many values and letters a reading holds, each counted each time it is reached (what is shared counts as often as it is met; a slice's spare places count too). A statement '..UptoSaid' is the law's where the arguments, and the package variables that the reading takes, are together of bulk at most 1048576: NARROWER than '..Said'. Prove '..Said' where nothing that the law and all that it calls make is longer than what came in: it says more and counts as full. Else prove '..UptoSaid'. A law counts once. -/
mutual
def uptoBulk {H : Type} : DataW H → Nat
  | .lit (.string bytes) => bytes.length + 1
  | .lit _ => 1
  | .nil => 1
  | .ptr d => uptoBulk d + 1
  | .slice elems spare => uptoBulkAll elems + uptoBulkAll spare + 1
  | .agg parts => uptoBulkAll parts + 1
  | .iface _ d => uptoBulk d + 1
  | .map entries => uptoBulkEntries entries + 1
  | .held _ => 1
def uptoBulkAll {H : Type} : List (DataW H) → Nat
  | [] => 0
  | d :: r => uptoBulk d + uptoBulkAll r
def uptoBulkEntries {H : Type} : List (Lit × DataW H) → Nat
  | [] => 0
  | x :: r => uptoBulkEntry x + uptoBulkEntries r
def uptoBulkEntry {H : Type} : Lit × DataW H → Nat
  | (.string bytes, d) => bytes.length + uptoBulk d + 1
  | (_, d) => uptoBulk d + 1
 end
def uptoSmall : (H : Type) → List (DataW H) → Bool := fun _ ds => decide (uptoBulkAll ds ≤ 1048576)
def OpenSpec.upto (s : _root_.Go.ChangeSpec) : _root_.Go.OpenSpec := { _root_.Go.OpenSpec.ofChange s with cond := some uptoSmall }

/-- 'laws.FnExactPlainSwitch', WHERE WHAT IT READS IS OF BULK AT MOST 1048576: true; the input reads as it did. -/
def fnExactPlainSwitchUptoRow : OpenClaim := { program := "ytmipelgjmmgmnaadoor", sum := "e47ec0466f97079e1523258f4c499e5d1d5198e89f731a14cf7037f0e9c6d611", func := "loop.example/g01153/laws.FnExactPlainSwitch", spec := "fnExactPlainSwitch", inPlace := ["internal/bytealg.IndexByteString", "internal/bytealg.IndexString"], unfollowed := true, recurses := true, named := ["unicode/utf8.first", "unicode/utf8.acceptRanges", "internal/bytealg.MaxLen"], apart := false, laid := [("unicode/utf8.acceptRanges", laid_unicode_utf8_acceptRanges), ("unicode/utf8.first", laid_unicode_utf8_first)], narrowed := true }
def FnExactPlainSwitchUptoSaid : Prop := fnExactPlainSwitchUptoRow.holds Tryd.pinned (OpenSpec.upto fnExactPlainSwitchSpec)

/-- 'laws.FnExactPlainGate', WHERE WHAT IT READS IS OF BULK AT MOST 1048576: true; the input reads as it did. -/
def fnExactPlainGateUptoRow : OpenClaim := { program := "ytmipelgjmmgmnaadoor", sum := "e47ec0466f97079e1523258f4c499e5d1d5198e89f731a14cf7037f0e9c6d611", func := "loop.example/g01153/laws.FnExactPlainGate", spec := "fnExactPlainGate", inPlace := ["internal/bytealg.IndexByteString", "internal/bytealg.IndexString"], unfollowed := true, recurses := true, named := ["unicode/utf8.first", "unicode/utf8.acceptRanges", "internal/bytealg.MaxLen"], apart := false, laid := [("unicode/utf8.acceptRanges", laid_unicode_utf8_acceptRanges), ("unicode/utf8.first", laid_unicode_utf8_first)], narrowed := true }
def FnExactPlainGateUptoSaid : Prop := fnExactPlainGateUptoRow.holds Tryd.pinned (OpenSpec.upto fnExactPlainGateSpec)

/-- 'laws.FnExactGateWave', WHERE WHAT IT READS IS OF BULK AT MOST 1048576: true; the input reads as it did. -/
def fnExactGateWaveUptoRow : OpenClaim := { program := "ytmipelgjmmgmnaadoor", sum := "e47ec0466f97079e1523258f4c499e5d1d5198e89f731a14cf7037f0e9c6d611", func := "loop.example/g01153/laws.FnExactGateWave", spec := "fnExactGateWave", inPlace := ["internal/bytealg.IndexByteString", "internal/bytealg.IndexString"], unfollowed := true, recurses := true, named := ["unicode/utf8.first", "unicode/utf8.acceptRanges", "internal/bytealg.MaxLen"], apart := false, laid := [("unicode/utf8.acceptRanges", laid_unicode_utf8_acceptRanges), ("unicode/utf8.first", laid_unicode_utf8_first)], narrowed := true }
def FnExactGateWaveUptoSaid : Prop := fnExactGateWaveUptoRow.holds Tryd.pinned (OpenSpec.upto fnExactGateWaveSpec)

/-- 'laws.FnExactToggleWave', WHERE WHAT IT READS IS OF BULK AT MOST 1048576: true; the input reads as it did. -/
def fnExactToggleWaveUptoRow : OpenClaim := { program := "ytmipelgjmmgmnaadoor", sum := "e47ec0466f97079e1523258f4c499e5d1d5198e89f731a14cf7037f0e9c6d611", func := "loop.example/g01153/laws.FnExactToggleWave", spec := "fnExactToggleWave", inPlace := ["internal/bytealg.IndexByteString", "internal/bytealg.IndexString"], unfollowed := true, recurses := true, named := ["unicode/utf8.first", "unicode/utf8.acceptRanges", "internal/bytealg.MaxLen"], apart := false, laid := [("unicode/utf8.acceptRanges", laid_unicode_utf8_acceptRanges), ("unicode/utf8.first", laid_unicode_utf8_first)], narrowed := true }
def FnExactToggleWaveUptoSaid : Prop := fnExactToggleWaveUptoRow.holds Tryd.pinned (OpenSpec.upto fnExactToggleWaveSpec)

/-- 'laws.FnExactDivideWave', WHERE WHAT IT READS IS OF BULK AT MOST 1048576: true; the input reads as it did. -/
def fnExactDivideWaveUptoRow : OpenClaim := { program := "ytmipelgjmmgmnaadoor", sum := "e47ec0466f97079e1523258f4c499e5d1d5198e89f731a14cf7037f0e9c6d611", func := "loop.example/g01153/laws.FnExactDivideWave", spec := "fnExactDivideWave", inPlace := ["internal/bytealg.IndexByteString", "internal/bytealg.IndexString"], unfollowed := true, recurses := true, named := ["unicode/utf8.first", "unicode/utf8.acceptRanges", "internal/bytealg.MaxLen"], apart := false, laid := [("unicode/utf8.acceptRanges", laid_unicode_utf8_acceptRanges), ("unicode/utf8.first", laid_unicode_utf8_first)], narrowed := true }
def FnExactDivideWaveUptoSaid : Prop := fnExactDivideWaveUptoRow.holds Tryd.pinned (OpenSpec.upto fnExactDivideWaveSpec)

/-- 'laws.FnExactDivideChain', WHERE WHAT IT READS IS OF BULK AT MOST 1048576: true; the input reads as it did. -/
def fnExactDivideChainUptoRow : OpenClaim := { program := "ytmipelgjmmgmnaadoor", sum := "e47ec0466f97079e1523258f4c499e5d1d5198e89f731a14cf7037f0e9c6d611", func := "loop.example/g01153/laws.FnExactDivideChain", spec := "fnExactDivideChain", inPlace := ["internal/bytealg.IndexByteString", "internal/bytealg.IndexString"], unfollowed := true, recurses := true, named := ["unicode/utf8.first", "unicode/utf8.acceptRanges", "internal/bytealg.MaxLen"], apart := false, laid := [("unicode/utf8.acceptRanges", laid_unicode_utf8_acceptRanges), ("unicode/utf8.first", laid_unicode_utf8_first)], narrowed := true }
def FnExactDivideChainUptoSaid : Prop := fnExactDivideChainUptoRow.holds Tryd.pinned (OpenSpec.upto fnExactDivideChainSpec)

/-- 'laws.FnExactIsEvenPattern', WHERE WHAT IT READS IS OF BULK AT MOST 1048576: true; the input reads as it did. -/
def fnExactIsEvenPatternUptoRow : OpenClaim := { program := "ytmipelgjmmgmnaadoor", sum := "e47ec0466f97079e1523258f4c499e5d1d5198e89f731a14cf7037f0e9c6d611", func := "loop.example/g01153/laws.FnExactIsEvenPattern", spec := "fnExactIsEvenPattern", inPlace := ["internal/bytealg.IndexByteString", "internal/bytealg.IndexString", "internal/bytealg.CountString"], named := ["unicode/utf8.first", "unicode/utf8.acceptRanges", "internal/bytealg.MaxLen"], apart := false, laid := [("unicode/utf8.acceptRanges", laid_unicode_utf8_acceptRanges), ("unicode/utf8.first", laid_unicode_utf8_first)], narrowed := true }
def FnExactIsEvenPatternUptoSaid : Prop := fnExactIsEvenPatternUptoRow.holds Tryd.pinned (OpenSpec.upto fnExactIsEvenPatternSpec)

/-- 'laws.FnExactMostUneven', WHERE WHAT IT READS IS OF BULK AT MOST 1048576: true; the input reads as it did. -/
def fnExactMostUnevenUptoRow : OpenClaim := { program := "ytmipelgjmmgmnaadoor", sum := "e47ec0466f97079e1523258f4c499e5d1d5198e89f731a14cf7037f0e9c6d611", func := "loop.example/g01153/laws.FnExactMostUneven", spec := "fnExactMostUneven", inPlace := ["internal/bytealg.IndexByteString", "internal/bytealg.IndexString", "internal/bytealg.CountString"], named := ["unicode/utf8.first", "unicode/utf8.acceptRanges", "internal/bytealg.MaxLen"], apart := false, laid := [("unicode/utf8.acceptRanges", laid_unicode_utf8_acceptRanges), ("unicode/utf8.first", laid_unicode_utf8_first)], narrowed := true }
def FnExactMostUnevenUptoSaid : Prop := fnExactMostUnevenUptoRow.holds Tryd.pinned (OpenSpec.upto fnExactMostUnevenSpec)

/-- 'laws.FnExactIsOrder', WHERE WHAT IT READS IS OF BULK AT MOST 1048576: true; the input reads as it did. -/
def fnExactIsOrderUptoRow : OpenClaim := { program := "ytmipelgjmmgmnaadoor", sum := "e47ec0466f97079e1523258f4c499e5d1d5198e89f731a14cf7037f0e9c6d611", func := "loop.example/g01153/laws.FnExactIsOrder", spec := "fnExactIsOrder", inPlace := ["internal/bytealg.IndexByteString", "internal/bytealg.IndexString", "internal/abi.NoEscape", "internal/bytealg.MakeNoZero"], named := ["unicode/utf8.first", "unicode/utf8.acceptRanges", "internal/bytealg.MaxLen"], apart := false, laid := [("unicode/utf8.acceptRanges", laid_unicode_utf8_acceptRanges), ("unicode/utf8.first", laid_unicode_utf8_first)], narrowed := true }
def FnExactIsOrderUptoSaid : Prop := fnExactIsOrderUptoRow.holds Tryd.pinned (OpenSpec.upto fnExactIsOrderSpec)

/-- 'laws.FnExactRunLink', WHERE WHAT IT READS IS OF BULK AT MOST 1048576: true; the input reads as it did. -/
def fnExactRunLinkUptoRow : OpenClaim := { program := "ytmipelgjmmgmnaadoor", sum := "e47ec0466f97079e1523258f4c499e5d1d5198e89f731a14cf7037f0e9c6d611", func := "loop.example/g01153/laws.FnExactRunLink", spec := "fnExactRunLink", inPlace := ["internal/bytealg.IndexByteString", "internal/bytealg.IndexString"], named := ["unicode/utf8.first", "unicode/utf8.acceptRanges", "internal/bytealg.MaxLen"], apart := false, laid := [("unicode/utf8.acceptRanges", laid_unicode_utf8_acceptRanges), ("unicode/utf8.first", laid_unicode_utf8_first)], narrowed := true }
def FnExactRunLinkUptoSaid : Prop := fnExactRunLinkUptoRow.holds Tryd.pinned (OpenSpec.upto fnExactRunLinkSpec)

/-- 'laws.FnExactRunQueue', WHERE WHAT IT READS IS OF BULK AT MOST 1048576: true; the input reads as it did. -/
def fnExactRunQueueUptoRow : OpenClaim := { program := "ytmipelgjmmgmnaadoor", sum := "e47ec0466f97079e1523258f4c499e5d1d5198e89f731a14cf7037f0e9c6d611", func := "loop.example/g01153/laws.FnExactRunQueue", spec := "fnExactRunQueue", inPlace := ["internal/bytealg.IndexByteString", "internal/bytealg.IndexString"], named := ["unicode/utf8.first", "unicode/utf8.acceptRanges", "internal/bytealg.MaxLen"], apart := false, laid := [("unicode/utf8.acceptRanges", laid_unicode_utf8_acceptRanges), ("unicode/utf8.first", laid_unicode_utf8_first)], narrowed := true }
def FnExactRunQueueUptoSaid : Prop := fnExactRunQueueUptoRow.holds Tryd.pinned (OpenSpec.upto fnExactRunQueueSpec)

/-- 'laws.FnDivided', WHERE WHAT IT READS IS OF BULK AT MOST 1048576: true; the input reads as it did. -/
def fnDividedUptoRow : OpenClaim := { program := "ytmipelgjmmgmnaadoor", sum := "e47ec0466f97079e1523258f4c499e5d1d5198e89f731a14cf7037f0e9c6d611", func := "loop.example/g01153/laws.FnDivided", spec := "fnDivided", inPlace := ["internal/bytealg.IndexByteString", "internal/bytealg.IndexString"], unfollowed := true, recurses := true, named := ["unicode/utf8.first", "unicode/utf8.acceptRanges", "internal/bytealg.MaxLen"], apart := false, laid := [("unicode/utf8.acceptRanges", laid_unicode_utf8_acceptRanges), ("unicode/utf8.first", laid_unicode_utf8_first)], narrowed := true }
def FnDividedUptoSaid : Prop := fnDividedUptoRow.holds Tryd.pinned (OpenSpec.upto fnDividedSpec)

end Rows
end Go.Proofs.YtmipelgjmmgmnaaDoor
