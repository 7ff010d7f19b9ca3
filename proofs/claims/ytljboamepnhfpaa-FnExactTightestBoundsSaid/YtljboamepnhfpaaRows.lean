/-
  No cell of these rows narrows 'for every input' (looked for: loops, veiled, ifaces, maps, wideKeys, modest, calm, conditions, laid).
  DERIVED. THE GIVEN ROWS OF THIS SEAT. 10 by the template 'for every input the law returns true; each argument reads behind the call as it read before'; 0 by the template 'total and deterministic' (their statements: YtljboamepnhfpaaTotals.lean).
  GIVEN WITH THE SEED: the statements are not yours to turn. If you find one false, say at which input.
  Laid BY PROGRAM, IN A SANDBOX (cutbox-rows.mjs): the forced cells as the released guide's own fill.sh prints them over the translation e9098600e4bf55d6… (all of the seat's roots in one cut). By AI agents, Wed Nov 11 2026. No macro, syntax, notation, axiom, sorry.
-/
import Derived.Test.YtljboamepnhfpaaChecked
import GoSem.Claim
import GoSem.ClaimJoined
import GoSem.ClaimMapViews
import Derived.JoinedTies
import Derived.KernelRfl
namespace Go.Proofs.Ytljboamepnhfpaa
/- THE CELL 'sum', in the pinned program and in every row, IS THE sha256 OF THE DUMP (.gsa) THAT YtljboamepnhfpaaProg.lean LOADS. Nothing in Lean hashes anything: it is a label: what it is worth is what the hold of that sum in a sandbox is worth. -/
noncomputable def Try.pinned : Pinned := { name := "ytljboamepnhfpaa", sum := "e9098600e4bf55d6a594358753d91c22397542a3f622570ebbf70108303cc052", checked := Try.checked }
namespace Rows
def none {H : Type} : Left H := { results := [], args := [] }

/-- 'laws.FnExactValidDiagram': WHATEVER THE INPUT: true; the input reads as it did. -/
def fnExactValidDiagramSpec : ChangeSpec := { name := "fnExactValidDiagram", fn := fun _ => fun
  | [d] => { results := [.lit (.bool true)], args := [d] }
  | _ => none }
def fnExactValidDiagramRow : OpenClaim := { program := "ytljboamepnhfpaa", sum := "e9098600e4bf55d6a594358753d91c22397542a3f622570ebbf70108303cc052", func := "loop.example/g01153/laws.FnExactValidDiagram", spec := "fnExactValidDiagram", unfollowed := true, recurses := true, apart := false }
def FnExactValidDiagramSaid : Prop := fnExactValidDiagramRow.holds Try.pinned (OpenSpec.ofChange fnExactValidDiagramSpec)

/-- ITS FALSE NEIGHBOUR: 'it returns false'. Refute it at one input. -/
def fnExactValidDiagramWrong : ChangeSpec := { name := "fnExactValidDiagram", fn := fun _ => fun
  | [d] => { results := [.lit (.bool false)], args := [d] }
  | _ => none }
def FnExactValidDiagramWrongFalsely : Prop := fnExactValidDiagramRow.holds Try.pinned (OpenSpec.ofChange fnExactValidDiagramWrong)

/-- 'laws.FnExactIsTiming': WHATEVER THE INPUT: true; the input reads as it did. -/
def fnExactIsTimingSpec : ChangeSpec := { name := "fnExactIsTiming", fn := fun _ => fun
  | [d1, d2] => { results := [.lit (.bool true)], args := [d1, d2] }
  | _ => none }
def fnExactIsTimingRow : OpenClaim := { program := "ytljboamepnhfpaa", sum := "e9098600e4bf55d6a594358753d91c22397542a3f622570ebbf70108303cc052", func := "loop.example/g01153/laws.FnExactIsTiming", spec := "fnExactIsTiming", unfollowed := true, recurses := true, apart := false }
def FnExactIsTimingSaid : Prop := fnExactIsTimingRow.holds Try.pinned (OpenSpec.ofChange fnExactIsTimingSpec)

/-- ITS FALSE NEIGHBOUR: 'it returns false'. Refute it at one input. -/
def fnExactIsTimingWrong : ChangeSpec := { name := "fnExactIsTiming", fn := fun _ => fun
  | [d1, d2] => { results := [.lit (.bool false)], args := [d1, d2] }
  | _ => none }
def FnExactIsTimingWrongFalsely : Prop := fnExactIsTimingRow.holds Try.pinned (OpenSpec.ofChange fnExactIsTimingWrong)

/-- 'laws.FnExactFallingRing': WHATEVER THE INPUT: true; the input reads as it did. -/
def fnExactFallingRingSpec : ChangeSpec := { name := "fnExactFallingRing", fn := fun _ => fun
  | [d] => { results := [.lit (.bool true)], args := [d] }
  | _ => none }
def fnExactFallingRingRow : OpenClaim := { program := "ytljboamepnhfpaa", sum := "e9098600e4bf55d6a594358753d91c22397542a3f622570ebbf70108303cc052", func := "loop.example/g01153/laws.FnExactFallingRing", spec := "fnExactFallingRing", unfollowed := true, recurses := true, apart := false }
def FnExactFallingRingSaid : Prop := fnExactFallingRingRow.holds Try.pinned (OpenSpec.ofChange fnExactFallingRingSpec)

/-- ITS FALSE NEIGHBOUR: 'it returns false'. Refute it at one input. -/
def fnExactFallingRingWrong : ChangeSpec := { name := "fnExactFallingRing", fn := fun _ => fun
  | [d] => { results := [.lit (.bool false)], args := [d] }
  | _ => none }
def FnExactFallingRingWrongFalsely : Prop := fnExactFallingRingRow.holds Try.pinned (OpenSpec.ofChange fnExactFallingRingWrong)

/-- 'laws.FnExactFollowsFrom': WHATEVER THE INPUT: true; the input reads as it did. -/
def fnExactFollowsFromSpec : ChangeSpec := { name := "fnExactFollowsFrom", fn := fun _ => fun
  | [d1, d2] => { results := [.lit (.bool true)], args := [d1, d2] }
  | _ => none }
def fnExactFollowsFromRow : OpenClaim := { program := "ytljboamepnhfpaa", sum := "e9098600e4bf55d6a594358753d91c22397542a3f622570ebbf70108303cc052", func := "loop.example/g01153/laws.FnExactFollowsFrom", spec := "fnExactFollowsFrom", unfollowed := true, recurses := true, apart := false }
def FnExactFollowsFromSaid : Prop := fnExactFollowsFromRow.holds Try.pinned (OpenSpec.ofChange fnExactFollowsFromSpec)

/-- ITS FALSE NEIGHBOUR: 'it returns false'. Refute it at one input. -/
def fnExactFollowsFromWrong : ChangeSpec := { name := "fnExactFollowsFrom", fn := fun _ => fun
  | [d1, d2] => { results := [.lit (.bool false)], args := [d1, d2] }
  | _ => none }
def FnExactFollowsFromWrongFalsely : Prop := fnExactFollowsFromRow.holds Try.pinned (OpenSpec.ofChange fnExactFollowsFromWrong)

/-- 'laws.FnExactGapOf': WHATEVER THE INPUT: true; the input reads as it did. -/
def fnExactGapOfSpec : ChangeSpec := { name := "fnExactGapOf", fn := fun _ => fun
  | [d1, d2, d3] => { results := [.lit (.bool true)], args := [d1, d2, d3] }
  | _ => none }
def fnExactGapOfRow : OpenClaim := { program := "ytljboamepnhfpaa", sum := "e9098600e4bf55d6a594358753d91c22397542a3f622570ebbf70108303cc052", func := "loop.example/g01153/laws.FnExactGapOf", spec := "fnExactGapOf", unfollowed := true, recurses := true, apart := false }
def FnExactGapOfSaid : Prop := fnExactGapOfRow.holds Try.pinned (OpenSpec.ofChange fnExactGapOfSpec)

/-- ITS FALSE NEIGHBOUR: 'it returns false'. Refute it at one input. -/
def fnExactGapOfWrong : ChangeSpec := { name := "fnExactGapOf", fn := fun _ => fun
  | [d1, d2, d3] => { results := [.lit (.bool false)], args := [d1, d2, d3] }
  | _ => none }
def FnExactGapOfWrongFalsely : Prop := fnExactGapOfRow.holds Try.pinned (OpenSpec.ofChange fnExactGapOfWrong)

/-- 'laws.FnExactRoomOf': WHATEVER THE INPUT: true; the input reads as it did. -/
def fnExactRoomOfSpec : ChangeSpec := { name := "fnExactRoomOf", fn := fun _ => fun
  | [d1, d2] => { results := [.lit (.bool true)], args := [d1, d2] }
  | _ => none }
def fnExactRoomOfRow : OpenClaim := { program := "ytljboamepnhfpaa", sum := "e9098600e4bf55d6a594358753d91c22397542a3f622570ebbf70108303cc052", func := "loop.example/g01153/laws.FnExactRoomOf", spec := "fnExactRoomOf", unfollowed := true, recurses := true, apart := false }
def FnExactRoomOfSaid : Prop := fnExactRoomOfRow.holds Try.pinned (OpenSpec.ofChange fnExactRoomOfSpec)

/-- ITS FALSE NEIGHBOUR: 'it returns false'. Refute it at one input. -/
def fnExactRoomOfWrong : ChangeSpec := { name := "fnExactRoomOf", fn := fun _ => fun
  | [d1, d2] => { results := [.lit (.bool false)], args := [d1, d2] }
  | _ => none }
def FnExactRoomOfWrongFalsely : Prop := fnExactRoomOfRow.holds Try.pinned (OpenSpec.ofChange fnExactRoomOfWrong)

/-- 'laws.FnExactLatestTimes': WHATEVER THE INPUT: true; the input reads as it did. -/
def fnExactLatestTimesSpec : ChangeSpec := { name := "fnExactLatestTimes", fn := fun _ => fun
  | [d1, d2] => { results := [.lit (.bool true)], args := [d1, d2] }
  | _ => none }
def fnExactLatestTimesRow : OpenClaim := { program := "ytljboamepnhfpaa", sum := "e9098600e4bf55d6a594358753d91c22397542a3f622570ebbf70108303cc052", func := "loop.example/g01153/laws.FnExactLatestTimes", spec := "fnExactLatestTimes", unfollowed := true, recurses := true, apart := false }
def FnExactLatestTimesSaid : Prop := fnExactLatestTimesRow.holds Try.pinned (OpenSpec.ofChange fnExactLatestTimesSpec)

/-- ITS FALSE NEIGHBOUR: 'it returns false'. Refute it at one input. -/
def fnExactLatestTimesWrong : ChangeSpec := { name := "fnExactLatestTimes", fn := fun _ => fun
  | [d1, d2] => { results := [.lit (.bool false)], args := [d1, d2] }
  | _ => none }
def FnExactLatestTimesWrongFalsely : Prop := fnExactLatestTimesRow.holds Try.pinned (OpenSpec.ofChange fnExactLatestTimesWrong)

/-- 'laws.FnExactTightestBounds': WHATEVER THE INPUT: true; the input reads as it did. -/
def fnExactTightestBoundsSpec : ChangeSpec := { name := "fnExactTightestBounds", fn := fun _ => fun
  | [d] => { results := [.lit (.bool true)], args := [d] }
  | _ => none }
def fnExactTightestBoundsRow : OpenClaim := { program := "ytljboamepnhfpaa", sum := "e9098600e4bf55d6a594358753d91c22397542a3f622570ebbf70108303cc052", func := "loop.example/g01153/laws.FnExactTightestBounds", spec := "fnExactTightestBounds", unfollowed := true, recurses := true, apart := false }
def FnExactTightestBoundsSaid : Prop := fnExactTightestBoundsRow.holds Try.pinned (OpenSpec.ofChange fnExactTightestBoundsSpec)

/-- ITS FALSE NEIGHBOUR: 'it returns false'. Refute it at one input. -/
def fnExactTightestBoundsWrong : ChangeSpec := { name := "fnExactTightestBounds", fn := fun _ => fun
  | [d] => { results := [.lit (.bool false)], args := [d] }
  | _ => none }
def FnExactTightestBoundsWrongFalsely : Prop := fnExactTightestBoundsRow.holds Try.pinned (OpenSpec.ofChange fnExactTightestBoundsWrong)

/-- 'laws.FnExactEarliestTimes': WHATEVER THE INPUT: true; the input reads as it did. -/
def fnExactEarliestTimesSpec : ChangeSpec := { name := "fnExactEarliestTimes", fn := fun _ => fun
  | [d1, d2] => { results := [.lit (.bool true)], args := [d1, d2] }
  | _ => none }
def fnExactEarliestTimesRow : OpenClaim := { program := "ytljboamepnhfpaa", sum := "e9098600e4bf55d6a594358753d91c22397542a3f622570ebbf70108303cc052", func := "loop.example/g01153/laws.FnExactEarliestTimes", spec := "fnExactEarliestTimes", unfollowed := true, recurses := true, apart := false }
def FnExactEarliestTimesSaid : Prop := fnExactEarliestTimesRow.holds Try.pinned (OpenSpec.ofChange fnExactEarliestTimesSpec)

/-- ITS FALSE NEIGHBOUR: 'it returns false'. Refute it at one input. -/
def fnExactEarliestTimesWrong : ChangeSpec := { name := "fnExactEarliestTimes", fn := fun _ => fun
  | [d1, d2] => { results := [.lit (.bool false)], args := [d1, d2] }
  | _ => none }
def FnExactEarliestTimesWrongFalsely : Prop := fnExactEarliestTimesRow.holds Try.pinned (OpenSpec.ofChange fnExactEarliestTimesWrong)

/-- 'laws.FnExactNeededBounds': WHATEVER THE INPUT: true; the input reads as it did. -/
def fnExactNeededBoundsSpec : ChangeSpec := { name := "fnExactNeededBounds", fn := fun _ => fun
  | [d] => { results := [.lit (.bool true)], args := [d] }
  | _ => none }
def fnExactNeededBoundsRow : OpenClaim := { program := "ytljboamepnhfpaa", sum := "e9098600e4bf55d6a594358753d91c22397542a3f622570ebbf70108303cc052", func := "loop.example/g01153/laws.FnExactNeededBounds", spec := "fnExactNeededBounds", unfollowed := true, recurses := true, apart := false }
def FnExactNeededBoundsSaid : Prop := fnExactNeededBoundsRow.holds Try.pinned (OpenSpec.ofChange fnExactNeededBoundsSpec)

/-- ITS FALSE NEIGHBOUR: 'it returns false'. Refute it at one input. -/
def fnExactNeededBoundsWrong : ChangeSpec := { name := "fnExactNeededBounds", fn := fun _ => fun
  | [d] => { results := [.lit (.bool false)], args := [d] }
  | _ => none }
def FnExactNeededBoundsWrongFalsely : Prop := fnExactNeededBoundsRow.holds Try.pinned (OpenSpec.ofChange fnExactNeededBoundsWrong)

/- THE SECOND FORM. 'bulk': how many values and letters a reading holds, each counted each time it is reached (what is shared counts as often as it is met; a slice's spare places count too). A statement '..UptoSaid' is the law's where the arguments, and the package variables that the reading takes, are together of bulk at most 1048576: NARROWER than '..Said'. Prove '..Said' where nothing that the law and all that it calls make is longer than what came in: it says more and counts as full. Else prove '..UptoSaid'. A law counts once. -/
mutual
def uptoBulk {H : Type} : DataW H → Nat
  | .lit (.string bytes) => bytes.length + 1
  | .lit _ => 1
  | .nil => 1
  | .ptr d => uptoBulk d + 1
  | .slice elems spare => uptoBulkAll elems + uptoBulkAll spare + 1
  | .agg parts => uptoBulkAll parts + 1
  | .iface _ d => uptoBulk d + 1
  | .map entries => uptoBulkEntries entries + 1
  | .held _ => 1
def uptoBulkAll {H : Type} : List (DataW H) → Nat
  | [] => 0
  | d :: r => uptoBulk d + uptoBulkAll r
def uptoBulkEntries {H : Type} : List (Lit × DataW H) → Nat
  | [] => 0
  | x :: r => uptoBulkEntry x + uptoBulkEntries r
def uptoBulkEntry {H : Type} : Lit × DataW H → Nat
  | (.string bytes, d) => bytes.length + uptoBulk d + 1
  | (_, d) => uptoBulk d + 1
 end
def uptoSmall : (H : Type) → List (DataW H) → Bool := fun _ ds => decide (uptoBulkAll ds ≤ 1048576)
def OpenSpec.upto (s : _root_.Go.ChangeSpec) : _root_.Go.OpenSpec := { _root_.Go.OpenSpec.ofChange s with cond := some uptoSmall }

/-- 'laws.FnExactValidDiagram', WHERE WHAT IT READS IS OF BULK AT MOST 1048576: true; the input reads as it did. -/
def fnExactValidDiagramUptoRow : OpenClaim := { program := "ytljboamepnhfpaa", sum := "e9098600e4bf55d6a594358753d91c22397542a3f622570ebbf70108303cc052", func := "loop.example/g01153/laws.FnExactValidDiagram", spec := "fnExactValidDiagram", unfollowed := true, recurses := true, apart := false, narrowed := true }
def FnExactValidDiagramUptoSaid : Prop := fnExactValidDiagramUptoRow.holds Try.pinned (OpenSpec.upto fnExactValidDiagramSpec)

/-- 'laws.FnExactIsTiming', WHERE WHAT IT READS IS OF BULK AT MOST 1048576: true; the input reads as it did. -/
def fnExactIsTimingUptoRow : OpenClaim := { program := "ytljboamepnhfpaa", sum := "e9098600e4bf55d6a594358753d91c22397542a3f622570ebbf70108303cc052", func := "loop.example/g01153/laws.FnExactIsTiming", spec := "fnExactIsTiming", unfollowed := true, recurses := true, apart := false, narrowed := true }
def FnExactIsTimingUptoSaid : Prop := fnExactIsTimingUptoRow.holds Try.pinned (OpenSpec.upto fnExactIsTimingSpec)

/-- 'laws.FnExactFallingRing', WHERE WHAT IT READS IS OF BULK AT MOST 1048576: true; the input reads as it did. -/
def fnExactFallingRingUptoRow : OpenClaim := { program := "ytljboamepnhfpaa", sum := "e9098600e4bf55d6a594358753d91c22397542a3f622570ebbf70108303cc052", func := "loop.example/g01153/laws.FnExactFallingRing", spec := "fnExactFallingRing", unfollowed := true, recurses := true, apart := false, narrowed := true }
def FnExactFallingRingUptoSaid : Prop := fnExactFallingRingUptoRow.holds Try.pinned (OpenSpec.upto fnExactFallingRingSpec)

/-- 'laws.FnExactFollowsFrom', WHERE WHAT IT READS IS OF BULK AT MOST 1048576: true; the input reads as it did. -/
def fnExactFollowsFromUptoRow : OpenClaim := { program := "ytljboamepnhfpaa", sum := "e9098600e4bf55d6a594358753d91c22397542a3f622570ebbf70108303cc052", func := "loop.example/g01153/laws.FnExactFollowsFrom", spec := "fnExactFollowsFrom", unfollowed := true, recurses := true, apart := false, narrowed := true }
def FnExactFollowsFromUptoSaid : Prop := fnExactFollowsFromUptoRow.holds Try.pinned (OpenSpec.upto fnExactFollowsFromSpec)

/-- 'laws.FnExactGapOf', WHERE WHAT IT READS IS OF BULK AT MOST 1048576: true; the input reads as it did. -/
def fnExactGapOfUptoRow : OpenClaim := { program := "ytljboamepnhfpaa", sum := "e9098600e4bf55d6a594358753d91c22397542a3f622570ebbf70108303cc052", func := "loop.example/g01153/laws.FnExactGapOf", spec := "fnExactGapOf", unfollowed := true, recurses := true, apart := false, narrowed := true }
def FnExactGapOfUptoSaid : Prop := fnExactGapOfUptoRow.holds Try.pinned (OpenSpec.upto fnExactGapOfSpec)

/-- 'laws.FnExactRoomOf', WHERE WHAT IT READS IS OF BULK AT MOST 1048576: true; the input reads as it did. -/
def fnExactRoomOfUptoRow : OpenClaim := { program := "ytljboamepnhfpaa", sum := "e9098600e4bf55d6a594358753d91c22397542a3f622570ebbf70108303cc052", func := "loop.example/g01153/laws.FnExactRoomOf", spec := "fnExactRoomOf", unfollowed := true, recurses := true, apart := false, narrowed := true }
def FnExactRoomOfUptoSaid : Prop := fnExactRoomOfUptoRow.holds Try.pinned (OpenSpec.upto fnExactRoomOfSpec)

/-- 'laws.FnExactLatestTimes', WHERE WHAT IT READS IS OF BULK AT MOST 1048576: true; the input reads as it did. -/
def fnExactLatestTimesUptoRow : OpenClaim := { program := "ytljboamepnhfpaa", sum := "e9098600e4bf55d6a594358753d91c22397542a3f622570ebbf70108303cc052", func := "loop.example/g01153/laws.FnExactLatestTimes", spec := "fnExactLatestTimes", unfollowed := true, recurses := true, apart := false, narrowed := true }
def FnExactLatestTimesUptoSaid : Prop := fnExactLatestTimesUptoRow.holds Try.pinned (OpenSpec.upto fnExactLatestTimesSpec)

/-- 'laws.FnExactTightestBounds', WHERE WHAT IT READS IS OF BULK AT MOST 1048576: true; the input reads as it did. -/
def fnExactTightestBoundsUptoRow : OpenClaim := { program := "ytljboamepnhfpaa", sum := "e9098600e4bf55d6a594358753d91c22397542a3f622570ebbf70108303cc052", func := "loop.example/g01153/laws.FnExactTightestBounds", spec := "fnExactTightestBounds", unfollowed := true, recurses := true, apart := false, narrowed := true }
def FnExactTightestBoundsUptoSaid : Prop := fnExactTightestBoundsUptoRow.holds Try.pinned (OpenSpec.upto fnExactTightestBoundsSpec)

/-- 'laws.FnExactEarliestTimes', WHERE WHAT IT READS IS OF BULK AT MOST 1048576: true; the input reads as it did. -/
def fnExactEarliestTimesUptoRow : OpenClaim := { program := "ytljboamepnhfpaa", sum := "e9098600e4bf55d6a594358753d91c22397542a3f622570ebbf70108303cc052", func := "loop.example/g01153/laws.FnExactEarliestTimes", spec := "fnExactEarliestTimes", unfollowed := true, recurses := true, apart := false, narrowed := true }
def FnExactEarliestTimesUptoSaid : Prop := fnExactEarliestTimesUptoRow.holds Try.pinned (OpenSpec.upto fnExactEarliestTimesSpec)

/-- 'laws.FnExactNeededBounds', WHERE WHAT IT READS IS OF BULK AT MOST 1048576: true; the input reads as it did. -/
def fnExactNeededBoundsUptoRow : OpenClaim := { program := "ytljboamepnhfpaa", sum := "e9098600e4bf55d6a594358753d91c22397542a3f622570ebbf70108303cc052", func := "loop.example/g01153/laws.FnExactNeededBounds", spec := "fnExactNeededBounds", unfollowed := true, recurses := true, apart := false, narrowed := true }
def FnExactNeededBoundsUptoSaid : Prop := fnExactNeededBoundsUptoRow.holds Try.pinned (OpenSpec.upto fnExactNeededBoundsSpec)

end Rows
end Go.Proofs.Ytljboamepnhfpaa
