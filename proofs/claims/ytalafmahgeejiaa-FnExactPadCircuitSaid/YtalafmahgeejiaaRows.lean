/-
  No cell of these rows narrows 'for every input' (looked for: loops, veiled, ifaces, maps, wideKeys, modest, calm, conditions, laid).
  DERIVED. THE GIVEN ROWS OF THIS SEAT. 11 by the template 'for every input the law returns true; each argument reads behind the call as it read before'; 0 by the template 'total and deterministic' (their statements: YtalafmahgeejiaaTotals.lean).
  GIVEN WITH THE SEED: the statements are not yours to turn. If you find one false, say at which input.
  Laid BY PROGRAM, IN A SANDBOX (cutbox-rows.mjs): the forced cells as the released guide's own fill.sh prints them over the translation ba22649425cc5ae4… (all of the seat's roots in one cut). By AI agents, Wed Nov 11 2026. No macro, syntax, notation, axiom, sorry.
-/
import Derived.Test.YtalafmahgeejiaaChecked
import GoSem.Claim
import GoSem.ClaimJoined
import GoSem.ClaimMapViews
import Derived.JoinedTies
import Derived.KernelRfl
namespace Go.Proofs.Ytalafmahgeejiaa
/- THE CELL 'sum', in the pinned program and in every row, IS THE sha256 OF THE DUMP (.gsa) THAT YtalafmahgeejiaaProg.lean LOADS. Nothing in Lean hashes anything: it is a label: what it is worth is what the hold of that sum in a sandbox is worth. -/
noncomputable def Try.pinned : Pinned := { name := "ytalafmahgeejiaa", sum := "ba22649425cc5ae4887ca67cf39fa461ca4894e3e8a3586a870e34346185806d", checked := Try.checked }
namespace Rows
def none {H : Type} : Left H := { results := [], args := [] }

/-- 'laws.FnExactValidCircuit': WHATEVER THE INPUT: true; the input reads as it did. -/
def fnExactValidCircuitSpec : ChangeSpec := { name := "fnExactValidCircuit", fn := fun _ => fun
  | [d] => { results := [.lit (.bool true)], args := [d] }
  | _ => none }
def fnExactValidCircuitRow : OpenClaim := { program := "ytalafmahgeejiaa", sum := "ba22649425cc5ae4887ca67cf39fa461ca4894e3e8a3586a870e34346185806d", func := "loop.example/g01153/laws.FnExactValidCircuit", spec := "fnExactValidCircuit", unfollowed := true, recurses := true, apart := false }
def FnExactValidCircuitSaid : Prop := fnExactValidCircuitRow.holds Try.pinned (OpenSpec.ofChange fnExactValidCircuitSpec)

/-- ITS FALSE NEIGHBOUR: 'it returns false'. Refute it at one input. -/
def fnExactValidCircuitWrong : ChangeSpec := { name := "fnExactValidCircuit", fn := fun _ => fun
  | [d] => { results := [.lit (.bool false)], args := [d] }
  | _ => none }
def FnExactValidCircuitWrongFalsely : Prop := fnExactValidCircuitRow.holds Try.pinned (OpenSpec.ofChange fnExactValidCircuitWrong)

/-- 'laws.FnExactPathDelays': WHATEVER THE INPUT: true; the input reads as it did. -/
def fnExactPathDelaysSpec : ChangeSpec := { name := "fnExactPathDelays", fn := fun _ => fun
  | [d1, d2, d3] => { results := [.lit (.bool true)], args := [d1, d2, d3] }
  | _ => none }
def fnExactPathDelaysRow : OpenClaim := { program := "ytalafmahgeejiaa", sum := "ba22649425cc5ae4887ca67cf39fa461ca4894e3e8a3586a870e34346185806d", func := "loop.example/g01153/laws.FnExactPathDelays", spec := "fnExactPathDelays", unfollowed := true, recurses := true, apart := false }
def FnExactPathDelaysSaid : Prop := fnExactPathDelaysRow.holds Try.pinned (OpenSpec.ofChange fnExactPathDelaysSpec)

/-- ITS FALSE NEIGHBOUR: 'it returns false'. Refute it at one input. -/
def fnExactPathDelaysWrong : ChangeSpec := { name := "fnExactPathDelays", fn := fun _ => fun
  | [d1, d2, d3] => { results := [.lit (.bool false)], args := [d1, d2, d3] }
  | _ => none }
def FnExactPathDelaysWrongFalsely : Prop := fnExactPathDelaysRow.holds Try.pinned (OpenSpec.ofChange fnExactPathDelaysWrong)

/-- 'laws.FnExactPadCircuit': WHATEVER THE INPUT: true; the input reads as it did. -/
def fnExactPadCircuitSpec : ChangeSpec := { name := "fnExactPadCircuit", fn := fun _ => fun
  | [d1, d2] => { results := [.lit (.bool true)], args := [d1, d2] }
  | _ => none }
def fnExactPadCircuitRow : OpenClaim := { program := "ytalafmahgeejiaa", sum := "ba22649425cc5ae4887ca67cf39fa461ca4894e3e8a3586a870e34346185806d", func := "loop.example/g01153/laws.FnExactPadCircuit", spec := "fnExactPadCircuit", unfollowed := true, recurses := true, apart := false }
def FnExactPadCircuitSaid : Prop := fnExactPadCircuitRow.holds Try.pinned (OpenSpec.ofChange fnExactPadCircuitSpec)

/-- ITS FALSE NEIGHBOUR: 'it returns false'. Refute it at one input. -/
def fnExactPadCircuitWrong : ChangeSpec := { name := "fnExactPadCircuit", fn := fun _ => fun
  | [d1, d2] => { results := [.lit (.bool false)], args := [d1, d2] }
  | _ => none }
def FnExactPadCircuitWrongFalsely : Prop := fnExactPadCircuitRow.holds Try.pinned (OpenSpec.ofChange fnExactPadCircuitWrong)

/-- 'laws.FnExactHoldRoom': WHATEVER THE INPUT: true; the input reads as it did. -/
def fnExactHoldRoomSpec : ChangeSpec := { name := "fnExactHoldRoom", fn := fun _ => fun
  | [d1, d2] => { results := [.lit (.bool true)], args := [d1, d2] }
  | _ => none }
def fnExactHoldRoomRow : OpenClaim := { program := "ytalafmahgeejiaa", sum := "ba22649425cc5ae4887ca67cf39fa461ca4894e3e8a3586a870e34346185806d", func := "loop.example/g01153/laws.FnExactHoldRoom", spec := "fnExactHoldRoom", unfollowed := true, recurses := true, apart := false }
def FnExactHoldRoomSaid : Prop := fnExactHoldRoomRow.holds Try.pinned (OpenSpec.ofChange fnExactHoldRoomSpec)

/-- ITS FALSE NEIGHBOUR: 'it returns false'. Refute it at one input. -/
def fnExactHoldRoomWrong : ChangeSpec := { name := "fnExactHoldRoom", fn := fun _ => fun
  | [d1, d2] => { results := [.lit (.bool false)], args := [d1, d2] }
  | _ => none }
def FnExactHoldRoomWrongFalsely : Prop := fnExactHoldRoomRow.holds Try.pinned (OpenSpec.ofChange fnExactHoldRoomWrong)

/-- 'laws.FnExactSetupRoom': WHATEVER THE INPUT: true; the input reads as it did. -/
def fnExactSetupRoomSpec : ChangeSpec := { name := "fnExactSetupRoom", fn := fun _ => fun
  | [d1, d2, d3] => { results := [.lit (.bool true)], args := [d1, d2, d3] }
  | _ => none }
def fnExactSetupRoomRow : OpenClaim := { program := "ytalafmahgeejiaa", sum := "ba22649425cc5ae4887ca67cf39fa461ca4894e3e8a3586a870e34346185806d", func := "loop.example/g01153/laws.FnExactSetupRoom", spec := "fnExactSetupRoom", unfollowed := true, recurses := true, apart := false }
def FnExactSetupRoomSaid : Prop := fnExactSetupRoomRow.holds Try.pinned (OpenSpec.ofChange fnExactSetupRoomSpec)

/-- ITS FALSE NEIGHBOUR: 'it returns false'. Refute it at one input. -/
def fnExactSetupRoomWrong : ChangeSpec := { name := "fnExactSetupRoom", fn := fun _ => fun
  | [d1, d2, d3] => { results := [.lit (.bool false)], args := [d1, d2, d3] }
  | _ => none }
def FnExactSetupRoomWrongFalsely : Prop := fnExactSetupRoomRow.holds Try.pinned (OpenSpec.ofChange fnExactSetupRoomWrong)

/-- 'laws.FnExactWorks': WHATEVER THE INPUT: true; the input reads as it did. -/
def fnExactWorksSpec : ChangeSpec := { name := "fnExactWorks", fn := fun _ => fun
  | [d1, d2, d3] => { results := [.lit (.bool true)], args := [d1, d2, d3] }
  | _ => none }
def fnExactWorksRow : OpenClaim := { program := "ytalafmahgeejiaa", sum := "ba22649425cc5ae4887ca67cf39fa461ca4894e3e8a3586a870e34346185806d", func := "loop.example/g01153/laws.FnExactWorks", spec := "fnExactWorks", unfollowed := true, recurses := true, apart := false }
def FnExactWorksSaid : Prop := fnExactWorksRow.holds Try.pinned (OpenSpec.ofChange fnExactWorksSpec)

/-- ITS FALSE NEIGHBOUR: 'it returns false'. Refute it at one input. -/
def fnExactWorksWrong : ChangeSpec := { name := "fnExactWorks", fn := fun _ => fun
  | [d1, d2, d3] => { results := [.lit (.bool false)], args := [d1, d2, d3] }
  | _ => none }
def FnExactWorksWrongFalsely : Prop := fnExactWorksRow.holds Try.pinned (OpenSpec.ofChange fnExactWorksWrong)

/-- 'laws.FnExactLeastPeriod': WHATEVER THE INPUT: true; the input reads as it did. -/
def fnExactLeastPeriodSpec : ChangeSpec := { name := "fnExactLeastPeriod", fn := fun _ => fun
  | [d1, d2] => { results := [.lit (.bool true)], args := [d1, d2] }
  | _ => none }
def fnExactLeastPeriodRow : OpenClaim := { program := "ytalafmahgeejiaa", sum := "ba22649425cc5ae4887ca67cf39fa461ca4894e3e8a3586a870e34346185806d", func := "loop.example/g01153/laws.FnExactLeastPeriod", spec := "fnExactLeastPeriod", unfollowed := true, recurses := true, apart := false }
def FnExactLeastPeriodSaid : Prop := fnExactLeastPeriodRow.holds Try.pinned (OpenSpec.ofChange fnExactLeastPeriodSpec)

/-- ITS FALSE NEIGHBOUR: 'it returns false'. Refute it at one input. -/
def fnExactLeastPeriodWrong : ChangeSpec := { name := "fnExactLeastPeriod", fn := fun _ => fun
  | [d1, d2] => { results := [.lit (.bool false)], args := [d1, d2] }
  | _ => none }
def FnExactLeastPeriodWrongFalsely : Prop := fnExactLeastPeriodRow.holds Try.pinned (OpenSpec.ofChange fnExactLeastPeriodWrong)

/-- 'laws.FnExactPadsOf': WHATEVER THE INPUT: true; the input reads as it did. -/
def fnExactPadsOfSpec : ChangeSpec := { name := "fnExactPadsOf", fn := fun _ => fun
  | [d1, d2] => { results := [.lit (.bool true)], args := [d1, d2] }
  | _ => none }
def fnExactPadsOfRow : OpenClaim := { program := "ytalafmahgeejiaa", sum := "ba22649425cc5ae4887ca67cf39fa461ca4894e3e8a3586a870e34346185806d", func := "loop.example/g01153/laws.FnExactPadsOf", spec := "fnExactPadsOf", unfollowed := true, recurses := true, apart := false }
def FnExactPadsOfSaid : Prop := fnExactPadsOfRow.holds Try.pinned (OpenSpec.ofChange fnExactPadsOfSpec)

/-- ITS FALSE NEIGHBOUR: 'it returns false'. Refute it at one input. -/
def fnExactPadsOfWrong : ChangeSpec := { name := "fnExactPadsOf", fn := fun _ => fun
  | [d1, d2] => { results := [.lit (.bool false)], args := [d1, d2] }
  | _ => none }
def FnExactPadsOfWrongFalsely : Prop := fnExactPadsOfRow.holds Try.pinned (OpenSpec.ofChange fnExactPadsOfWrong)

/-- 'laws.FnExactLeastSkewedPeriod': WHATEVER THE INPUT: true; the input reads as it did. -/
def fnExactLeastSkewedPeriodSpec : ChangeSpec := { name := "fnExactLeastSkewedPeriod", fn := fun _ => fun
  | [d] => { results := [.lit (.bool true)], args := [d] }
  | _ => none }
def fnExactLeastSkewedPeriodRow : OpenClaim := { program := "ytalafmahgeejiaa", sum := "ba22649425cc5ae4887ca67cf39fa461ca4894e3e8a3586a870e34346185806d", func := "loop.example/g01153/laws.FnExactLeastSkewedPeriod", spec := "fnExactLeastSkewedPeriod", unfollowed := true, recurses := true, apart := false }
def FnExactLeastSkewedPeriodSaid : Prop := fnExactLeastSkewedPeriodRow.holds Try.pinned (OpenSpec.ofChange fnExactLeastSkewedPeriodSpec)

/-- ITS FALSE NEIGHBOUR: 'it returns false'. Refute it at one input. -/
def fnExactLeastSkewedPeriodWrong : ChangeSpec := { name := "fnExactLeastSkewedPeriod", fn := fun _ => fun
  | [d] => { results := [.lit (.bool false)], args := [d] }
  | _ => none }
def FnExactLeastSkewedPeriodWrongFalsely : Prop := fnExactLeastSkewedPeriodRow.holds Try.pinned (OpenSpec.ofChange fnExactLeastSkewedPeriodWrong)

/-- 'laws.FnExactLeastSkews': WHATEVER THE INPUT: true; the input reads as it did. -/
def fnExactLeastSkewsSpec : ChangeSpec := { name := "fnExactLeastSkews", fn := fun _ => fun
  | [d1, d2] => { results := [.lit (.bool true)], args := [d1, d2] }
  | _ => none }
def fnExactLeastSkewsRow : OpenClaim := { program := "ytalafmahgeejiaa", sum := "ba22649425cc5ae4887ca67cf39fa461ca4894e3e8a3586a870e34346185806d", func := "loop.example/g01153/laws.FnExactLeastSkews", spec := "fnExactLeastSkews", unfollowed := true, recurses := true, apart := false }
def FnExactLeastSkewsSaid : Prop := fnExactLeastSkewsRow.holds Try.pinned (OpenSpec.ofChange fnExactLeastSkewsSpec)

/-- ITS FALSE NEIGHBOUR: 'it returns false'. Refute it at one input. -/
def fnExactLeastSkewsWrong : ChangeSpec := { name := "fnExactLeastSkews", fn := fun _ => fun
  | [d1, d2] => { results := [.lit (.bool false)], args := [d1, d2] }
  | _ => none }
def FnExactLeastSkewsWrongFalsely : Prop := fnExactLeastSkewsRow.holds Try.pinned (OpenSpec.ofChange fnExactLeastSkewsWrong)

/-- 'laws.FnExactLongestPath': WHATEVER THE INPUT: true; the input reads as it did. -/
def fnExactLongestPathSpec : ChangeSpec := { name := "fnExactLongestPath", fn := fun _ => fun
  | [d1, d2, d3] => { results := [.lit (.bool true)], args := [d1, d2, d3] }
  | _ => none }
def fnExactLongestPathRow : OpenClaim := { program := "ytalafmahgeejiaa", sum := "ba22649425cc5ae4887ca67cf39fa461ca4894e3e8a3586a870e34346185806d", func := "loop.example/g01153/laws.FnExactLongestPath", spec := "fnExactLongestPath", unfollowed := true, recurses := true, apart := false }
def FnExactLongestPathSaid : Prop := fnExactLongestPathRow.holds Try.pinned (OpenSpec.ofChange fnExactLongestPathSpec)

/-- ITS FALSE NEIGHBOUR: 'it returns false'. Refute it at one input. -/
def fnExactLongestPathWrong : ChangeSpec := { name := "fnExactLongestPath", fn := fun _ => fun
  | [d1, d2, d3] => { results := [.lit (.bool false)], args := [d1, d2, d3] }
  | _ => none }
def FnExactLongestPathWrongFalsely : Prop := fnExactLongestPathRow.holds Try.pinned (OpenSpec.ofChange fnExactLongestPathWrong)

/- THE SECOND FORM. 'bulk': how many values and letters a reading holds, each counted each time it is reached (what is shared counts as often as it is met; a slice's spare places count too). A statement '..UptoSaid' is the law's where the arguments, and the package variables that the reading takes, are together of bulk at most 1048576: NARROWER than '..Said'. Prove '..Said' where nothing that the law and all that it calls make is longer than what came in: it says more and counts as full. Else prove '..UptoSaid'. A law counts once. -/
mutual
def uptoBulk {H : Type} : DataW H → Nat
  | .lit (.string bytes) => bytes.length + 1
  | .lit _ => 1
  | .nil => 1
  | .ptr d => uptoBulk d + 1
  | .slice elems spare => uptoBulkAll elems + uptoBulkAll spare + 1
  | .agg parts => uptoBulkAll parts + 1
  | .iface _ d => uptoBulk d + 1
  | .map entries => uptoBulkEntries entries + 1
  | .held _ => 1
def uptoBulkAll {H : Type} : List (DataW H) → Nat
  | [] => 0
  | d :: r => uptoBulk d + uptoBulkAll r
def uptoBulkEntries {H : Type} : List (Lit × DataW H) → Nat
  | [] => 0
  | x :: r => uptoBulkEntry x + uptoBulkEntries r
def uptoBulkEntry {H : Type} : Lit × DataW H → Nat
  | (.string bytes, d) => bytes.length + uptoBulk d + 1
  | (_, d) => uptoBulk d + 1
 end
def uptoSmall : (H : Type) → List (DataW H) → Bool := fun _ ds => decide (uptoBulkAll ds ≤ 1048576)
def OpenSpec.upto (s : _root_.Go.ChangeSpec) : _root_.Go.OpenSpec := { _root_.Go.OpenSpec.ofChange s with cond := some uptoSmall }

/-- 'laws.FnExactValidCircuit', WHERE WHAT IT READS IS OF BULK AT MOST 1048576: true; the input reads as it did. -/
def fnExactValidCircuitUptoRow : OpenClaim := { program := "ytalafmahgeejiaa", sum := "ba22649425cc5ae4887ca67cf39fa461ca4894e3e8a3586a870e34346185806d", func := "loop.example/g01153/laws.FnExactValidCircuit", spec := "fnExactValidCircuit", unfollowed := true, recurses := true, apart := false, narrowed := true }
def FnExactValidCircuitUptoSaid : Prop := fnExactValidCircuitUptoRow.holds Try.pinned (OpenSpec.upto fnExactValidCircuitSpec)

/-- 'laws.FnExactPathDelays', WHERE WHAT IT READS IS OF BULK AT MOST 1048576: true; the input reads as it did. -/
def fnExactPathDelaysUptoRow : OpenClaim := { program := "ytalafmahgeejiaa", sum := "ba22649425cc5ae4887ca67cf39fa461ca4894e3e8a3586a870e34346185806d", func := "loop.example/g01153/laws.FnExactPathDelays", spec := "fnExactPathDelays", unfollowed := true, recurses := true, apart := false, narrowed := true }
def FnExactPathDelaysUptoSaid : Prop := fnExactPathDelaysUptoRow.holds Try.pinned (OpenSpec.upto fnExactPathDelaysSpec)

/-- 'laws.FnExactPadCircuit', WHERE WHAT IT READS IS OF BULK AT MOST 1048576: true; the input reads as it did. -/
def fnExactPadCircuitUptoRow : OpenClaim := { program := "ytalafmahgeejiaa", sum := "ba22649425cc5ae4887ca67cf39fa461ca4894e3e8a3586a870e34346185806d", func := "loop.example/g01153/laws.FnExactPadCircuit", spec := "fnExactPadCircuit", unfollowed := true, recurses := true, apart := false, narrowed := true }
def FnExactPadCircuitUptoSaid : Prop := fnExactPadCircuitUptoRow.holds Try.pinned (OpenSpec.upto fnExactPadCircuitSpec)

/-- 'laws.FnExactHoldRoom', WHERE WHAT IT READS IS OF BULK AT MOST 1048576: true; the input reads as it did. -/
def fnExactHoldRoomUptoRow : OpenClaim := { program := "ytalafmahgeejiaa", sum := "ba22649425cc5ae4887ca67cf39fa461ca4894e3e8a3586a870e34346185806d", func := "loop.example/g01153/laws.FnExactHoldRoom", spec := "fnExactHoldRoom", unfollowed := true, recurses := true, apart := false, narrowed := true }
def FnExactHoldRoomUptoSaid : Prop := fnExactHoldRoomUptoRow.holds Try.pinned (OpenSpec.upto fnExactHoldRoomSpec)

/-- 'laws.FnExactSetupRoom', WHERE WHAT IT READS IS OF BULK AT MOST 1048576: true; the input reads as it did. -/
def fnExactSetupRoomUptoRow : OpenClaim := { program := "ytalafmahgeejiaa", sum := "ba22649425cc5ae4887ca67cf39fa461ca4894e3e8a3586a870e34346185806d", func := "loop.example/g01153/laws.FnExactSetupRoom", spec := "fnExactSetupRoom", unfollowed := true, recurses := true, apart := false, narrowed := true }
def FnExactSetupRoomUptoSaid : Prop := fnExactSetupRoomUptoRow.holds Try.pinned (OpenSpec.upto fnExactSetupRoomSpec)

/-- 'laws.FnExactWorks', WHERE WHAT IT READS IS OF BULK AT MOST 1048576: true; the input reads as it did. -/
def fnExactWorksUptoRow : OpenClaim := { program := "ytalafmahgeejiaa", sum := "ba22649425cc5ae4887ca67cf39fa461ca4894e3e8a3586a870e34346185806d", func := "loop.example/g01153/laws.FnExactWorks", spec := "fnExactWorks", unfollowed := true, recurses := true, apart := false, narrowed := true }
def FnExactWorksUptoSaid : Prop := fnExactWorksUptoRow.holds Try.pinned (OpenSpec.upto fnExactWorksSpec)

/-- 'laws.FnExactLeastPeriod', WHERE WHAT IT READS IS OF BULK AT MOST 1048576: true; the input reads as it did. -/
def fnExactLeastPeriodUptoRow : OpenClaim := { program := "ytalafmahgeejiaa", sum := "ba22649425cc5ae4887ca67cf39fa461ca4894e3e8a3586a870e34346185806d", func := "loop.example/g01153/laws.FnExactLeastPeriod", spec := "fnExactLeastPeriod", unfollowed := true, recurses := true, apart := false, narrowed := true }
def FnExactLeastPeriodUptoSaid : Prop := fnExactLeastPeriodUptoRow.holds Try.pinned (OpenSpec.upto fnExactLeastPeriodSpec)

/-- 'laws.FnExactPadsOf', WHERE WHAT IT READS IS OF BULK AT MOST 1048576: true; the input reads as it did. -/
def fnExactPadsOfUptoRow : OpenClaim := { program := "ytalafmahgeejiaa", sum := "ba22649425cc5ae4887ca67cf39fa461ca4894e3e8a3586a870e34346185806d", func := "loop.example/g01153/laws.FnExactPadsOf", spec := "fnExactPadsOf", unfollowed := true, recurses := true, apart := false, narrowed := true }
def FnExactPadsOfUptoSaid : Prop := fnExactPadsOfUptoRow.holds Try.pinned (OpenSpec.upto fnExactPadsOfSpec)

/-- 'laws.FnExactLeastSkewedPeriod', WHERE WHAT IT READS IS OF BULK AT MOST 1048576: true; the input reads as it did. -/
def fnExactLeastSkewedPeriodUptoRow : OpenClaim := { program := "ytalafmahgeejiaa", sum := "ba22649425cc5ae4887ca67cf39fa461ca4894e3e8a3586a870e34346185806d", func := "loop.example/g01153/laws.FnExactLeastSkewedPeriod", spec := "fnExactLeastSkewedPeriod", unfollowed := true, recurses := true, apart := false, narrowed := true }
def FnExactLeastSkewedPeriodUptoSaid : Prop := fnExactLeastSkewedPeriodUptoRow.holds Try.pinned (OpenSpec.upto fnExactLeastSkewedPeriodSpec)

/-- 'laws.FnExactLeastSkews', WHERE WHAT IT READS IS OF BULK AT MOST 1048576: true; the input reads as it did. -/
def fnExactLeastSkewsUptoRow : OpenClaim := { program := "ytalafmahgeejiaa", sum := "ba22649425cc5ae4887ca67cf39fa461ca4894e3e8a3586a870e34346185806d", func := "loop.example/g01153/laws.FnExactLeastSkews", spec := "fnExactLeastSkews", unfollowed := true, recurses := true, apart := false, narrowed := true }
def FnExactLeastSkewsUptoSaid : Prop := fnExactLeastSkewsUptoRow.holds Try.pinned (OpenSpec.upto fnExactLeastSkewsSpec)

/-- 'laws.FnExactLongestPath', WHERE WHAT IT READS IS OF BULK AT MOST 1048576: true; the input reads as it did. -/
def fnExactLongestPathUptoRow : OpenClaim := { program := "ytalafmahgeejiaa", sum := "ba22649425cc5ae4887ca67cf39fa461ca4894e3e8a3586a870e34346185806d", func := "loop.example/g01153/laws.FnExactLongestPath", spec := "fnExactLongestPath", unfollowed := true, recurses := true, apart := false, narrowed := true }
def FnExactLongestPathUptoSaid : Prop := fnExactLongestPathUptoRow.holds Try.pinned (OpenSpec.upto fnExactLongestPathSpec)

end Rows
end Go.Proofs.Ytalafmahgeejiaa
