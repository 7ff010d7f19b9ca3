-- Written for this claim by a program of this session.
import Derived.Test.YthgmolenlpagkaaFTab
namespace Go.Proofs.YthgmolenlpagkaaW.PrintLast
section
variable {P : Program} {ops : Array Oper} {Q : Exit → Act → World → Prop} {md : Region.Mode} {S : World → Prop} {ds : List Nat} {T : Bool × List (List Nat × List Nat)}
end
end Go.Proofs.YthgmolenlpagkaaW.PrintLast
