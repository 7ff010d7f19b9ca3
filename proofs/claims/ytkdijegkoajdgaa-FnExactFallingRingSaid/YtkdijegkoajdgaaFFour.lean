-- Written for this claim by a program of this session.
import Derived.Test.YtkdijegkoajdgaaFTab
namespace Go.Proofs.YtkdijegkoajdgaaW.PrintLast
section
variable {P : Program} {ops : Array Oper} {Q : Exit → Act → World → Prop} {md : Region.Mode} {S : World → Prop} {ds : List Nat} {T : Bool × List (List Nat × List Nat)}
end
end Go.Proofs.YtkdijegkoajdgaaW.PrintLast
