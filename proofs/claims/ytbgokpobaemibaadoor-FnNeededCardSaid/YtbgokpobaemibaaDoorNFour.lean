-- Written for this claim by a program of this session.
import Derived.Test.YtbgokpobaemibaaDoorNTab
namespace Go.Proofs.YtbgokpobaemibaaDoorW.PrintLast
section
variable {P : Program} {ops : Array Oper} {Q : Exit → Act → World → Prop} {md : Region.Mode} {S : World → Prop} {ds : List Nat} {T : Bool × List (List Nat × List Nat)}
end
end Go.Proofs.YtbgokpobaemibaaDoorW.PrintLast
