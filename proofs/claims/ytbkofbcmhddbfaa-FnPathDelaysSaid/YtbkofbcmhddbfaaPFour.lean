-- Written for this claim by a program of this session.
import Derived.Test.YtbkofbcmhddbfaaPTab
namespace Go.Proofs.YtbkofbcmhddbfaaW.PrintLast
section
variable {P : Program} {ops : Array Oper} {Q : Exit → Act → World → Prop} {md : Region.Mode} {S : World → Prop} {ds : List Nat} {T : Bool × List (List Nat × List Nat)}
end
end Go.Proofs.YtbkofbcmhddbfaaW.PrintLast
