-- Written for this claim by a program of this session.
import Derived.Test.YtalafmahgeejiaaXInv
import Derived.Test.YtalafmahgeejiaaXFootNe
namespace Go.Proofs.YtalafmahgeejiaaW.PrintWords
open Go.RowKit
end Go.Proofs.YtalafmahgeejiaaW.PrintWords
namespace Go.Proofs.YtalafmahgeejiaaW.PrintLast
section
variable {ops : Array Oper} {a : Act} {o og : Oper} {g : Nat} {t : Tmp} {u : Bool}
end
end Go.Proofs.YtalafmahgeejiaaW.PrintLast
