-- Written for this claim by a program of this session.
import Derived.Test.YtkdijegkoajdgaaFInv
import Derived.Test.YtkdijegkoajdgaaFFootNe
namespace Go.Proofs.YtkdijegkoajdgaaW.PrintWords
open Go.RowKit
end Go.Proofs.YtkdijegkoajdgaaW.PrintWords
namespace Go.Proofs.YtkdijegkoajdgaaW.PrintLast
section
variable {ops : Array Oper} {a : Act} {o og : Oper} {g : Nat} {t : Tmp} {u : Bool}
end
end Go.Proofs.YtkdijegkoajdgaaW.PrintLast
