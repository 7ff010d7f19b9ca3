-- Written for this claim by a program of this session.
import Derived.Test.YthgmolenlpagkaaFInv
import Derived.Test.YthgmolenlpagkaaFFootNe
namespace Go.Proofs.YthgmolenlpagkaaW.PrintWords
open Go.RowKit
end Go.Proofs.YthgmolenlpagkaaW.PrintWords
namespace Go.Proofs.YthgmolenlpagkaaW.PrintLast
section
variable {ops : Array Oper} {a : Act} {o og : Oper} {g : Nat} {t : Tmp} {u : Bool}
end
end Go.Proofs.YthgmolenlpagkaaW.PrintLast
