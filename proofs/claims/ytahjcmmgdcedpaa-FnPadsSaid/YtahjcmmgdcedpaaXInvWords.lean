-- Written for this claim by a program of this session.
import Derived.Test.YtahjcmmgdcedpaaXInv
import Derived.Test.YtahjcmmgdcedpaaXFootNe
namespace Go.Proofs.YtahjcmmgdcedpaaW.PrintWords
open Go.RowKit
end Go.Proofs.YtahjcmmgdcedpaaW.PrintWords
namespace Go.Proofs.YtahjcmmgdcedpaaW.PrintLast
section
variable {ops : Array Oper} {a : Act} {o og : Oper} {g : Nat} {t : Tmp} {u : Bool}
end
end Go.Proofs.YtahjcmmgdcedpaaW.PrintLast
