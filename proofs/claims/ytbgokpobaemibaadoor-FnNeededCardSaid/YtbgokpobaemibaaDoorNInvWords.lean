-- Written for this claim by a program of this session.
import Derived.Test.YtbgokpobaemibaaDoorNInv
import Derived.Test.YtbgokpobaemibaaDoorNFootNe
namespace Go.Proofs.YtbgokpobaemibaaDoorW.PrintWords
open Go.RowKit
end Go.Proofs.YtbgokpobaemibaaDoorW.PrintWords
namespace Go.Proofs.YtbgokpobaemibaaDoorW.PrintLast
section
variable {ops : Array Oper} {a : Act} {o og : Oper} {g : Nat} {t : Tmp} {u : Bool}
end
end Go.Proofs.YtbgokpobaemibaaDoorW.PrintLast
