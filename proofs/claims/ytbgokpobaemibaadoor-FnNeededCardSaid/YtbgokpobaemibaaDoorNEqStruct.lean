-- Written for this claim by a program of this session.
import Derived.Test.YtbgokpobaemibaaDoorNWords
import Derived.Laws.StructEq
namespace Go.Proofs.YtbgokpobaemibaaDoorW.PrintWords
open Go.RowKit
section
variable {P : Program} {d : Nat} {xs ys : Array Value} {f : Field} {fs : List Field} {a b : Value} {r s : Bool} {w : World}
end
end Go.Proofs.YtbgokpobaemibaaDoorW.PrintWords
