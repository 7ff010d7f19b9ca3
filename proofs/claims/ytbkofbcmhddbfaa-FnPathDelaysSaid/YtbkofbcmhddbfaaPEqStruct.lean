-- Written for this claim by a program of this session.
import Derived.Test.YtbkofbcmhddbfaaPWords
import Derived.Laws.StructEq
namespace Go.Proofs.YtbkofbcmhddbfaaW.PrintWords
open Go.RowKit
section
variable {P : Program} {d : Nat} {xs ys : Array Value} {f : Field} {fs : List Field} {a b : Value} {r s : Bool} {w : World}
end
end Go.Proofs.YtbkofbcmhddbfaaW.PrintWords
