-- Written for this claim by a program of this session.
import Derived.Test.YtbkofbcmhddbfaaFWords
namespace Go.Proofs.YtbkofbcmhddbfaaW.PrintWords
open Go.RowKit
section
variable {P : Program} {ops : Array Oper} {rest : List Oper} {o : Oper} {a : Act} {Q : Exit → Act → World → Prop} {W : World}
end
end Go.Proofs.YtbkofbcmhddbfaaW.PrintWords
