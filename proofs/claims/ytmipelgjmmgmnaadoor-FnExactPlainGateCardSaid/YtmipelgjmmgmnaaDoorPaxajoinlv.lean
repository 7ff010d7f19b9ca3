-- Written for this claim by a program of this session.
import Derived.Test.YtmipelgjmmgmnaaDoorPax0
namespace Go.Proofs.YtmipelgjmmgmnaaDoor.Pa
open Go.RowKit Go.Proofs.YtmipelgjmmgmnaaDoorW.PrintWords Go.Proofs.YtmipelgjmmgmnaaDoorW.PrintLast Go.Proofs.YtmipelgjmmgmnaaDoorW.PrintMore
attribute [local go_sem] max2_int min2_int max_two min_two max_three min_three max_four min_four   -- for this text's walks alone
set_option linter.unusedVariables false
set_option linter.unusedSimpArgs false

/-! ### AUX joinlv -/
/-- Both waves are high (the way of joining whose number is 0, the only one that this claim comes to). -/
def joinLv (a b : ByteArray) (x : Int) : Bool := (bt a x == 49) && (bt b x == 49)

end Go.Proofs.YtmipelgjmmgmnaaDoor.Pa
