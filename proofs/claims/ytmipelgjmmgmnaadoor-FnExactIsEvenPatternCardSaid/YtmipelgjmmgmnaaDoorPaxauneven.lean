-- Written for this claim by a program of this session.
import Derived.Test.YtmipelgjmmgmnaaDoorPax0
import Derived.Shelf.Strings.Count
namespace Go.Proofs.YtmipelgjmmgmnaaDoor.Pa
open Go.RowKit Go.Proofs.YtmipelgjmmgmnaaDoorW.PrintWords Go.Proofs.YtmipelgjmmgmnaaDoorW.PrintLast Go.Proofs.YtmipelgjmmgmnaaDoorW.PrintMore
attribute [local go_sem] max2_int min2_int max_two min_two max_three min_three max_four min_four   -- for this text's walks alone
set_option linter.unusedVariables false
set_option linter.unusedSimpArgs false

/-! ### AUX uneven -/
/-- How many marks a part of a text has. -/
def cntW (b : ByteArray) (x z : Int) : Int := (Lib.countByte (b.extract x.toNat (x + z).toNat).data.toList 49 : Int)
/-- The least and the greatest such number of the parts of z slots at the first so many places. -/
def loA (b : ByteArray) (n0 z : Int) : Nat → Int
  | 0 => n0
  | i + 1 => if cntW b (i : Int) z < loA b n0 z i then cntW b (i : Int) z else loA b n0 z i
def hiA (b : ByteArray) (z : Int) : Nat → Int
  | 0 => 0
  | i + 1 => if hiA b z i < cntW b (i : Int) z then cntW b (i : Int) z else hiA b z i
theorem loA_succ (b : ByteArray) (n0 z : Int) (i : Nat) : loA b n0 z (i + 1) = if cntW b (i : Int) z < loA b n0 z i then cntW b (i : Int) z else loA b n0 z i := rfl
theorem hiA_succ (b : ByteArray) (z : Int) (i : Nat) : hiA b z (i + 1) = if hiA b z i < cntW b (i : Int) z then cntW b (i : Int) z else hiA b z i := rfl

end Go.Proofs.YtmipelgjmmgmnaaDoor.Pa
