-- Written for this claim by a program of this session.
import Derived.Test.YtbgokpobaemibaaDoorNN
namespace Go.Proofs.YtbgokpobaemibaaDoorW.PrintWords
open Go.RowKit
namespace Kd
section
variable {α : Type} {d : Kd α} {W : World} {g n : Nat} {S ok : Nat → Prop} {A : Option Addr} {ad : Addr} {xs : List α}
end
end Kd
end Go.Proofs.YtbgokpobaemibaaDoorW.PrintWords
