/- ValidQueue answers as the reference does, for all arguments. -/
import Derived.Test.YtpgejlnhbggkkaaPaxf4
import Derived.Test.YtpgejlnhbggkkaaPureBase
namespace Go.Proofs.Ytpgejlnhbggkkaa.Pure
open Go.RowKit Go.Proofs.Ytpgejlnhbggkkaa.Pa Go.Proofs.YtpgejlnhbggkkaaW.PrintWords Go.Proofs.YtpgejlnhbggkkaaW.PrintLast

theorem FnExactValidQueue : laws_FnExactValidQueue.Pure := by
  intro a b _ _
  unfold laws_FnExactValidQueue.f laws_toQueue.f spec_ValidQueue.f spec_ValidQueue.fB spec_l05Queue.f impl_ValidQueue.f impl_within.f spec_l00In.f
  simp only [Option.bind_some]
  by_cases h1 : a = 2 <;> by_cases h2 : a = 4 <;> by_cases h3 : b ≥ 0 <;> simp [h1, h2, h3]

end Go.Proofs.Ytpgejlnhbggkkaa.Pure
