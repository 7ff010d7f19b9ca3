/- ValidSwitch answers as the reference does, for all arguments. -/
import Derived.Test.YtpgejlnhbggkkaaPaxf3
import Derived.Test.YtpgejlnhbggkkaaPureBase
namespace Go.Proofs.Ytpgejlnhbggkkaa.Pure
open Go.RowKit Go.Proofs.Ytpgejlnhbggkkaa.Pa Go.Proofs.YtpgejlnhbggkkaaW.PrintWords Go.Proofs.YtpgejlnhbggkkaaW.PrintLast

theorem FnExactValidSwitch : laws_FnExactValidSwitch.Pure := by
  intro a b _ _
  unfold laws_FnExactValidSwitch.f laws_toSwitch.f spec_ValidSwitch.f spec_ValidSwitch.fB spec_l07Is.f impl_ValidSwitch.f impl_within.f spec_l00In.f
  simp only [Option.bind_some]
  by_cases h1 : a ≥ 0 <;> by_cases h2 : a ≤ 5 <;> by_cases h3 : b ≥ 0 <;> simp [h1, h2, h3]

end Go.Proofs.Ytpgejlnhbggkkaa.Pure
