/- ValidLink answers as the reference does, for all arguments. -/
import Derived.Test.YtpgejlnhbggkkaaPaxf5
import Derived.Test.YtpgejlnhbggkkaaPureBase
namespace Go.Proofs.Ytpgejlnhbggkkaa.Pure
open Go.RowKit Go.Proofs.Ytpgejlnhbggkkaa.Pa Go.Proofs.YtpgejlnhbggkkaaW.PrintWords Go.Proofs.YtpgejlnhbggkkaaW.PrintLast

theorem within_in (a b c : Int) : impl_within.f a b c = spec_l00In.f a b c := rfl
theorem in_tells (a b c : Int) : spec_l00In.f a b c = some (decide (b ≤ a) && decide (a ≤ c)) := by
  unfold spec_l00In.f
  by_cases h : b ≤ a <;> simp [h]
theorem FnExactValidLink : laws_FnExactValidLink.Pure := by
  intro a b c d _ _ _ _
  unfold laws_FnExactValidLink.f laws_toLink.f spec_ValidLink.f spec_ValidLink.fB spec_l05Link.f impl_ValidLink.f
  simp only [within_in, in_tells, Option.bind_some]
  by_cases h1 : a = 2 <;> by_cases h2 : a = 4 <;> by_cases h3 : (decide (0 ≤ b) && decide (b ≤ 2)) = true <;> by_cases h4 : (decide (0 ≤ c) && decide (c ≤ 2)) = true <;> simp only [h1, h2, h3, h4, if_true, if_false, Option.bind_some] <;> simp

end Go.Proofs.Ytpgejlnhbggkkaa.Pure
