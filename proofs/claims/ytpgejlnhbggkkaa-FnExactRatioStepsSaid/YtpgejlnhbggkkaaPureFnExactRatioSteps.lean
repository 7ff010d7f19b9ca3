/- RatioSteps answers as the reference does, for all arguments, and its answers share no memory. -/
import Derived.Test.YtpgejlnhbggkkaaPaxf9
import Derived.Test.YtpgejlnhbggkkaaPureMarks
import Derived.Test.YtpgejlnhbggkkaaPureRatioStepsLoops
namespace Go.Proofs.Ytpgejlnhbggkkaa.Pure
open Go.RowKit Go.Proofs.Ytpgejlnhbggkkaa.Pa Go.Proofs.YtpgejlnhbggkkaaW.PrintWords Go.Proofs.YtpgejlnhbggkkaaW.PrintLast

theorem FnExactRatioSteps : laws_FnExactRatioSteps.Pure := by
  intro n d _ _
  obtain ⟨r, b, hr, hs, hi⟩ := steps_both n d
  refine ⟨1000000000000000009, ?_⟩
  have e1 := eqI r (by omega) 1000000000000000009 (by omega)
  have e2 := eqI r (by omega) 1000000000000000008 (by omega)
  have m1 := markI r (by omega) 1000000000000000008 (by omega)
  have h1 := heldI r.length (by omega) 1000000000000000008 (by omega)
  have h2 := heldI r.length (by omega) 1000000000000000007 (by omega)
  have i2 := hi 1000000000000000008 (by omega)
  unfold laws_FnExactRatioSteps.f laws_toFraction.f
  simp only [Option.bind_some]
  rw [hs _ (by omega), hi _ (by omega)]
  simp only [Option.bind_some]
  rw [e1]
  simp only [Option.bind_some, if_true, bne_self_eq_false]
  rw [show (1000000000000000009 : Nat) = 1000000000000000008 + 1 from rfl]
  simp only [laws_FnExactRatioSteps.j0, Bool.false_eq_true, if_false]
  rw [m1]
  simp only [Option.bind_some]
  rw [h1]
  simp only [Option.bind_some]
  rw [if_neg (by omega), if_pos trivial]
  unfold laws_toFraction.f
  simp only [Option.bind_some]
  rw [i2]
  simp only [Option.bind_some]
  rw [e2]
  simp only [Option.bind_some, if_true, bne_self_eq_false]
  rw [show (1000000000000000008 : Nat) = 1000000000000000007 + 1 from rfl]
  simp only [laws_FnExactRatioSteps.j1, Bool.false_eq_true, if_false]
  rw [h2]
  simp only [Option.bind_some]
  rw [if_neg (by omega), if_pos trivial]

end Go.Proofs.Ytpgejlnhbggkkaa.Pure
