/- IsTiming answers as the reference does, for all arguments. -/
import Derived.Test.YtljboamepnhfpaaPaxf4
import Derived.Test.YtljboamepnhfpaaPureDia
import Derived.Test.YtljboamepnhfpaaPureToI
import Derived.Test.YtljboamepnhfpaaPureEqI
import Derived.Test.YtljboamepnhfpaaPureIsTimingPure
namespace Go.Proofs.Ytljboamepnhfpaa.Pure
open Go.RowKit Go.Proofs.Ytljboamepnhfpaa.Pa Go.Proofs.YtljboamepnhfpaaW.PrintWords Go.Proofs.YtljboamepnhfpaaW.PrintLast
set_option linter.unusedVariables false
set_option linter.unusedSimpArgs false

theorem FnExactIsTiming : laws_FnExactIsTiming.Pure := by
  intro n l times _ hl _
  refine ⟨l.length + times.length + 100, ?_⟩
  unfold laws_FnExactIsTiming.f
  by_cases h1 : times.length > 1048576
  · rw [if_pos (by omega)]
  rw [if_neg (by omega), szDia n l hl.1]
  simp only [Option.bind_some]
  by_cases h : 1048576 < l.length
  · rw [if_pos h, if_pos (by omega)]
  · have t1 := toDia n l (by omega) (l.length + times.length + 100) (by omega)
    have t2 := toI times (by omega) (l.length + times.length + 100) (by omega)
    have e1 := eqDia n (l.map convB) (by simp; omega) (l.length + times.length + 100) (by simp; omega)
    have e2 := eqI times (by omega) (l.length + times.length + 100) (by omega)
    have s1 := timing_spec n (l.map convB) times (l.length + times.length + 100) (by omega)
    rw [if_neg h, if_neg (by omega), t1, t2]
    simp only [Option.bind_some]
    rw [s1]
    unfold impl_IsTiming.f
    simp only [Option.bind_some, bne_self_eq_false, Bool.false_eq_true, if_false]
    rw [e1, e2]
    simp
end Go.Proofs.Ytljboamepnhfpaa.Pure
