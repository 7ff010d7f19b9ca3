-- Written for this claim by a program of this session.
import Derived.Test.YtljboamepnhfpaaKPaxf6
import Derived.Test.YtljboamepnhfpaaCore5
import Derived.Test.YtljboamepnhfpaaKPureFollows
/- FollowsFrom answers as the reference does, for all arguments. -/
namespace Go.Proofs.Ytljboamepnhfpaa.Pure
open Go.RowKit Go.Proofs.Ytljboamepnhfpaa.Pa Go.Proofs.YtljboamepnhfpaaW.PrintWords Go.Proofs.YtljboamepnhfpaaW.PrintLast
set_option linter.unusedVariables false
set_option linter.unusedSimpArgs false

theorem FnExactFollowsFrom : laws_FnExactFollowsFrom.Pure := by
 intro n l b0 b1 b2 _ hl _ _ _
 by_cases h : 1048576 < l.length
 ·refine ⟨0, ?_⟩
  unfold laws_FnExactFollowsFrom.f
  rw [szDia n l hl.1, if_pos h]
  simp only [Option.bind_some]
  rw [if_pos (by omega)]
 ·obtain ⟨A, K, hK⟩ := follows_tells n (l.map convB) b0 b1 b2
  refine ⟨max K (l.length + 1) + 1, ?_⟩
  obtain ⟨s1, i1⟩ := hK (max K (l.length + 1) + 1) (by omega)
  have t1 := toDia n l (by omega) (max K (l.length + 1) + 1) (by omega)
  have t2 := toDia n l (by omega) (max K (l.length + 1)) (by omega)
  have e1 := eqDia n (l.map convB) (by simp; omega) (max K (l.length + 1)) (by simp; omega)
  have e1 := eqDia n (l.map convB) (by simp; omega) (max K (l.length + 1) + 1) (by simp; omega)
  unfold laws_FnExactFollowsFrom.f laws_toBound.f
  rw [szDia n l hl.1, if_neg h]
  simp only [Option.bind_some]
  rw [if_neg (by omega), t1]
  simp only [Option.bind_some]
  rw [s1, i1]
  simp only [Option.bind_some, bne_self_eq_false, Bool.false_eq_true, if_false]
  rw [e1]
  simp
end Go.Proofs.Ytljboamepnhfpaa.Pure
