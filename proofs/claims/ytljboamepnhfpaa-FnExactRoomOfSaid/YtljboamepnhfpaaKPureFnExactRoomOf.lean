-- Written for this claim by a program of this session.
import Derived.Test.YtljboamepnhfpaaKPaxf8
import Derived.Test.YtljboamepnhfpaaCore5
import Derived.Test.YtljboamepnhfpaaKPureRoom
/- RoomOf answers as the reference does, for all arguments. -/
namespace Go.Proofs.Ytljboamepnhfpaa.Pure
open Go.RowKit Go.Proofs.Ytljboamepnhfpaa.Pa Go.Proofs.YtljboamepnhfpaaW.PrintWords Go.Proofs.YtljboamepnhfpaaW.PrintLast
set_option linter.unusedVariables false
set_option linter.unusedSimpArgs false

theorem FnExactRoomOf : laws_FnExactRoomOf.Pure := by
 intro n l a _ hl _
 by_cases h : 1048576 < l.length
 ·refine ⟨0, ?_⟩
  unfold laws_FnExactRoomOf.f
  rw [szDia n l hl.1, if_pos h]
  simp only [Option.bind_some]
  rw [if_pos (by omega)]
 ·obtain ⟨A, K, hK⟩ := room_tells n (l.map convB) a
  refine ⟨max K (l.length + 1) + 1, ?_⟩
  obtain ⟨s1, i1⟩ := hK (max K (l.length + 1) + 1) (by omega)
  have t1 := toDia n l (by omega) (max K (l.length + 1) + 1) (by omega)
  have t2 := toDia n l (by omega) (max K (l.length + 1)) (by omega)
  have e1 := eqDia n (l.map convB) (by simp; omega) (max K (l.length + 1)) (by simp; omega)
  unfold laws_FnExactRoomOf.f
  rw [szDia n l hl.1, if_neg h]
  simp only [Option.bind_some]
  rw [if_neg (by omega), t1]
  simp only [Option.bind_some]
  rw [s1, i1]
  simp only [Option.bind_some, if_true, bne_self_eq_false, laws_FnExactRoomOf.j0, Bool.false_eq_true, if_false]
  rw [t2]
  simp only [Option.bind_some]
  rw [e1]
  simp
end Go.Proofs.Ytljboamepnhfpaa.Pure
