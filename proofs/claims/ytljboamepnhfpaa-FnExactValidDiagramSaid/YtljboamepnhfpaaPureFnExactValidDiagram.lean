/- ValidDiagram answers as the reference does, for all arguments. -/
import Derived.Test.YtljboamepnhfpaaPaxf3
import Derived.Test.YtljboamepnhfpaaPureDia
namespace Go.Proofs.Ytljboamepnhfpaa.Pure
open Go.RowKit Go.Proofs.Ytljboamepnhfpaa.Pa Go.Proofs.YtljboamepnhfpaaW.PrintWords Go.Proofs.YtljboamepnhfpaaW.PrintLast
set_option linter.unusedVariables false
set_option linter.unusedSimpArgs false

theorem FnExactValidDiagram : laws_FnExactValidDiagram.Pure := by
  intro n l _ hl
  refine ⟨l.length + 1, ?_⟩
  unfold laws_FnExactValidDiagram.f
  rw [szDia n l hl.1]
  simp only [Option.bind_some]
  by_cases h : 1048576 < l.length
  · rw [if_pos h, if_pos (by omega)]
  · have t1 := toDia n l (by omega) (l.length + 1) (by omega)
    have e1 := eqDia n (l.map convB) (by simp; omega) (l.length + 1) (by simp)
    rw [if_neg h, if_neg (by omega), t1]
    simp only [Option.bind_some]
    unfold spec_ValidDiagram.f spec_ValidDiagram.fB spec_l04Is.f impl_ValidDiagram.f
    simp only [Option.bind_some]
    rw [show diagramOk n (l.map convB) = diagramOkS n (l.map convB) from rfl]
    simp only [bne_self_eq_false, Bool.false_eq_true, if_false]
    rw [e1]
    simp
end Go.Proofs.Ytljboamepnhfpaa.Pure
