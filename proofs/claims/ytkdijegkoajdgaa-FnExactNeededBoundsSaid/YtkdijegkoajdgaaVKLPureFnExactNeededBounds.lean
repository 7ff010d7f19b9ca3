-- Written for this claim by a program of this session.
import Derived.Test.YtkdijegkoajdgaaVKLPaxf4
import Derived.Test.YtkdijegkoajdgaaVCoreL6
import Derived.Test.YtkdijegkoajdgaaVCoreL7
/- NeededBounds answers as the reference does, for all arguments, and its answers share no memory. -/
namespace Go.Proofs.Ytkdijegkoajdgaa.Pure
open Go.RowKit Go.Proofs.Ytkdijegkoajdgaa.Pa Go.Proofs.YtkdijegkoajdgaaW.PrintWords Go.Proofs.YtkdijegkoajdgaaW.PrintLast
set_option linter.unusedVariables false
set_option linter.unusedSimpArgs false

theorem FnExactNeededBounds : laws_FnExactNeededBounds.Pure := by
 intro n l _ hl
 by_cases h : 1048576 < l.length
 ·refine ⟨0, ?_⟩
  unfold laws_FnExactNeededBounds.f
  rw [szDia n l hl.1, if_pos h]
  simp only [Option.bind_some]
  rw [if_pos (by omega)]
 ·obtain ⟨A, K, hA, hK⟩ := needed_tells n (l.map convB)
  obtain ⟨r, o, rfl⟩ : ∃ r o, A = (r, o) := ⟨A.1, A.2, rfl⟩
  simp only at hA
  generalize hq : max K (l.length + 100) = q
  refine ⟨q + 3, ?_⟩
  have hm : (l.map convB).length = l.length := by simp
  obtain ⟨s1, i1⟩ := hK (q + 3) (by omega)
  obtain ⟨_, i2⟩ := hK (q + 1) (by omega)
  have t1 := toDia n l (by omega) (q + 3) (by omega)
  have t2 := toDia n l (by omega) (q + 2) (by omega)
  have t3 := toDia n l (by omega) (q + 1) (by omega)
  have e1 := eqDia n (l.map convB) (by omega) (q + 2) (by omega)
  have mb := markB (l.map convB) (by omega) (q + 2) (by omega)
  have x1 := eqI r (by omega) (q + 3) (by omega)
  have x2 := eqI r (by omega) (q + 2) (by omega)
  have x3 := eqI r (by omega) (q + 1) (by omega)
  have m1 := markI r (by omega) (q + 1) (by omega)
  have h1 := heldI r.length (by omega) (q + 1) (by omega)
  have h2 := heldI r.length (by omega) q (by omega)
  unfold laws_FnExactNeededBounds.f
  rw [szDia n l hl.1, if_neg h]
  simp only [Option.bind_some]
  rw [if_neg (by omega), t1]
  simp only [Option.bind_some]
  rw [s1, i1]
  simp only [Option.bind_some]
  rw [x1]
  simp only [Option.bind_some, if_true, bne_self_eq_false]
  simp only [laws_FnExactNeededBounds.j0, Bool.false_eq_true, if_false]
  rw [t2]
  simp only [Option.bind_some]
  rw [e1]
  simp only [Option.bind_some, if_true]
  unfold laws_markDiagram.f
  rw [mb]
  simp only [Option.bind_some]
  rw [if_neg (by omega), x2]
  simp only [Option.bind_some, if_true]
  simp only [laws_FnExactNeededBounds.j1, Bool.false_eq_true, if_false]
  rw [m1]
  simp only [Option.bind_some]
  rw [h1]
  simp only [Option.bind_some]
  have hz : ¬ (1 + (r.length : Int) < 0) := by omega
  simp only [if_neg hz, if_true]
  rw [t3]
  simp only [Option.bind_some]
  rw [i2]
  simp only [Option.bind_some]
  rw [x3]
  simp only [Option.bind_some, if_true, bne_self_eq_false]
  simp only [laws_FnExactNeededBounds.j2, Bool.false_eq_true, if_false]
  rw [h2]
  simp only [Option.bind_some]
  simp only [if_neg hz, if_true]
end Go.Proofs.Ytkdijegkoajdgaa.Pure
