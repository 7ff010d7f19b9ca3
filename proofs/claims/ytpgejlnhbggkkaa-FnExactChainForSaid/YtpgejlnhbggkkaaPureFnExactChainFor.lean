/- ChainFor answers as the reference does, for all arguments, and its answers share no memory. -/
import Derived.Test.YtpgejlnhbggkkaaPaxf8
import Derived.Test.YtpgejlnhbggkkaaPureMarks
import Derived.Test.YtpgejlnhbggkkaaPureChain
namespace Go.Proofs.Ytpgejlnhbggkkaa.Pure
open Go.RowKit Go.Proofs.Ytpgejlnhbggkkaa.Pa Go.Proofs.YtpgejlnhbggkkaaW.PrintWords Go.Proofs.YtpgejlnhbggkkaaW.PrintLast
set_option linter.unusedVariables false
set_option linter.unusedSimpArgs false

theorem FnExactChainFor : laws_FnExactChainFor.Pure := by
  intro b most _ _
  obtain ⟨K, hK⟩ := chain_tells b most
  have hl := chainS_length b most
  obtain ⟨l, o, hlo⟩ : ∃ l o, chainS b most = (l, o) := ⟨_, _, rfl⟩
  rw [hlo] at hK hl
  simp only at hl
  refine ⟨K + 20 + 2, ?_⟩
  have e1 := eqI l (by omega) (K + 20 + 2) (by omega)
  have e2 := eqI l (by omega) (K + 20 + 1) (by omega)
  have m1 := markI l (by omega) (K + 20 + 1) (by omega)
  have h1 := heldI l.length (by omega) (K + 20 + 1) (by omega)
  have h2 := heldI l.length (by omega) (K + 20) (by omega)
  obtain ⟨s1, i1⟩ := hK (K + 20 + 2) (by omega)
  obtain ⟨_, i2⟩ := hK (K + 20 + 1) (by omega)
  unfold laws_FnExactChainFor.f
  rw [s1, i1]
  simp only [Option.bind_some]
  rw [e1]
  simp only [Option.bind_some, if_true, bne_self_eq_false]
  simp only [laws_FnExactChainFor.j0, Bool.false_eq_true, if_false]
  rw [m1]
  simp only [Option.bind_some]
  rw [h1]
  simp only [Option.bind_some]
  rw [if_neg (by omega), if_pos trivial, i2]
  simp only [Option.bind_some]
  rw [e2]
  simp only [Option.bind_some, if_true, bne_self_eq_false]
  simp only [laws_FnExactChainFor.j1, Bool.false_eq_true, if_false]
  rw [h2]
  simp only [Option.bind_some]
  rw [if_neg (by omega), if_pos trivial]

end Go.Proofs.Ytpgejlnhbggkkaa.Pure
