-- Written for this claim by a program of this session.
import Derived.Test.YtalafmahgeejiaaUKMPaxf11
import Derived.Test.YtalafmahgeejiaaUCoreM7
import Derived.Test.YtalafmahgeejiaaUCoreM6
/- LeastSkewedPeriod answers as the reference does, for all arguments. -/
namespace Go.Proofs.Ytalafmahgeejiaa.Pure
open Go.RowKit Go.Proofs.Ytalafmahgeejiaa.Pa Go.Proofs.YtalafmahgeejiaaW.PrintWords Go.Proofs.YtalafmahgeejiaaW.PrintLast
set_option linter.unusedVariables false
set_option linter.unusedSimpArgs false

theorem FnExactLeastSkewedPeriod : laws_FnExactLeastSkewedPeriod.Pure := by
 intro n gates data a3 a4 a5 a6 hn hg hd _ _ _ _
 obtain ⟨r, h1, h2⟩ := szCir n gates data a3 a4 a5 a6 hg.1 (fun g h => (hg.2 g h).2.2.1) hd.1
 by_cases h3 : r < 0
 ·obtain ⟨k, hk⟩ : ∃ k, 3000000 ≤ k := ⟨_, Nat.le_refl _⟩
  refine ⟨k, ?_⟩
  unfold laws_FnExactLeastSkewedPeriod.f
  rw [h1 k (by omega)]
  simp only [Option.bind_some]
  rw [if_pos h3]
 ·obtain ⟨g1, g2, g3⟩ := h2 h3
  have g4 := convG_len gates g2
  obtain ⟨v, ⟨K1, hK1⟩, ⟨K2, hK2⟩⟩ := periods n (gates.map convG) data a3 a4 a5 a6 g4 g3
  obtain ⟨k, hk⟩ : ∃ k, K1 + K2 + 3000000 ≤ k := ⟨_, Nat.le_refl _⟩
  refine ⟨k, ?_⟩
  have s1 : spec_LeastSkewedPeriod.f k n (gates.map convG) data a3 a4 a5 a6 = _ := hK1 k (by omega)
  have s2 : impl_LeastSkewedPeriod.f k n (gates.map convG) data a3 a4 a5 a6 = _ := hK2 k (by omega)
  unfold laws_FnExactLeastSkewedPeriod.f
  rw [h1 _ (by omega)]
  simp only [Option.bind_some]
  rw [if_neg h3, toCir n gates data a3 a4 a5 a6 g1 g2 g3 _ (by omega)]
  simp only [Option.bind_some]
  rw [s1, s2]
  simp only [Option.bind_some, if_true]
end Go.Proofs.Ytalafmahgeejiaa.Pure
