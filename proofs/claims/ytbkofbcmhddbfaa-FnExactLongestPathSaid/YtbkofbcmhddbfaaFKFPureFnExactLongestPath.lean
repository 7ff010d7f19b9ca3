-- Written for this claim by a program of this session.
import Derived.Test.YtbkofbcmhddbfaaFKFPaxf4
import Derived.Test.YtbkofbcmhddbfaaFCoreF7
/- LongestPath answers as the reference does, for all arguments. -/
namespace Go.Proofs.Ytbkofbcmhddbfaa.Pure
open Go.RowKit Go.Proofs.Ytbkofbcmhddbfaa.Pa Go.Proofs.YtbkofbcmhddbfaaW.PrintWords Go.Proofs.YtbkofbcmhddbfaaW.PrintLast
set_option linter.unusedVariables false
set_option linter.unusedSimpArgs false

theorem FnExactLongestPath : laws_FnExactLongestPath.Pure := by
 intro n gates data a3 a4 a5 a6 a b hn hg hd _ _ _ _ _ _
 obtain ⟨r, h1, h2⟩ := szCir n gates data a3 a4 a5 a6 hg.1 (fun g h => (hg.2 g h).2.2.1) hd.1
 by_cases h3 : r < 0
 ·obtain ⟨k, hk⟩ : ∃ k, 3000000 ≤ k := ⟨_, Nat.le_refl _⟩
  refine ⟨k, ?_⟩
  unfold laws_FnExactLongestPath.f
  rw [h1 k (by omega)]
  simp only [Option.bind_some]
  rw [if_pos h3]
 ·obtain ⟨g1, g2, g3⟩ := h2 h3
  have g4 := convG_len gates g2
  obtain ⟨K1, hK1⟩ := specLP n (gates.map convG) data a3 a4 a5 a6 a b g4
  obtain ⟨K2, hK2⟩ := implLP n (gates.map convG) data a3 a4 a5 a6 a b g4 g3
  have g5 := lpR_len n (gates.map convG) data a3 a4 a5 a6 a b g4
  obtain ⟨k, hk⟩ : ∃ k, K1 + K2 + 3000000 ≤ k := ⟨_, Nat.le_refl _⟩
  refine ⟨k, ?_⟩
  have s1 : spec_LongestPath.f k n (gates.map convG) data a3 a4 a5 a6 a b = _ := hK1 k (by omega)
  have s2 : impl_LongestPath.f k n (gates.map convG) data a3 a4 a5 a6 a b = _ := hK2 k (by omega)
  unfold laws_FnExactLongestPath.f
  rw [h1 _ (by omega)]
  simp only [Option.bind_some]
  rw [if_neg h3, toCir n gates data a3 a4 a5 a6 g1 g2 g3 _ (by omega)]
  simp only [Option.bind_some]
  rw [s1, s2]
  simp only [Option.bind_some]
  rw [if_pos ⟨trivial, by simpa using g1, g4, g3, g5⟩]
end Go.Proofs.Ytbkofbcmhddbfaa.Pure
