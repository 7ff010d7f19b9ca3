/- ValidCircuit answers as the reference does, for all arguments. -/
import Derived.Test.YtalafmahgeejiaaPaxf3
import Derived.Test.YtalafmahgeejiaaPureCirc
import Derived.Test.YtalafmahgeejiaaPureValid
namespace Go.Proofs.Ytalafmahgeejiaa.Pure
open Go.RowKit Go.Proofs.Ytalafmahgeejiaa.Pa Go.Proofs.YtalafmahgeejiaaW.PrintWords Go.Proofs.YtalafmahgeejiaaW.PrintLast
set_option linter.unusedVariables false
set_option linter.unusedSimpArgs false

theorem specValid (n : Int) (gates : List S62) (data : List Int) (a3 a4 a5 a6 : Int) (hw : ∀ g ∈ gates, g.f2.length ≤ 1048576) (hd : data.length ≤ 1048576) (k : Nat) (hk : 2500000 ≤ k) :
    spec_ValidCircuit.f k n gates data a3 a4 a5 a6 = some (validB n gates data a3 a4 a5 a6) := by
  unfold spec_ValidCircuit.f spec_ValidCircuit.fB
  rw [is_tells n gates data a3 a4 a5 a6 hw hd k hk]
  rfl
theorem validCircuit_at (n : Int) (gates : List S89) (data : List Int) (a3 a4 a5 a6 : Int) (hg : gates.length ≤ 9223372036854775807) (hw : ∀ g ∈ gates, g.f2.length ≤ 9223372036854775807) (hd : data.length ≤ 9223372036854775807) (k : Nat) (hk : 3000000 ≤ k) :
    laws_FnExactValidCircuit.f k n gates data a3 a4 a5 a6 = some true := by
  unfold laws_FnExactValidCircuit.f
  obtain ⟨r, h1, h2⟩ := szCir n gates data a3 a4 a5 a6 hg hw hd
  rw [h1 k (by omega)]
  simp only [Option.bind_some]
  by_cases h3 : r < 0
  · rw [if_pos h3]
  · obtain ⟨g1, g2, g3⟩ := h2 h3
    have g4 := convG_len gates g2
    rw [if_neg h3, toCir n gates data a3 a4 a5 a6 g1 g2 g3 k hk]
    simp only [Option.bind_some]
    rw [specValid n _ data a3 a4 a5 a6 g4 g3 k (by omega), valid_tells n _ data a3 a4 a5 a6 g4 k (by omega)]
    simp only [Option.bind_some, bne_self_eq_false, Bool.false_eq_true, if_false]
    rw [eqCir n _ data a3 a4 a5 a6 (by simpa using g1) g4 g3 k hk]
    rfl
theorem FnExactValidCircuit : laws_FnExactValidCircuit.Pure := by
  intro n gates data a3 a4 a5 a6 _ hg hd _ _ _ _
  exact ⟨3000000, validCircuit_at n gates data a3 a4 a5 a6 hg.1 (fun g h => (hg.2 g h).2.2.1) hd.1 3000000 (Nat.le_refl _)⟩
end Go.Proofs.Ytalafmahgeejiaa.Pure
