-- Written for this claim by a program of this session.
import Derived.Test.YtalafmahgeejiaaXKPPaxf5
import Derived.Test.YtalafmahgeejiaaXCoreP1
import Derived.Test.YtalafmahgeejiaaXCoreP8
/- PadCircuit answers as the reference does, for all arguments, and its answers share no memory. -/
namespace Go.Proofs.Ytalafmahgeejiaa.Pure
open Go.RowKit Go.Proofs.Ytalafmahgeejiaa.Pa Go.Proofs.YtalafmahgeejiaaW.PrintWords Go.Proofs.YtalafmahgeejiaaW.PrintLast
set_option linter.unusedVariables false
set_option linter.unusedSimpArgs false

theorem padR_small (n : Int) (gates : List S62) (data : List Int) (a3 a4 a5 a6 : Int) (pads : List Int) (hw : ∀ g ∈ gates, g.f2.length ≤ 1048576) (hd : data.length ≤ 1048576) :
  (padR n gates data a3 a4 a5 a6 pads).2.1.length ≤ 1048576 ∧ (∀ g ∈ (padR n gates data a3 a4 a5 a6 pads).2.1, g.f2.length ≤ 1048576) ∧ (padR n gates data a3 a4 a5 a6 pads).2.2.1.length ≤ 1048576 := by
 unfold padR
 split
 ·rename_i h
  obtain ⟨hv, hok, hten⟩ := h
  have Cc := circ_of n gates data a3 a4 a5 a6 hw hv
  obtain ⟨hl, ex, e1, e2, e3, e4⟩ := padOut_inv (gates := gates) Cc.dlen hok
  refine ⟨?_, fun g hg => ?_, ?_⟩
  ·show (padOut n gates data pads).1.length ≤ 1048576
   omega
  ·have hg : g ∈ (padOut n gates data pads).1 := hg
   rw [e1] at hg
   rcases List.mem_append.mp hg with hg | hg
   ·exact hw g hg
   ·obtain ⟨p, x, rfl, _⟩ := e3 g hg
    simp
  ·show (padOut n gates data pads).2.length ≤ 1048576
   omega
 ·exact ⟨by simp, by simp, by simp⟩
theorem FnExactPadCircuit : laws_FnExactPadCircuit.Pure := by
 intro n gates data a3 a4 a5 a6 pads hn hg hd _ _ _ _ hsk
 by_cases hl : pads.length > 1048576
 ·refine ⟨0, ?_⟩
  unfold laws_FnExactPadCircuit.f
  rw [if_pos (by omega)]
 obtain ⟨r, h1, h2⟩ := szCir n gates data a3 a4 a5 a6 hg.1 (fun g h => (hg.2 g h).2.2.1) hd.1
 by_cases h3 : r < 0
 ·obtain ⟨k, hk⟩ : ∃ k, 3000000 ≤ k := ⟨_, Nat.le_refl _⟩
  refine ⟨k, ?_⟩
  unfold laws_FnExactPadCircuit.f
  rw [if_neg (by omega), h1 k (by omega)]
  simp only [Option.bind_some]
  rw [if_pos h3]
 ·obtain ⟨g1, g2, g3⟩ := h2 h3
  have g4 := convG_len gates g2
  have g5 := padR_small n (gates.map convG) data a3 a4 a5 a6 pads g4 (by omega)
  obtain ⟨k, hk⟩ : ∃ k, 3000000 ≤ k := ⟨_, Nat.le_refl _⟩
  refine ⟨k, ?_⟩
  have s1 := specPad n (gates.map convG) data a3 a4 a5 a6 pads g4 k (by omega)
  have s2 := implPad n (gates.map convG) data a3 a4 a5 a6 pads g4 k (by omega)
  generalize padR n (gates.map convG) data a3 a4 a5 a6 pads = R at g5 s1 s2
  unfold laws_FnExactPadCircuit.f
  rw [if_neg (by omega), h1 _ (by omega)]
  simp only [Option.bind_some]
  rw [if_neg h3, toCir n gates data a3 a4 a5 a6 g1 g2 g3 _ (by omega), toI pads (by omega) _ (by omega)]
  simp only [Option.bind_some]
  rw [s1, s2]
  simp only [Option.bind_some]
  rw [if_pos ⟨trivial, trivial, trivial, trivial, trivial, trivial, trivial, trivial⟩, if_pos ⟨by simpa using g1, g4, g3, by omega, g5⟩]
end Go.Proofs.Ytalafmahgeejiaa.Pure
