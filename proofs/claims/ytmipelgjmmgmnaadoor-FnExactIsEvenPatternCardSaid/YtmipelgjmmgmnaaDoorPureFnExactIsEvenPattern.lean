/- For every text the law of IsEvenPattern answers yes. -/
import Derived.Test.YtmipelgjmmgmnaaDoorPureUneven
import Derived.Test.YtmipelgjmmgmnaaDoorPaxf9
namespace Go.Proofs.YtmipelgjmmgmnaaDoor.Pure
open Go.RowKit Go.Proofs.YtmipelgjmmgmnaaDoor.Pa Go.Proofs.YtmipelgjmmgmnaaDoorW.PrintWords Go.Proofs.YtmipelgjmmgmnaaDoorW.PrintLast
set_option linter.unusedVariables false
set_option linter.unusedSimpArgs false
theorem FnExactIsEvenPattern : laws_FnExactIsEvenPattern.Pure := by
  intro s hs
  refine ⟨s.size + 4501, ?_⟩
  unfold laws_FnExactIsEvenPattern.f
  split
  · rfl
  obtain ⟨x, hx, hy⟩ : ∃ x, impl_IsEvenPattern.f s = some x ∧ spec_IsEvenPattern.f (s.size + 4501) s = some x := by
    unfold impl_IsEvenPattern.f spec_IsEvenPattern.f spec_l03Even.f
    obtain ⟨h1, h2⟩ := pattern_tells s hs (s.size + 4501) (by omega)
    rw [h1, h2, Option.bind_some, Option.bind_some]
    cases hp : (isWaveB s && (decide (1 ≤ (s.size : Int)) && decide ((s.size : Int) ≤ 64))) with
    | false => exact ⟨_, rfl, rfl⟩
    | true =>
      simp only [Bool.and_eq_true, decide_eq_true_eq] at hp
      have hw := hp.1
      unfold isWaveB at hw
      rw [Bool.and_eq_true, decide_eq_true_eq] at hw
      rw [if_pos rfl, if_pos rfl, uneven_tells s (by omega) (by omega) hw.2 _ (by omega)]
      unfold impl_mostUneven.f
      rw [if_pos (by omega)]
      exact ⟨_, rfl, rfl⟩
  rw [hx, hy]
  simp
end Go.Proofs.YtmipelgjmmgmnaaDoor.Pure
