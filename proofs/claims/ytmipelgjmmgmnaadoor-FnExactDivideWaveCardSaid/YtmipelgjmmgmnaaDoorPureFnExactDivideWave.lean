/- For every divider and text the law of DivideWave answers yes. -/
import Derived.Test.YtmipelgjmmgmnaaDoorPureDivide
import Derived.Test.YtmipelgjmmgmnaaDoorPaxf7
namespace Go.Proofs.YtmipelgjmmgmnaaDoor.Pure
open Go.RowKit Go.Proofs.YtmipelgjmmgmnaaDoor.Pa Go.Proofs.YtmipelgjmmgmnaaDoorW.PrintWords Go.Proofs.YtmipelgjmmgmnaaDoorW.PrintLast
set_option linter.unusedVariables false
set_option linter.unusedSimpArgs false
theorem FnExactDivideWave : laws_FnExactDivideWave.Pure := by
  intro n h s wn wh hs
  refine ⟨s.size + 801, ?_⟩
  unfold laws_FnExactDivideWave.f
  split
  · rfl
  unfold laws_toDivider.f
  simp only [Option.bind_some]
  obtain ⟨x, hx, hy⟩ : ∃ x, impl_DivideWave.f n h s = some x ∧ spec_DivideWave.f (s.size + 801) n h s = some x := by
    unfold impl_DivideWave.f spec_DivideWave.f spec_DivideWave.fB
    rw [valid_tells, is_tells]
    simp only [Option.bind_some]
    have hi : impl_IsWave.f s = some (isWaveB s) := rfl
    rw [hi, wave_tells s hs _ (by omega)]
    simp only [Option.bind_some]
    cases hd : dividerOk n h with
    | false => exact ⟨_, rfl, rfl⟩
    | true =>
      cases hw : isWaveB s with
      | false => exact ⟨_, rfl, rfl⟩
      | true =>
        have hne := dividerOk_ne hd
        rw [if_pos rfl, if_pos rfl, if_pos rfl, if_pos rfl, divide_tells n h s hne hw _ (by omega)]
        unfold impl_divideWave.f
        have hl : s.size ≤ 400 := by
          unfold isWaveB at hw
          rw [Bool.and_eq_true, decide_eq_true_eq] at hw
          exact hw.1
        rw [if_pos ⟨hl, hne⟩]
        exact ⟨_, rfl, rfl⟩
  rw [hx, hy]
  simp
end Go.Proofs.YtmipelgjmmgmnaaDoor.Pure
