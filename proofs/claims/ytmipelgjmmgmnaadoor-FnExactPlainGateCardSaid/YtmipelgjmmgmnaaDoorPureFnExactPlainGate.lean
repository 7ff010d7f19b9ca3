/- For every two texts the law of PlainGate answers yes. -/
import Derived.Test.YtmipelgjmmgmnaaDoorPureThree
import Derived.Test.YtmipelgjmmgmnaaDoorPaxf4
namespace Go.Proofs.YtmipelgjmmgmnaaDoor.Pure
open Go.RowKit Go.Proofs.YtmipelgjmmgmnaaDoor.Pa Go.Proofs.YtmipelgjmmgmnaaDoorW.PrintWords Go.Proofs.YtmipelgjmmgmnaaDoorW.PrintLast
set_option linter.unusedVariables false
set_option linter.unusedSimpArgs false
theorem FnExactPlainGate : laws_FnExactPlainGate.Pure := by
  intro a b ha hb
  refine ⟨a.size + b.size + 1, ?_⟩
  unfold laws_FnExactPlainGate.f
  split
  · rfl
  split
  · rfl
  have hj : joinOk a b = (isWaveB a && isWaveB b && isWaveB a && (a.size == b.size) && (b.size == a.size)) := by
    unfold joinOk
    rw [beq_turn b.size a.size]
    cases isWaveB a <;> cases isWaveB b <;> cases (a.size == b.size) <;> rfl
  have hsp : spec_PlainGate.f (a.size + b.size + 1) a b = impl_PlainGate.f a b := by
    unfold spec_PlainGate.f impl_PlainGate.f impl_JoinWaves.f
    rw [three_tells a b a ha hb ha _ (by omega) (by omega) (by omega), ← hj, Option.bind_some, if_pos rfl]
    cases hs : joinOk a b with
    | false => rfl
    | true =>
      rw [hj] at hs
      simp only [Bool.and_eq_true, beq_iff_eq] at hs
      have hl := (isWave_le hs.1.1.1.1).1
      rw [if_pos rfl, if_pos rfl]
      unfold spec_l01Join.f
      rw [if_pos ⟨rfl, by omega, hl⟩]
      rfl
  rw [hsp]
  have hi : ∃ x, impl_PlainGate.f a b = some x := by
    unfold impl_PlainGate.f impl_JoinWaves.f
    rw [if_pos rfl]
    split
    · exact ⟨_, rfl⟩
    · exact ⟨_, rfl⟩
  obtain ⟨x, hx⟩ := hi
  rw [hx]
  simp
end Go.Proofs.YtmipelgjmmgmnaaDoor.Pure
