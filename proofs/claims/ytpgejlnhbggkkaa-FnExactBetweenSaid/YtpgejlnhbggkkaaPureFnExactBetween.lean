/- Between answers as the reference does, for all arguments, and its answers share no memory. -/
import Derived.Test.YtpgejlnhbggkkaaPaxf7
import Derived.Test.YtpgejlnhbggkkaaPureMarksB
namespace Go.Proofs.Ytpgejlnhbggkkaa.Pure
open Go.RowKit Go.Proofs.Ytpgejlnhbggkkaa.Pa Go.Proofs.YtpgejlnhbggkkaaW.PrintWords Go.Proofs.YtpgejlnhbggkkaaW.PrintLast

theorem wrap_neg_limit (x : Int) (h : -9223372036854775808 ≤ x ∧ x ≤ 9223372036854775807) : ((-1000 ≤ wrap64 (-x) ∧ wrap64 (-x) ≤ 1000) ↔ (-1000 ≤ x ∧ x ≤ 1000)) := by
  unfold wrap64
  omega
theorem between_in (a b c : Int) : impl_within.f a b c = some (decide (b ≤ a) && decide (a ≤ c)) := by
  unfold impl_within.f
  by_cases h : b ≤ a <;> simp [h]
theorem between_in' (a b c : Int) : spec_l00In.f a b c = some (decide (b ≤ a) && decide (a ≤ c)) := by
  unfold spec_l00In.f
  by_cases h : b ≤ a <;> simp [h]
theorem wrap_9 : wrap64 (10 - 1) = 9 := by
  unfold wrap64
  omega
/-- What Between answers. -/
def betweenSpec (a b c d : Int) : List S71 × Bool :=
  if (0 ≤ a ∧ a ≤ 9) ∧ (0 ≤ b ∧ b ≤ 9) ∧ a ≠ b ∧ (-1000 ≤ d ∧ d ≤ 1000) ∧ (-1000 ≤ c ∧ c ≤ 1000) then ([⟨a, b, d⟩, ⟨b, a, wrap64 (-c)⟩], true) else ([], false)
theorem spec_between (a b c d : Int) : spec_Between.f a b c d = some (betweenSpec a b c d) := by
  unfold spec_Between.f spec_l04Bound.f betweenSpec
  simp only [between_in', wrap_9, Option.bind_some]
  by_cases h1 : 0 ≤ a ∧ a ≤ 9 <;> by_cases h2 : 0 ≤ b ∧ b ≤ 9 <;> by_cases h3 : a = b <;> by_cases h4 : -1000 ≤ d ∧ d ≤ 1000 <;> by_cases h5 : -1000 ≤ c ∧ c ≤ 1000 <;> simp [h1, h2, h3, h4, h5] <;> simp_all
theorem impl_between (a b c d : Int) (hc : -9223372036854775808 ≤ c ∧ c ≤ 9223372036854775807) : impl_Between.f a b c d = some (betweenSpec a b c d) := by
  unfold impl_Between.f impl_isBound.f impl_isLimit.f betweenSpec
  simp only [between_in, wrap_9, Option.bind_some]
  have hw := wrap_neg_limit c hc
  have hs : (b = a) = (a = b) := propext eq_comm
  simp only [hs]
  by_cases h1 : 0 ≤ a ∧ a ≤ 9 <;> by_cases h2 : 0 ≤ b ∧ b ≤ 9 <;> by_cases h3 : a = b <;> by_cases h4 : -1000 ≤ d ∧ d ≤ 1000 <;> by_cases h5 : -1000 ≤ c ∧ c ≤ 1000 <;> simp [h1, h2, h3, h4, h5, hw] <;> simp_all
theorem FnExactBetween : laws_FnExactBetween.Pure := by
  intro a b c d _ _ hc _
  have hc := wf64 hc
  have hs := spec_between a b c d
  have hi := impl_between a b c d hc
  obtain ⟨l, o, hl, hlo⟩ : ∃ l o, l.length ≤ 2 ∧ betweenSpec a b c d = (l, o) := by
    unfold betweenSpec
    split
    · exact ⟨_, _, by simp, rfl⟩
    · exact ⟨_, _, by simp, rfl⟩
  rw [hlo] at hs hi
  refine ⟨20, ?_⟩
  have e1 := eqB l (by omega) 20 (by omega)
  have e2 := eqB l (by omega) 19 (by omega)
  have m1 := markB l (by omega) 19 (by omega)
  have h1 := heldB l.length (by omega) 19 (by omega)
  have h2 := heldB l.length (by omega) 18 (by omega)
  unfold laws_FnExactBetween.f
  rw [hs, hi]
  simp only [Option.bind_some]
  rw [e1]
  simp only [Option.bind_some, if_true, bne_self_eq_false]
  rw [show (20 : Nat) = 19 + 1 from rfl]
  simp only [laws_FnExactBetween.j0, Bool.false_eq_true, if_false]
  rw [m1]
  simp only [Option.bind_some]
  rw [h1]
  simp only [Option.bind_some]
  rw [if_neg (by omega), if_pos trivial, hi]
  simp only [Option.bind_some]
  rw [e2]
  simp only [Option.bind_some, if_true, bne_self_eq_false]
  rw [show (19 : Nat) = 18 + 1 from rfl]
  simp only [laws_FnExactBetween.j1, Bool.false_eq_true, if_false]
  rw [h2]
  simp only [Option.bind_some]
  rw [if_neg (by omega), if_pos trivial]

end Go.Proofs.Ytpgejlnhbggkkaa.Pure
