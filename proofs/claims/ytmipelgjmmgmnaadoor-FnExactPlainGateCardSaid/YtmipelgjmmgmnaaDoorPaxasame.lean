-- Written for this claim by a program of this session.
import Derived.Test.YtmipelgjmmgmnaaDoorPax0
import Derived.Test.YtmipelgjmmgmnaaDoorPaxf62
import Derived.Test.YtmipelgjmmgmnaaDoorPaxf52
namespace Go.Proofs.YtmipelgjmmgmnaaDoor.Pa
open Go.RowKit Go.Proofs.YtmipelgjmmgmnaaDoorW.PrintWords Go.Proofs.YtmipelgjmmgmnaaDoorW.PrintLast Go.Proofs.YtmipelgjmmgmnaaDoorW.PrintMore
attribute [local go_sem] max2_int min2_int max_two min_two max_three min_three max_four min_four   -- for this text's walks alone
set_option linter.unusedVariables false
set_option linter.unusedSimpArgs false

/-! ### AUX same -/
theorem sameWave_le {n : Nat} {x : ByteArray} (h : sameWave n x = true) : x.size ≤ 400 ∧ x.size = n ∧ waveB x.data.toList = true := by
  unfold sameWave isWaveB at h
  simp only [Bool.and_eq_true, decide_eq_true_eq, beq_iff_eq] at h
  exact ⟨h.1.1, h.2, h.1.2⟩
def allSame (l : List ByteArray) : Bool := !(l.any fun x => !sameWave (firstSize l) x)
theorem allSame_mem {l : List ByteArray} (h : allSame l = true) : ∀ x ∈ l, sameWave (firstSize l) x = true := by
  unfold allSame at h
  intro x hx
  cases hs : sameWave (firstSize l) x with
  | true => rfl
  | false =>
    have : (l.any fun x => !sameWave (firstSize l) x) = true := List.any_eq_true.2 ⟨x, hx, by rw [hs]; rfl⟩
    rw [this] at h
    exact absurd h (by decide)
theorem areWaves_tells (l : List ByteArray) (h : 0 < l.length) : impl_areWaves.f l = some (allSame l) := if_pos h

end Go.Proofs.YtmipelgjmmgmnaaDoor.Pa
