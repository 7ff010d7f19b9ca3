/- Lists of whole numbers that are compared by a law. -/
import Derived.Test.YtalafmahgeejiaaPureBase
import Derived.Test.YtalafmahgeejiaaPaxf24
namespace Go.Proofs.Ytalafmahgeejiaa.Pure
open Go.RowKit Go.Proofs.Ytalafmahgeejiaa.Pa Go.Proofs.YtalafmahgeejiaaW.PrintWords Go.Proofs.YtalafmahgeejiaaW.PrintLast
set_option linter.unusedVariables false
set_option linter.unusedSimpArgs false

theorem eqI_loop (l : List Int) (hl : l.length ≤ 4611686018427387904) (d : Nat) : ∀ (k i : Nat), i + d = l.length → d < k → laws_eqInt64S.l0 k l l (i : Int) = some true := by
  induction d with
  | zero =>
    intro k i h hk
    obtain ⟨k, rfl⟩ : ∃ m, k = m + 1 := ⟨k - 1, by omega⟩
    simp only [laws_eqInt64S.l0]
    rw [if_neg (by omega)]
  | succ d ih =>
    intro k i h hk
    obtain ⟨k, rfl⟩ : ∃ m, k = m + 1 := ⟨k - 1, by omega⟩
    simp only [laws_eqInt64S.l0]
    rw [if_pos (by omega), if_pos (by omega), if_pos (by omega), if_pos trivial, wrap_id (by omega) (by omega)]
    exact ih k (i + 1) (by omega) (by omega)
theorem eqI (l : List Int) (hl : l.length ≤ 4611686018427387904) : ∀ k, l.length < k → laws_eqInt64S.f k l l = some true := by
  intro k hk
  unfold laws_eqInt64S.f
  rw [if_pos rfl]
  exact eqI_loop l hl l.length k 0 (by omega) hk
end Go.Proofs.Ytalafmahgeejiaa.Pure
