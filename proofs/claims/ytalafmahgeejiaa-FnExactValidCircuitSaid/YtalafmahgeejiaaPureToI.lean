/- A list of whole numbers that a law lays anew. -/
import Derived.Test.YtalafmahgeejiaaPureBase
import Derived.Test.YtalafmahgeejiaaPaxf22
namespace Go.Proofs.Ytalafmahgeejiaa.Pure
open Go.RowKit Go.Proofs.Ytalafmahgeejiaa.Pa Go.Proofs.YtalafmahgeejiaaW.PrintWords Go.Proofs.YtalafmahgeejiaaW.PrintLast
set_option linter.unusedVariables false
set_option linter.unusedSimpArgs false

theorem toI_loop (l : List Int) (hl : l.length ≤ 4611686018427387904) (d : Nat) : ∀ (k : Nat) (acc : List Int) (i : Nat), acc.length = l.length → i + d = l.length → d < k →
    laws_toInt64S.l0 k l acc (i : Int) = some (acc.take i ++ l.drop i) := by
  induction d with
  | zero =>
    intro k acc i ha h hk
    obtain ⟨k, rfl⟩ : ∃ m, k = m + 1 := ⟨k - 1, by omega⟩
    simp only [laws_toInt64S.l0]
    rw [if_neg (by omega), List.take_of_length_le (by omega), List.drop_of_length_le (by omega)]
    simp
  | succ d ih =>
    intro k acc i ha h hk
    obtain ⟨k, rfl⟩ : ∃ m, k = m + 1 := ⟨k - 1, by omega⟩
    have hi : i < l.length := by omega
    simp only [laws_toInt64S.l0]
    rw [if_pos (by omega), if_pos (by omega), if_pos (by omega), wrap_id (by omega) (by omega), Int.toNat_natCast, rd_get hi]
    have := ih k (acc.set i (l[i])) (i + 1) (by simpa using ha) (by omega) (by omega)
    push_cast at this
    rw [this, List.drop_eq_getElem_cons hi]
    have ht : (acc.set i (l[i])).take (i + 1) = acc.take i ++ [l[i]] := by
      rw [List.take_succ_eq_append_getElem (by simp; omega), List.take_set_of_le (by omega)]
      simp
    rw [ht]
    simp
theorem toI (l : List Int) (hl : l.length ≤ 1048576) : ∀ k, l.length < k → laws_toInt64S.f k l = some l := by
  intro k hk
  unfold laws_toInt64S.f
  rw [if_pos (by omega), if_pos (by omega)]
  have := toI_loop l (by omega) l.length k (List.replicate ((l.length : Int)).toNat 0) 0 (by simp) (by omega) hk
  rw [show ((0 : Nat) : Int) = 0 from rfl] at this
  rw [this]
  simp
end Go.Proofs.Ytalafmahgeejiaa.Pure
