-- Written for this claim by a program of this session.
import Derived.Test.YtbkofbcmhddbfaaFPax0
import Derived.Test.YtbkofbcmhddbfaaFKFPaxf18
namespace Go.Proofs.Ytbkofbcmhddbfaa.Pa
open Go.RowKit Go.Proofs.YtbkofbcmhddbfaaW.PrintWords Go.Proofs.YtbkofbcmhddbfaaW.PrintLast Go.Proofs.YtbkofbcmhddbfaaW.PrintMore
attribute [local go_sem] max2_int min2_int max_two min_two max_three min_three max_four min_four   -- for this text's walks alone
set_option linter.unusedVariables false
set_option linter.unusedSimpArgs false

/-! ### AUX marks -/
theorem marks_loop (d : Nat) : ∀ (k : Nat) (l : List Int) (a : Int) (i : Nat), i + d = l.length → d < k → 0 ≤ a → a + d ≤ 4611686018427387904 → l.length ≤ 4611686018427387904 → ∃ l' : List Int, l'.length = l.length ∧ laws_markInt64S.l0 k l a (i : Int) = some (a + d, l') := by
 induction d with
 | zero =>
  intro k l a i h hk h0 ha hl
  obtain ⟨k, rfl⟩ : ∃ m, k = m + 1 := ⟨k - 1, by omega⟩
  refine ⟨l, rfl, ?_⟩
  simp only [laws_markInt64S.l0]
  rw [if_neg (by omega)]
  simp
 | succ d ih =>
  intro k l a i h hk h0 ha hl
  obtain ⟨k, rfl⟩ : ∃ m, k = m + 1 := ⟨k - 1, by omega⟩
  obtain ⟨l', hl', he⟩ := ih k (l.set i a) (a + 1) (i + 1) (by simp; omega) (by omega) (by omega) (by omega) (by simpa using hl)
  refine ⟨l', by simpa using hl', ?_⟩
  simp only [laws_markInt64S.l0]
  rw [if_pos (by omega), if_pos (by omega), show wrap64 (a + 1) = a + 1 by unfold wrap64; omega, show wrap64 ((i : Int) + 1) = ((i + 1 : Nat) : Int) by unfold wrap64; omega, Int.toNat_natCast, he]
  simp only [Option.some.injEq, Prod.mk.injEq, and_true]
  omega
theorem marks_tells (l : List Int) (a : Int) (h0 : 0 ≤ a) (h1 : a + l.length ≤ 4611686018427387904) (h2 : l.length ≤ 4611686018427387904) : ∃ l' : List Int, l'.length = l.length ∧ laws_markInt64S.f (l.length + 1) l a = some (a + l.length, l') :=
 marks_loop l.length (l.length + 1) l a 0 (by omega) (by omega) h0 h1 h2

end Go.Proofs.Ytbkofbcmhddbfaa.Pa
