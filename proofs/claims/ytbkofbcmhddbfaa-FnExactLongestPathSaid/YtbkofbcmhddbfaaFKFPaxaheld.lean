-- Written for this claim by a program of this session.
import Derived.Test.YtbkofbcmhddbfaaFPax0
import Derived.Test.YtbkofbcmhddbfaaFKFPaxf18
import Derived.Test.YtbkofbcmhddbfaaFKFPaxf19
namespace Go.Proofs.Ytbkofbcmhddbfaa.Pa
open Go.RowKit Go.Proofs.YtbkofbcmhddbfaaW.PrintWords Go.Proofs.YtbkofbcmhddbfaaW.PrintLast Go.Proofs.YtbkofbcmhddbfaaW.PrintMore
attribute [local go_sem] max2_int min2_int max_two min_two max_three min_three max_four min_four   -- for this text's walks alone
set_option linter.unusedVariables false
set_option linter.unusedSimpArgs false

/-! ### AUX held -/
theorem markL_loop (d : Nat) : ∀ (k : Nat) (l : List Int) (a : Int) (i : Nat), i + d = l.length → d < k → 0 ≤ a → a + d ≤ 4611686018427387904 → l.length ≤ 4611686018427387904 →
  laws_markInt64S.l0 k l a (i : Int) = some (a + d, l.take i ++ (List.range d).map fun (j : Nat) => a + (j : Int)) := by
 induction d with
 | zero =>
  intro k l a i h hk h0 ha hl
  obtain ⟨k, rfl⟩ : ∃ m, k = m + 1 := ⟨k - 1, by omega⟩
  simp only [laws_markInt64S.l0]
  rw [if_neg (by omega), List.take_of_length_le (by omega)]
  simp
 | succ d ih =>
  intro k l a i h hk h0 ha hl
  obtain ⟨k, rfl⟩ : ∃ m, k = m + 1 := ⟨k - 1, by omega⟩
  have e := ih k (l.set i a) (a + 1) (i + 1) (by simp; omega) (by omega) (by omega) (by omega) (by simpa using hl)
  simp only [laws_markInt64S.l0]
  rw [if_pos (by omega), if_pos (by omega), show wrap64 (a + 1) = a + 1 by unfold wrap64; omega, show wrap64 ((i : Int) + 1) = ((i + 1 : Nat) : Int) by unfold wrap64; omega, Int.toNat_natCast, e]
  have ht : (l.set i a).take (i + 1) = l.take i ++ [a] := by
   rw [List.take_succ_eq_append_getElem (by simp; omega), List.take_set_of_le (by omega)]
   simp
  rw [ht, List.range_succ_eq_map, List.map_cons, List.map_map, List.append_assoc]
  simp only [Option.some.injEq, Prod.mk.injEq, List.append_cancel_left_eq, List.singleton_append, List.cons.injEq]
  refine ⟨by omega, by simp, List.map_congr_left fun j _ => ?_⟩
  simp only [Function.comp]
  push_cast
  omega
theorem heldL_loop (l : List Int) (a : Int) (hl : l.length ≤ 4611686018427387904) (hv : ∀ j : Nat, j < l.length → l.getD j 0 = a + j) (h0 : 0 ≤ a) (ha : a + l.length ≤ 4611686018427387904) (d : Nat) : ∀ (k : Nat) (i : Nat), i + d = l.length → d < k →
  laws_heldInt64S.l0 k l (a + i) (i : Int) = some (a + l.length) := by
 induction d with
 | zero =>
  intro k i h hk
  obtain ⟨k, rfl⟩ : ∃ m, k = m + 1 := ⟨k - 1, by omega⟩
  simp only [laws_heldInt64S.l0]
  rw [if_neg (by omega), show i = l.length by omega]
 | succ d ih =>
  intro k i h hk
  obtain ⟨k, rfl⟩ : ∃ m, k = m + 1 := ⟨k - 1, by omega⟩
  have e := ih k (i + 1) (by omega) (by omega)
  have hi := hv i (by omega)
  simp only [laws_heldInt64S.l0]
  rw [if_pos (by omega), if_pos (by omega), if_pos (by unfold rd; rw [Int.toNat_natCast]; exact hi), show wrap64 (a + (i : Int) + 1) = a + ((i + 1 : Nat) : Int) by unfold wrap64; omega, show wrap64 ((i : Int) + 1) = ((i + 1 : Nat) : Int) by unfold wrap64; omega, e]
/-- A list is marked, and looked at again. -/
theorem marks_held (l : List Int) (h : l.length ≤ 1048576) : ∃ l' : List Int, l'.length = l.length ∧ laws_markInt64S.f (l.length + 1) l 1 = some (1 + (l.length : Int), l') ∧ laws_heldInt64S.f (l.length + 1) l' 1 = some (1 + (l.length : Int)) := by
 refine ⟨(List.range l.length).map fun (j : Nat) => 1 + (j : Int), by simp, ?_, ?_⟩
 ·have := markL_loop l.length (l.length + 1) l 1 0 (by omega) (by omega) (by omega) (by omega) (by omega)
  unfold laws_markInt64S.f
  simpa using this
 ·have := heldL_loop ((List.range l.length).map fun (j : Nat) => 1 + (j : Int)) 1 (by simp; omega) (by
   intro j hj
   rw [List.length_map, List.length_range] at hj
   rw [List.getD_eq_getElem?_getD, List.getElem?_map, List.getElem?_range hj]
   rfl) (by omega) (by simp; omega) l.length (l.length + 1) 0 (by simp) (by omega)
  unfold laws_heldInt64S.f
  simpa using this

end Go.Proofs.Ytbkofbcmhddbfaa.Pa
