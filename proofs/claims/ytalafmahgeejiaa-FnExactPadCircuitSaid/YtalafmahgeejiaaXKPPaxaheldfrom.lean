-- Written for this claim by a program of this session.
import Derived.Test.YtalafmahgeejiaaXPax0
import Derived.Test.YtalafmahgeejiaaXKPPaxf26
import Derived.Test.YtalafmahgeejiaaXKPPaxf38
import Derived.Test.YtalafmahgeejiaaXKPPaxaheld
namespace Go.Proofs.Ytalafmahgeejiaa.Pa
open Go.RowKit Go.Proofs.YtalafmahgeejiaaW.PrintWords Go.Proofs.YtalafmahgeejiaaW.PrintLast Go.Proofs.YtalafmahgeejiaaW.PrintMore
attribute [local go_sem] max2_int min2_int max_two min_two max_three min_three max_four min_four   -- for this text's walks alone
set_option linter.unusedVariables false
set_option linter.unusedSimpArgs false

/-! ### AUX heldfrom -/
/-- A list is marked from a number on, and looked at again. -/
theorem marks_from (l : List Int) (a : Int) (h : l.length ≤ 1048576) (h0 : 0 ≤ a) (h1 : a ≤ 2199027449856) : ∃ l' : List Int, l'.length = l.length ∧ laws_markInt64S.f (l.length + 1) l a = some (a + (l.length : Int), l') ∧ laws_heldInt64S.f (l.length + 1) l' a = some (a + (l.length : Int)) := by
 refine ⟨(List.range l.length).map fun (j : Nat) => a + (j : Int), by simp, ?_, ?_⟩
 ·have := markL_loop l.length (l.length + 1) l a 0 (by omega) (by omega) (by omega) (by omega) (by omega)
  unfold laws_markInt64S.f
  simpa using this
 ·have := heldL_loop ((List.range l.length).map fun (j : Nat) => a + (j : Int)) a (by simp; omega) (by
   intro j hj
   rw [List.length_map, List.length_range] at hj
   rw [List.getD_eq_getElem?_getD, List.getElem?_map, List.getElem?_range hj]
   rfl) (by omega) (by simp; omega) l.length (l.length + 1) 0 (by simp) (by omega)
  unfold laws_heldInt64S.f
  simpa using this
/-- The number with which row i begins. -/
def offs (gs : List (List Int)) (k0 : Int) : Nat → Int
 | 0 => k0
 | i + 1 => offs gs k0 i + ((gs.getD i []).length : Int)
/-- Rows that hold the numbers from k0 on. -/
def HoldsFrom (gs : List (List Int)) (k0 : Int) (ys : List (List Int)) (n : Nat) : Prop := ∀ i, i < n → (ys.getD i []).length = (gs.getD i []).length ∧ laws_heldInt64S.f ((gs.getD i []).length + 1) (ys.getD i []) (offs gs k0 i) = some (offs gs k0 (i + 1))

end Go.Proofs.Ytalafmahgeejiaa.Pa
