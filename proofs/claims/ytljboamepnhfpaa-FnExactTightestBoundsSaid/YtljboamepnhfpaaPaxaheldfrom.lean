import Derived.Test.YtljboamepnhfpaaPax0
import Derived.Test.YtljboamepnhfpaaCore6
import Derived.Test.YtljboamepnhfpaaPaxaheld
namespace Go.Proofs.Ytljboamepnhfpaa.Pa
open Go.RowKit Go.Proofs.YtljboamepnhfpaaW.PrintWords Go.Proofs.YtljboamepnhfpaaW.PrintLast Go.Proofs.YtljboamepnhfpaaW.PrintMore
set_option linter.unusedVariables false
set_option linter.unusedSimpArgs false
/-- A list is marked from a number on, and looked at again. -/
theorem marks_from (l : List Int) (a : Int) (h : l.length ≤ 1048576) (h0 : 0 ≤ a) (h1 : a ≤ 2199027449856) : ∃ l' : List Int, l'.length = l.length ∧ laws_markInt64S.f (l.length + 1) l a = some (a + (l.length : Int), l') ∧ laws_heldInt64S.f (l.length + 1) l' a = some (a + (l.length : Int)) := by
  refine ⟨(List.range l.length).map fun (j : Nat) => a + (j : Int), by simp, ?_, ?_⟩
  · have := markL_loop l.length (l.length + 1) l a 0 (by omega) (by omega) (by omega) (by omega) (by omega)
    unfold laws_markInt64S.f
    simpa using this
  · have := heldL_loop ((List.range l.length).map fun (j : Nat) => a + (j : Int)) a (by simp; omega) (by
      intro j hj
      rw [List.length_map, List.length_range] at hj
      rw [List.getD_eq_getElem?_getD, List.getElem?_map, List.getElem?_range hj]
      rfl) (by omega) (by simp; omega) l.length (l.length + 1) 0 (by simp) (by omega)
    unfold laws_heldInt64S.f
    simpa using this
/-- The number with which row i begins. -/
def offs (gs : List (List Int)) (k0 : Int) : Nat → Int
  | 0 => k0
  | i + 1 => offs gs k0 i + ((gs.getD i []).length : Int)
theorem offs_in (gs : List (List Int)) (k0 : Int) (hw : ∀ g ∈ gs, g.length ≤ 1048576) (h0 : 0 ≤ k0) (h1 : k0 ≤ 1048576) : ∀ i : Nat, 0 ≤ offs gs k0 i ∧ offs gs k0 i ≤ 1048576 + i * 1048576 := by
  intro i
  induction i with
  | zero => exact ⟨h0, by simp only [offs]; omega⟩
  | succ i ih =>
    have : (gs.getD i []).length ≤ 1048576 := by
      by_cases h : i < gs.length
      · rw [List.getD_eq_getElem?_getD, List.getElem?_eq_getElem h]
        exact hw _ (List.getElem_mem h)
      · rw [List.getD_eq_getElem?_getD, List.getElem?_eq_none (by omega)]
        simp
    simp only [offs]
    omega
/-- Rows that hold the numbers from k0 on. -/
def HoldsFrom (gs : List (List Int)) (k0 : Int) (ys : List (List Int)) (n : Nat) : Prop := ∀ i, i < n → (ys.getD i []).length = (gs.getD i []).length ∧ laws_heldInt64S.f ((gs.getD i []).length + 1) (ys.getD i []) (offs gs k0 i) = some (offs gs k0 (i + 1))

end Go.Proofs.Ytljboamepnhfpaa.Pa
