-- Written for this claim by a program of this session.
import Derived.Test.YtmipelgjmmgmnaaDoorPax0
import Derived.Lib.SlTrimSet
namespace Go.Proofs.YtmipelgjmmgmnaaDoor.Pa
open Go.RowKit Go.Proofs.YtmipelgjmmgmnaaDoorW.PrintWords Go.Proofs.YtmipelgjmmgmnaaDoorW.PrintLast Go.Proofs.YtmipelgjmmgmnaaDoorW.PrintMore
attribute [local go_sem] max2_int min2_int max_two min_two max_three min_three max_four min_four   -- for this text's walks alone
set_option linter.unusedVariables false
set_option linter.unusedSimpArgs false

/-! ### AUX trimmed -/
theorem dropWhile_all {α : Type} (p : α → Bool) : ∀ l : List α, l.all p = true → l.dropWhile p = []
  | [], _ => rfl
  | a :: l, h => by
    simp only [List.all_cons, Bool.and_eq_true] at h
    rw [List.dropWhile_cons, if_pos h.1]
    exact dropWhile_all p l h.2
theorem all_dropWhile {α : Type} (p : α → Bool) : ∀ l : List α, (l.dropWhile p).all p = true → l.all p = true
  | [], _ => rfl
  | a :: l, h => by
    by_cases ha : p a = true
    · rw [List.dropWhile_cons, if_pos ha] at h
      simp only [List.all_cons, Bool.and_eq_true]
      exact ⟨ha, all_dropWhile p l h⟩
    · rw [List.dropWhile_cons, if_neg ha] at h
      exact h
theorem all_of_nil {α : Type} (p : α → Bool) (l : List α) (h : l.dropWhile p = []) : l.all p = true := all_dropWhile p l (by rw [h]; rfl)
theorem all_reverse {α : Type} (p : α → Bool) (l : List α) : l.reverse.all p = l.all p := by
  rw [Bool.eq_iff_iff, List.all_eq_true, List.all_eq_true]
  simp
/-- What Trim leaves is empty exactly where all letters are in the cutset. -/
theorem trimS_nil (l cs : List UInt8) : Lib.trimS l cs = [] ↔ l.all (fun b => cs.contains b) = true := by
  unfold Lib.trimS Lib.trimLeftS Lib.trimRightS
  constructor
  · intro h
    have h1 := all_of_nil _ _ h
    rw [all_reverse] at h1
    have h2 := all_dropWhile _ _ h1
    rwa [all_reverse] at h2
  · intro h
    rw [dropWhile_all _ l.reverse (by rw [all_reverse]; exact h)]
    rfl
/-- The text behind a list of letters, and whether it is empty. -/
def txt (l : List UInt8) : ByteArray := ⟨l.toArray⟩
theorem txt_toList (l : List UInt8) : (txt l).toList = l := by
  rw [Lib.toList_data]
  rfl
theorem txt_empty (l : List UInt8) : (txt l).toList.isEmpty = l.isEmpty := by rw [txt_toList]

end Go.Proofs.YtmipelgjmmgmnaaDoor.Pa
