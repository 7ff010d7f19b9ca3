-- Written for this claim by a program of this session.
import Derived.Test.YtbgokpobaemibaaDoorKPureEqB
import Derived.Test.YtbgokpobaemibaaDoorKPaxf37
/- Lists of bounds that are marked by a law. -/
namespace Go.Proofs.YtbgokpobaemibaaDoor.Pure
open Go.RowKit Go.Proofs.YtbgokpobaemibaaDoor.Pa Go.Proofs.YtbgokpobaemibaaDoorW.PrintWords Go.Proofs.YtbgokpobaemibaaDoorW.PrintLast
set_option linter.unusedVariables false
set_option linter.unusedSimpArgs false

/-- Bounds that hold the numbers a, a + 1, .. -/
def boundsFrom (a : Int) : Nat → List S39
 | 0 => []
 | n + 1 => ⟨a, a + 1, a + 2⟩ :: boundsFrom (a + 3) n
theorem boundsFrom_length (a : Int) (n : Nat) : (boundsFrom a n).length = n := by
 induction n generalizing a with
 | zero => rfl
 | succ n ih => simp [boundsFrom, ih]
theorem markB_loop (d : Nat) : ∀ (k : Nat) (l : List S39) (a : Int) (i : Nat), i + d = l.length → d < k → 0 ≤ a → a + 3 * d ≤ 4611686018427387904 → l.length ≤ 4611686018427387904 →
  laws_markBoundS.l0 k l a (i : Int) = some (a + 3 * d, l.take i ++ boundsFrom a d) := by
 induction d with
 | zero =>
  intro k l a i h hk h0 ha hl
  obtain ⟨k, rfl⟩ : ∃ m, k = m + 1 := ⟨k - 1, by omega⟩
  simp only [laws_markBoundS.l0]
  rw [if_neg (by omega), List.take_of_length_le (by omega)]
  simp [boundsFrom]
 | succ d ih =>
  intro k l a i h hk h0 ha hl
  obtain ⟨k, rfl⟩ : ∃ m, k = m + 1 := ⟨k - 1, by omega⟩
  simp only [laws_markBoundS.l0]
  rw [if_pos (by omega), if_pos (by omega), wrap_id (x := a + 1) (by omega) (by omega), wrap_id (x := a + 1 + 1) (by omega) (by omega), wrap_id (x := a + 1 + 1 + 1) (by omega) (by omega), wrap_id (x := (i : Int) + 1) (by omega) (by omega)]
  have hi : i < l.length := by omega
  simp only [Option.bind_some, Int.toNat_natCast]
  simp only [rdB_set hi, List.set_set]
  have := ih k (l.set i ⟨a, a + 1, a + 2⟩) (a + 3) (i + 1) (by simp; omega) (by omega) (by omega) (by omega) (by simpa using hl)
  push_cast at this
  rw [show a + 1 + 1 + 1 = a + 3 from by omega, show a + 1 + 1 = a + 2 from by omega, this]
  have ht : (l.set i (⟨a, a + 1, a + 2⟩ : S39)).take (i + 1) = l.take i ++ [⟨a, a + 1, a + 2⟩] := by
   rw [List.take_succ_eq_append_getElem (by simp; omega), List.take_set_of_le (by omega)]
   simp
  rw [ht]
  simp only [Option.some.injEq, Prod.mk.injEq]
  exact ⟨by omega, by simp [boundsFrom]⟩
theorem markB (l : List S39) (hl : l.length ≤ 4611686018427387) : ∀ k, l.length < k → laws_markBoundS.f k l 1 = some (1 + 3 * (l.length : Int), boundsFrom 1 l.length) := by
 intro k hk
 unfold laws_markBoundS.f
 have := markB_loop l.length k l 1 0 (by omega) hk (by omega) (by omega) (by omega)
 simpa using this
end Go.Proofs.YtbgokpobaemibaaDoor.Pure
