-- Written for this claim by a program of this session.
import Derived.Test.YtbgokpobaemibaaDoorCore1
import Derived.Test.YtbgokpobaemibaaDoorKPaxf36
/- Lists of bounds that are compared by a law. -/
namespace Go.Proofs.YtbgokpobaemibaaDoor.Pure
open Go.RowKit Go.Proofs.YtbgokpobaemibaaDoor.Pa Go.Proofs.YtbgokpobaemibaaDoorW.PrintWords Go.Proofs.YtbgokpobaemibaaDoorW.PrintLast
set_option linter.unusedVariables false
set_option linter.unusedSimpArgs false

theorem rdB_get {l : List S39} {i : Nat} (h : i < l.length) : rd_T39 l (i : Int) = l[i] := by
 unfold rd_T39
 rw [List.getD_eq_getElem?_getD, Int.toNat_natCast, List.getElem?_eq_getElem h]
 rfl
theorem rdB_set {l : List S39} {i : Nat} (h : i < l.length) (x : S39) : rd_T39 (l.set i x) (i : Int) = x := by
 rw [rdB_get (by simpa using h)]
 simp
theorem eqB_loop (l : List S39) (hl : l.length ≤ 4611686018427387904) (d : Nat) : ∀ (k i : Nat), i + d = l.length → d < k → laws_eqBoundS.l0 k l l (i : Int) = some true := by
 induction d with
 | zero =>
  intro k i h hk
  obtain ⟨k, rfl⟩ : ∃ m, k = m + 1 := ⟨k - 1, by omega⟩
  simp only [laws_eqBoundS.l0]
  rw [if_neg (by omega)]
 | succ d ih =>
  intro k i h hk
  obtain ⟨k, rfl⟩ : ∃ m, k = m + 1 := ⟨k - 1, by omega⟩
  simp only [laws_eqBoundS.l0, laws_eqBound.f, if_true, Option.bind_some]
  rw [if_pos (by omega), if_pos (by omega), if_pos (by omega), wrap_id (by omega) (by omega)]
  exact ih k (i + 1) (by omega) (by omega)
theorem eqB (l : List S39) (hl : l.length ≤ 4611686018427387904) : ∀ k, l.length < k → laws_eqBoundS.f k l l = some true := by
 intro k hk
 unfold laws_eqBoundS.f
 rw [if_pos rfl]
 exact eqB_loop l hl l.length k 0 (by omega) hk
end Go.Proofs.YtbgokpobaemibaaDoor.Pure
