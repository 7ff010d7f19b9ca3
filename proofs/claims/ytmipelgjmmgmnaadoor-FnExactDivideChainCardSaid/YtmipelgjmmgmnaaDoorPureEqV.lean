/- Lists of dividers that a law hands on and compares. -/
import Derived.Test.YtmipelgjmmgmnaaDoorPureBase
import Derived.Test.YtmipelgjmmgmnaaDoorPaxf30
import Derived.Test.YtmipelgjmmgmnaaDoorPaxf28
namespace Go.Proofs.YtmipelgjmmgmnaaDoor.Pure
open Go.RowKit Go.Proofs.YtmipelgjmmgmnaaDoor.Pa Go.Proofs.YtmipelgjmmgmnaaDoorW.PrintWords Go.Proofs.YtmipelgjmmgmnaaDoorW.PrintLast
set_option linter.unusedVariables false
set_option linter.unusedSimpArgs false

theorem rdV_get {l : List S32} {i : Nat} (h : i < l.length) : rd_T32 l (i : Int) = l[i] := by
  unfold rd_T32
  rw [List.getD_eq_getElem?_getD, Int.toNat_natCast, List.getElem?_eq_getElem h]
  rfl
theorem rdV_set {l : List S32} {i : Nat} (h : i < l.length) (x : S32) : rd_T32 (l.set i x) (i : Int) = x := by
  rw [rdV_get (by simpa using h)]
  simp
theorem eqV_loop (l : List S32) (hl : l.length ≤ 4611686018427387904) (d : Nat) : ∀ (k i : Nat), i + d = l.length → d < k → laws_eqDividerS.l0 k l l (i : Int) = some true := by
  induction d with
  | zero =>
    intro k i h hk
    obtain ⟨k, rfl⟩ : ∃ m, k = m + 1 := ⟨k - 1, by omega⟩
    simp only [laws_eqDividerS.l0]
    rw [if_neg (by omega)]
  | succ d ih =>
    intro k i h hk
    obtain ⟨k, rfl⟩ : ∃ m, k = m + 1 := ⟨k - 1, by omega⟩
    simp only [laws_eqDividerS.l0, laws_eqDivider.f, if_true, Option.bind_some]
    rw [if_pos (by omega), if_pos (by omega), if_pos (by omega), wrap_id (by omega) (by omega)]
    exact ih k (i + 1) (by omega) (by omega)
theorem eqV (l : List S32) (hl : l.length ≤ 4611686018427387904) : ∀ k, l.length < k → laws_eqDividerS.f k l l = some true := by
  intro k hk
  unfold laws_eqDividerS.f
  rw [if_pos rfl]
  exact eqV_loop l hl l.length k 0 (by omega) hk
def convV (x : S30) : S32 := ⟨x.f0, x.f1⟩
theorem rdVL_get {l : List S30} {i : Nat} (h : i < l.length) : rd_T30 l (i : Int) = l[i] := by
  unfold rd_T30
  rw [List.getD_eq_getElem?_getD, Int.toNat_natCast, List.getElem?_eq_getElem h]
  rfl
theorem toV_loop (l : List S30) (hl : l.length ≤ 4611686018427387904) (d : Nat) : ∀ (k : Nat) (acc : List S32) (i : Nat), acc.length = l.length → i + d = l.length → d < k →
    laws_toDividerS.l0 k l acc (i : Int) = some (acc.take i ++ (l.drop i).map convV) := by
  induction d with
  | zero =>
    intro k acc i ha h hk
    obtain ⟨k, rfl⟩ : ∃ m, k = m + 1 := ⟨k - 1, by omega⟩
    simp only [laws_toDividerS.l0]
    rw [if_neg (by omega), List.take_of_length_le (by omega), List.drop_of_length_le (by omega)]
    simp
  | succ d ih =>
    intro k acc i ha h hk
    obtain ⟨k, rfl⟩ : ∃ m, k = m + 1 := ⟨k - 1, by omega⟩
    have hi : i < l.length := by omega
    simp only [laws_toDividerS.l0, laws_toDivider.f, Option.bind_some]
    rw [if_pos (by omega), if_pos (by omega), if_pos (by omega), wrap_id (by omega) (by omega), Int.toNat_natCast, rdVL_get hi]
    have := ih k (acc.set i ⟨(l[i]).f0, (l[i]).f1⟩) (i + 1) (by simpa using ha) (by omega) (by omega)
    push_cast at this
    rw [this, List.drop_eq_getElem_cons hi, List.map_cons]
    have ht : (acc.set i (⟨(l[i]).f0, (l[i]).f1⟩ : S32)).take (i + 1) = acc.take i ++ [convV (l[i])] := by
      rw [List.take_succ_eq_append_getElem (by simp; omega), List.take_set_of_le (by omega)]
      simp [convV]
    rw [ht]
    simp
theorem toV (l : List S30) (hl : l.length ≤ 1048576) : ∀ k, l.length < k → laws_toDividerS.f k l = some (l.map convV) := by
  intro k hk
  unfold laws_toDividerS.f
  rw [if_pos (by omega), if_pos (by omega)]
  have := toV_loop l (by omega) l.length k (List.replicate ((l.length : Int)).toNat z32) 0 (by simp) (by omega) hk
  rw [show ((0 : Nat) : Int) = 0 from rfl] at this
  rw [this]
  simp
end Go.Proofs.YtmipelgjmmgmnaaDoor.Pure
