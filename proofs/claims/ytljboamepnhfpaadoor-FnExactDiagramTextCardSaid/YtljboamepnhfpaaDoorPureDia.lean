/- Diagrams as a law hands them on: measured, laid anew, compared. -/
import Derived.Test.YtljboamepnhfpaaDoorPureEqB
import Derived.Test.YtljboamepnhfpaaDoorPaxf4
import Derived.Test.YtljboamepnhfpaaDoorPaxf6
import Derived.Test.YtljboamepnhfpaaDoorPaxf8
namespace Go.Proofs.YtljboamepnhfpaaDoor.Pure
open Go.RowKit Go.Proofs.YtljboamepnhfpaaDoor.Pa Go.Proofs.YtljboamepnhfpaaDoorW.PrintWords Go.Proofs.YtljboamepnhfpaaDoorW.PrintLast
set_option linter.unusedVariables false
set_option linter.unusedSimpArgs false

def convB (x : S47) : S42 := ⟨x.f0, x.f1, x.f2⟩
theorem rdL_get {l : List S47} {i : Nat} (h : i < l.length) : rd_T47 l (i : Int) = l[i] := by
  unfold rd_T47
  rw [List.getD_eq_getElem?_getD, Int.toNat_natCast, List.getElem?_eq_getElem h]
  rfl
theorem toB_loop (l : List S47) (hl : l.length ≤ 4611686018427387904) (d : Nat) : ∀ (k : Nat) (acc : List S42) (i : Nat), acc.length = l.length → i + d = l.length → d < k →
    laws_toBoundS.l0 k l acc (i : Int) = some (acc.take i ++ (l.drop i).map convB) := by
  induction d with
  | zero =>
    intro k acc i ha h hk
    obtain ⟨k, rfl⟩ : ∃ m, k = m + 1 := ⟨k - 1, by omega⟩
    simp only [laws_toBoundS.l0]
    rw [if_neg (by omega), List.take_of_length_le (by omega), List.drop_of_length_le (by omega)]
    simp
  | succ d ih =>
    intro k acc i ha h hk
    obtain ⟨k, rfl⟩ : ∃ m, k = m + 1 := ⟨k - 1, by omega⟩
    have hi : i < l.length := by omega
    simp only [laws_toBoundS.l0, laws_toBound.f, Option.bind_some]
    rw [if_pos (by omega), if_pos (by omega), if_pos (by omega), wrap_id (by omega) (by omega), Int.toNat_natCast, rdL_get hi]
    have := ih k (acc.set i ⟨(l[i]).f0, (l[i]).f1, (l[i]).f2⟩) (i + 1) (by simpa using ha) (by omega) (by omega)
    push_cast at this
    rw [this, List.drop_eq_getElem_cons hi, List.map_cons]
    have ht : (acc.set i (⟨(l[i]).f0, (l[i]).f1, (l[i]).f2⟩ : S42)).take (i + 1) = acc.take i ++ [convB (l[i])] := by
      rw [List.take_succ_eq_append_getElem (by simp; omega), List.take_set_of_le (by omega)]
      simp [convB]
    rw [ht]
    simp
theorem toDia (n : Int) (l : List S47) (hl : l.length ≤ 1048576) : ∀ k, l.length < k → laws_toDiagram.f k n l = some (n, l.map convB) := by
  intro k hk
  unfold laws_toDiagram.f laws_toBoundS.f
  rw [if_pos (by omega), if_pos (by omega)]
  have := toB_loop l (by omega) l.length k (List.replicate ((l.length : Int)).toNat z42) 0 (by simp) (by omega) hk
  rw [show ((0 : Nat) : Int) = 0 from rfl] at this
  rw [this]
  simp
theorem szDia (n : Int) (l : List S47) (hl : l.length ≤ 9223372036854775807) : laws_szDiagram.f n l 1048576 = some (if 1048576 < l.length then -1 else 1048576 - (l.length : Int)) := by
  unfold laws_szDiagram.f laws_szBoundS.f
  rw [wrap_id (by omega) (by omega)]
  by_cases h : 1048576 < l.length
  · rw [if_pos (by omega), if_pos h]
    simp
  · rw [if_neg (by omega), if_neg h]
    simp only [Option.bind_some]
    rw [if_neg (by omega)]
theorem eqDia (n : Int) (l : List S42) (hl : l.length ≤ 4611686018427387904) : ∀ k, l.length < k → laws_eqDiagram.f k n l n l = some true := by
  intro k hk
  unfold laws_eqDiagram.f
  rw [if_pos rfl, eqB l hl k hk]
  simp
end Go.Proofs.YtljboamepnhfpaaDoor.Pure
