/- What the reference's IsTiming answers. -/
import Derived.Test.YtljboamepnhfpaaPaxf18
import Derived.Test.YtljboamepnhfpaaPaxf20
import Derived.Test.YtljboamepnhfpaaPureBase
namespace Go.Proofs.Ytljboamepnhfpaa.Pure
open Go.RowKit Go.Proofs.Ytljboamepnhfpaa.Pa Go.Proofs.YtljboamepnhfpaaW.PrintWords Go.Proofs.YtljboamepnhfpaaW.PrintLast
set_option linter.unusedVariables false
set_option linter.unusedSimpArgs false

theorem in_tellsI (x l u : Int) : spec_l00In.f x l u = some (decide (l ≤ x) && decide (x ≤ u)) := by
  unfold spec_l00In.f
  by_cases h : l ≤ x <;> simp [h]
theorem rdB_get2 {l : List S45} {i : Nat} (h : i < l.length) : rd_T45 l (i : Int) = l[i] := by
  unfold rd_T45
  rw [List.getD_eq_getElem?_getD, Int.toNat_natCast, List.getElem?_eq_getElem h]
  rfl
theorem timing_l1 (n : Int) (l : List S45) (times : List Int) (hl : l.length ≤ 24)
    (hin : ∀ x ∈ l, 0 ≤ x.f0 ∧ x.f0 < (times.length : Int) ∧ 0 ≤ x.f1 ∧ x.f1 < (times.length : Int) ∧ -9223372036854775808 ≤ rd times x.f1 - rd times x.f0 ∧ rd times x.f1 - rd times x.f0 ≤ 9223372036854775807) (d : Nat) :
    ∀ (k i : Nat), i + d = l.length → d < k → spec_IsTiming.l1 k times (i : Int) n l = some (!(l.drop i).any (badBound times), n) := by
  induction d with
  | zero =>
    intro k i h hk
    obtain ⟨k, rfl⟩ : ∃ m, k = m + 1 := ⟨k - 1, by omega⟩
    simp only [spec_IsTiming.l1]
    rw [if_neg (by omega), List.drop_of_length_le (by omega)]
    simp
  | succ d ih =>
    intro k i h hk
    obtain ⟨k, rfl⟩ : ∃ m, k = m + 1 := ⟨k - 1, by omega⟩
    have hi : i < l.length := by omega
    obtain ⟨h0, h1, h2, h3, h4, h5⟩ := hin (l[i]) (List.getElem_mem hi)
    have hs := ih k (i + 1) (by omega) (by omega)
    push_cast at hs
    simp only [spec_IsTiming.l1]
    rw [rdB_get2 hi, if_pos (by omega), if_pos (by omega), if_pos h2, if_pos h3, if_pos h0, if_pos h1, wrap_id h4 h5, wrap_id (x := (i : Int) + 1) (by omega) (by omega), hs, List.drop_eq_getElem_cons hi, List.any_cons]
    unfold badBound
    by_cases hb : rd times (l[i]).f1 - rd times (l[i]).f0 > (l[i]).f2
    · rw [if_pos hb, decide_eq_true hb]
      simp
    · rw [if_neg hb, decide_eq_false hb]
      simp
theorem timing_l0 (n : Int) (l : List S45) (times : List Int) (hl : l.length ≤ 24) (ht : times.length ≤ 10)
    (hin : anyBadTime times = false → ∀ x ∈ l, 0 ≤ x.f0 ∧ x.f0 < (times.length : Int) ∧ 0 ≤ x.f1 ∧ x.f1 < (times.length : Int) ∧ -9223372036854775808 ≤ rd times x.f1 - rd times x.f0 ∧ rd times x.f1 - rd times x.f0 ≤ 9223372036854775807) (d : Nat) :
    ∀ (k i : Nat), i + d = times.length → (times.take i).any badTime = false → d + 30 < k → spec_IsTiming.l0 k times (i : Int) n l = some (!(times.drop i).any badTime && !anyBadBound times l, n) := by
  induction d with
  | zero =>
    intro k i h hb hk
    obtain ⟨k, rfl⟩ : ∃ m, k = m + 1 := ⟨k - 1, by omega⟩
    rw [List.take_of_length_le (by omega)] at hb
    have := timing_l1 n l times hl (hin hb) l.length k 0 (by omega) (by omega)
    simp only [spec_IsTiming.l0]
    rw [if_neg (by omega), List.drop_of_length_le (by omega)]
    rw [show ((0 : Nat) : Int) = 0 from rfl] at this
    rw [this]
    simp [anyBadBound]
  | succ d ih =>
    intro k i h hb hk
    obtain ⟨k, rfl⟩ : ∃ m, k = m + 1 := ⟨k - 1, by omega⟩
    have hi : i < times.length := by omega
    simp only [spec_IsTiming.l0]
    rw [rd_get hi, if_pos (by omega), if_pos (by omega), in_tellsI, List.drop_eq_getElem_cons hi, List.any_cons]
    simp only [Option.bind_some]
    have hbt : badTime (times[i]) = !(decide (-1000000 ≤ times[i]) && decide (times[i] ≤ 1000000)) := rfl
    cases hq : (decide (-1000000 ≤ times[i]) && decide (times[i] ≤ 1000000)) with
    | true =>
      rw [hq] at hbt
      rw [if_pos rfl, hbt, wrap_id (by omega) (by omega)]
      have hs := ih k (i + 1) (by omega) (by
        rw [List.take_succ_eq_append_getElem hi, List.any_append, hb]
        simp [hbt]) (by omega)
      push_cast at hs
      rw [hs]
      simp
    | false =>
      rw [hq] at hbt
      rw [if_neg (by simp), hbt]
      simp
theorem timing_spec (n : Int) (l : List S45) (times : List Int) : ∀ k, 100 ≤ k → spec_IsTiming.f k n l times = some (timingOk n l times) := by
  intro k hk
  obtain ⟨k, rfl⟩ : ∃ m, k = m + 1 := ⟨k - 1, by omega⟩
  unfold spec_IsTiming.f spec_IsTiming.fB spec_l04Is.f
  have hsame : diagramOkS n l = diagramOk n l := rfl
  simp only [Option.bind_some, hsame]
  unfold timingOk
  cases hv : diagramOk n l with
  | false =>
    simp only [Bool.false_eq_true, if_false, spec_IsTiming.j0, if_true]
    simp
  | true =>
    have hv' := hv
    unfold diagramOk at hv'
    simp only [Bool.and_eq_true, decide_eq_true_eq] at hv'
    simp only [if_true, spec_IsTiming.j0]
    by_cases hn : (times.length : Int) = n
    · have h1 : ((times.length : Int) != n) = false := bne_eq_false_iff_eq.mpr hn
      have h2 : ((times.length : Int) == n) = true := beq_iff_eq.mpr hn
      rw [h1, h2]
      simp only [Bool.false_eq_true, if_false]
      have := timing_l0 n l times hv'.1.2 (by omega) (fun hb => timing_range n l times hv hn hb) times.length k 0 (by omega) (by simp) (by omega)
      rw [show ((0 : Nat) : Int) = 0 from rfl] at this
      rw [this]
      simp [anyBadTime]
    · have h1 : ((times.length : Int) != n) = true := bne_iff_ne.mpr hn
      have h2 : ((times.length : Int) == n) = false := beq_eq_false_iff_ne.mpr hn
      rw [h1, h2]
      simp
end Go.Proofs.Ytljboamepnhfpaa.Pure
