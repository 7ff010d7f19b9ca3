-- Written for this claim by a program of this session.
import Derived.Test.YtalafmahgeejiaaCore4
import Derived.Test.YtalafmahgeejiaaKPaxf65
import Derived.Test.YtalafmahgeejiaaKPaxf67
/- Skews: the program's test of them and the reference's. -/
namespace Go.Proofs.Ytalafmahgeejiaa.Pure
open Go.RowKit Go.Proofs.Ytalafmahgeejiaa.Pa Go.Proofs.YtalafmahgeejiaaW.PrintWords Go.Proofs.YtalafmahgeejiaaW.PrintLast
set_option linter.unusedVariables false
set_option linter.unusedSimpArgs false

def skewsB (n : Int) (gates : List S62) (data : List Int) (a3 a4 a5 a6 : Int) (skews : List Int) : Bool :=
 validB n gates data a3 a4 a5 a6 && decide ((skews.length : Int) = n) && skews.all fun x => inB x 0 100000
theorem skews_loop (n a3 a4 a5 a6 : Int) (gates : List S62) (data skews : List Int) (hl : skews.length ≤ 1048576) (d : Nat) : ∀ (k i : Nat), i + d = skews.length → d < k →
  spec_l06Skews.l0 k skews (i : Int) n gates data a3 a4 a5 a6 = some ((skews.drop i).all (fun x => inB x 0 100000), n, a3, a4, a5, a6) := by
 induction d with
 | zero =>
  intro k i h hk
  obtain ⟨k, rfl⟩ : ∃ m, k = m + 1 := ⟨k - 1, by omega⟩
  simp only [spec_l06Skews.l0]
  rw [if_neg (by omega), List.drop_of_length_le (by omega)]
  rfl
 | succ d ih =>
  intro k i h hk
  obtain ⟨k, rfl⟩ : ∃ m, k = m + 1 := ⟨k - 1, by omega⟩
  have hi : i < skews.length := by omega
  simp only [spec_l06Skews.l0]
  rw [if_pos (by omega), if_pos (by omega), rd_get hi, in_tells, List.drop_eq_getElem_cons hi, List.all_cons]
  simp only [Option.bind_some]
  cases hb : inB skews[i] 0 100000 with
  | false => simp
  | true =>
   rw [if_pos rfl, wrap_id (by omega) (by omega)]
   have := ih k (i + 1) (by omega) (by omega)
   push_cast at this
   rw [this]
   simp
theorem specSkews (n : Int) (gates : List S62) (data : List Int) (a3 a4 a5 a6 : Int) (skews : List Int) (hw : ∀ g ∈ gates, g.f2.length ≤ 1048576) (hd : data.length ≤ 1048576) (hs : skews.length ≤ 1048576) :
  ∀ k, 2500000 ≤ k → spec_l06Skews.f k n gates data a3 a4 a5 a6 skews = some (skewsB n gates data a3 a4 a5 a6 skews, n, a3, a4, a5, a6) := by
 intro k hk
 obtain ⟨k, rfl⟩ : ∃ m, k = m + 1 := ⟨k - 1, by omega⟩
 unfold spec_l06Skews.f skewsB
 rw [is_tells n gates data a3 a4 a5 a6]
 simp only [Option.bind_some, spec_l06Skews.j0]
 cases hv : validB n gates data a3 a4 a5 a6 with
 | false => simp
 | true =>
  rw [if_pos rfl]
  by_cases h1 : (skews.length : Int) = n
  ·rw [show ((skews.length : Int) != n) = false by simp [h1], if_neg (by decide)]
   have := skews_loop n a3 a4 a5 a6 gates data skews hs skews.length k 0 (by omega) (by omega)
   rw [show ((0 : Nat) : Int) = 0 from rfl, List.drop_zero] at this
   rw [this]
   simp [h1]
  ·rw [show ((skews.length : Int) != n) = true by simp [h1]]
   simp [h1]
theorem implSkews (n : Int) (gates : List S62) (data : List Int) (a3 a4 a5 a6 : Int) (skews : List Int) : impl_areSkews.f n gates data a3 a4 a5 a6 skews = some (skewsB n gates data a3 a4 a5 a6 skews) := by
 unfold impl_areSkews.f skewsB
 rw [valid_tells n gates data a3 a4 a5 a6]
 simp only [Option.bind_some]
 cases hv : validB n gates data a3 a4 a5 a6 with
 | false => simp
 | true =>
  rw [if_pos rfl]
  by_cases h1 : (skews.length : Int) = n
  ·rw [if_pos h1]
   unfold impl_areSkews_1.f
   simp only [Option.bind_some, Bool.true_and]
   rw [decide_eq_true h1, List.all_eq_not_any_not]
   simp only [Bool.true_and]
   rfl
  ·rw [if_neg h1]
   simp [h1]
theorem skews_ready {n : Int} {gates : List S62} {data : List Int} {a3 a4 a5 a6 : Int} {skews : List Int} (hw : ∀ g ∈ gates, g.f2.length ≤ 1048576) (h : skewsB n gates data a3 a4 a5 a6 skews = true) :
  Ready n gates data ∧ (skews.length : Int) = n ∧ ∀ x ∈ skews, 0 ≤ x ∧ x ≤ 100000 := by
 unfold skewsB at h
 simp only [Bool.and_eq_true, decide_eq_true_eq, List.all_eq_true, inB_iff] at h
 exact ⟨(circ_of n gates data a3 a4 a5 a6 hw h.1.1).ready hw, h.1.2, h.2⟩
end Go.Proofs.Ytalafmahgeejiaa.Pure
