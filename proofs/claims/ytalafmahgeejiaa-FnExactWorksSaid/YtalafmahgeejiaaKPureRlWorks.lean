-- Written for this claim by a program of this session.
import Derived.Test.YtalafmahgeejiaaKPureRooms
import Derived.Test.YtalafmahgeejiaaKPaxf33
import Derived.Test.YtalafmahgeejiaaKPaxf32
/- What Works answers. -/
namespace Go.Proofs.Ytalafmahgeejiaa.Pure
open Go.RowKit Go.Proofs.Ytalafmahgeejiaa.Pa Go.Proofs.YtalafmahgeejiaaW.PrintWords Go.Proofs.YtalafmahgeejiaaW.PrintLast
set_option linter.unusedVariables false
set_option linter.unusedSimpArgs false

theorem period_tells (x : Int) : impl_isPeriod.f x = some (inB x 1 100000) := by
 unfold impl_isPeriod.f
 rw [within_tells]
 rfl
theorem period_spec (x : Int) : spec_l06Period.f x = some (inB x 1 100000) := by
 unfold spec_l06Period.f
 rw [in_tells]
 rfl
section
variable (n : Int) (gates : List S62) (data : List Int) (a3 a4 a5 a6 : Int) (per : Int) (skews : List Int) (hw : ∀ g ∈ gates, g.f2.length ≤ 1048576) (hd : data.length ≤ 1048576) (hs : skews.length ≤ 1048576)
def worksR : Bool := if skewsB n gates data a3 a4 a5 a6 skews = true ∧ inB per 1 100000 = true then decide (setupL per n a3 a5 a6 gates data skews ≥ 0) && decide (holdL n a4 a5 a6 gates data skews ≥ 0) else false
include hw
theorem implWorks : Ev (fun k => impl_Works.f k n gates data a3 a4 a5 a6 per skews) (worksR n gates data a3 a4 a5 a6 per skews) := by
 unfold worksR
 cases h : skewsB n gates data a3 a4 a5 a6 skews with
 | false =>
  refine ⟨2500000, fun k hk => ?_⟩
  show impl_Works.f k n gates data a3 a4 a5 a6 per skews = _
  unfold impl_Works.f
  rw [implSkews n gates data a3 a4 a5 a6 skews, h]
  simp
 | true =>
  obtain ⟨R, hl, _⟩ := skews_ready hw h
  obtain ⟨K, hK⟩ := setup_tells per n a3 a4 a5 a6 gates data skews R hl
  obtain ⟨K2, hK2⟩ := hold_tells n a3 a4 a5 a6 gates data skews R hl
  refine ⟨K + K2 + 2500000, fun k hk => ?_⟩
  have k1 : impl_setupRoom.f k n gates data a3 a4 a5 a6 per skews = _ := hK k (by omega)
  have k2 : impl_holdRoom.f k n gates data a3 a4 a5 a6 skews = _ := hK2 k (by omega)
  show impl_Works.f k n gates data a3 a4 a5 a6 per skews = _
  unfold impl_Works.f
  rw [implSkews n gates data a3 a4 a5 a6 skews, h, period_tells]
  simp only [Option.bind_some, if_true]
  cases hp : inB per 1 100000 with
  | false => simp
  | true =>
   rw [if_pos rfl, k1, k2]
   simp only [Option.bind_some]
   by_cases c : setupL per n a3 a5 a6 gates data skews ≥ 0
   ·rw [if_pos c]
    simp [c]
   ·rw [if_neg c]
    simp [c]
include hd hs
theorem specWorks : Ev (fun k => spec_Works.f k n gates data a3 a4 a5 a6 per skews) (worksR n gates data a3 a4 a5 a6 per skews) := by
 unfold worksR
 cases h : skewsB n gates data a3 a4 a5 a6 skews with
 | false =>
  refine ⟨2500000, fun k hk => ?_⟩
  show spec_Works.f k n gates data a3 a4 a5 a6 per skews = _
  unfold spec_Works.f spec_Works.fB
  rw [specSkews n gates data a3 a4 a5 a6 skews hw hd hs k hk, h]
  simp
 | true =>
  obtain ⟨R, hl, _⟩ := skews_ready hw h
  obtain ⟨K, hK⟩ := rooms_tells per n a3 a4 a5 a6 gates data skews R hl
  refine ⟨K + 2500000, fun k hk => ?_⟩
  have k1 : spec_l06Rooms.f k n gates data a3 a4 a5 a6 per skews = _ := hK k (by omega)
  show spec_Works.f k n gates data a3 a4 a5 a6 per skews = _
  unfold spec_Works.f spec_Works.fB
  rw [specSkews n gates data a3 a4 a5 a6 skews hw hd hs k (by omega), h, period_spec]
  simp only [Option.bind_some, if_true]
  cases hp : inB per 1 100000 with
  | false => simp
  | true =>
   rw [if_pos rfl, k1]
   simp only [Option.bind_some]
   by_cases c : setupL per n a3 a5 a6 gates data skews ≥ 0
   ·rw [if_pos c]
    simp [c]
   ·rw [if_neg c]
    simp [c]
end
end Go.Proofs.Ytalafmahgeejiaa.Pure
