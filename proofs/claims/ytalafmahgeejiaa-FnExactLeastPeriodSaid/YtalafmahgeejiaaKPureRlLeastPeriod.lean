-- Written for this claim by a program of this session.
import Derived.Test.YtalafmahgeejiaaKPureRooms
import Derived.Test.YtalafmahgeejiaaKPaxf35
import Derived.Test.YtalafmahgeejiaaKPaxf34
/- What LeastPeriod answers. -/
namespace Go.Proofs.Ytalafmahgeejiaa.Pure
open Go.RowKit Go.Proofs.Ytalafmahgeejiaa.Pa Go.Proofs.YtalafmahgeejiaaW.PrintWords Go.Proofs.YtalafmahgeejiaaW.PrintLast
set_option linter.unusedVariables false
set_option linter.unusedSimpArgs false

theorem period_tells (x : Int) : impl_isPeriod.f x = some (inB x 1 100000) := by
 unfold impl_isPeriod.f
 rw [within_tells]
 rfl
theorem period_spec (x : Int) : spec_l06Period.f x = some (inB x 1 100000) := by
 unfold spec_l06Period.f
 rw [in_tells]
 rfl
section
variable (n : Int) (gates : List S62) (data : List Int) (a3 a4 a5 a6 : Int) (per : Int) (skews : List Int) (hw : ∀ g ∈ gates, g.f2.length ≤ 1048576) (hd : data.length ≤ 1048576) (hs : skews.length ≤ 1048576)
def periodR : Int × Bool := if skewsB n gates data a3 a4 a5 a6 skews = true then (if inB (mx 1 (wrap64 (-(setupL 0 n a3 a5 a6 gates data skews)))) 1 100000 = true then (mx 1 (wrap64 (-(setupL 0 n a3 a5 a6 gates data skews))), true) else (0, false)) else (0, false)
include hw
theorem implPeriod : Ev (fun k => impl_LeastPeriod.f k n gates data a3 a4 a5 a6 skews) (periodR n gates data a3 a4 a5 a6 skews) := by
 unfold periodR
 cases h : skewsB n gates data a3 a4 a5 a6 skews with
 | false =>
  refine ⟨2500000, fun k hk => ?_⟩
  show impl_LeastPeriod.f k n gates data a3 a4 a5 a6 skews = _
  unfold impl_LeastPeriod.f
  rw [implSkews n gates data a3 a4 a5 a6 skews, h]
  simp
 | true =>
  obtain ⟨R, hl, _⟩ := skews_ready hw h
  obtain ⟨K, hK⟩ := setup_tells 0 n a3 a4 a5 a6 gates data skews R hl
  refine ⟨K + 2500000, fun k hk => ?_⟩
  have k1 : impl_setupRoom.f k n gates data a3 a4 a5 a6 0 skews = _ := hK k (by omega)
  show impl_LeastPeriod.f k n gates data a3 a4 a5 a6 skews = _
  unfold impl_LeastPeriod.f
  rw [implSkews n gates data a3 a4 a5 a6 skews, h]
  simp only [Option.bind_some, if_true]
  rw [k1]
  simp only [Option.bind_some]
  rw [period_tells]
  simp only [Option.bind_some]
  cases hp : inB (mx 1 (wrap64 (-(setupL 0 n a3 a5 a6 gates data skews)))) 1 100000 with
  | false => simp
  | true => simp
include hd hs
theorem specPeriod : Ev (fun k => spec_LeastPeriod.f k n gates data a3 a4 a5 a6 skews) (periodR n gates data a3 a4 a5 a6 skews) := by
 unfold periodR
 cases h : skewsB n gates data a3 a4 a5 a6 skews with
 | false =>
  refine ⟨2500000, fun k hk => ?_⟩
  show spec_LeastPeriod.f k n gates data a3 a4 a5 a6 skews = _
  unfold spec_LeastPeriod.f spec_LeastPeriod.fB
  rw [specSkews n gates data a3 a4 a5 a6 skews hw hd hs k hk, h]
  simp
 | true =>
  obtain ⟨R, hl, _⟩ := skews_ready hw h
  obtain ⟨K, hK⟩ := rooms_tells 0 n a3 a4 a5 a6 gates data skews R hl
  refine ⟨K + 2500000, fun k hk => ?_⟩
  have k1 : spec_l06Rooms.f k n gates data a3 a4 a5 a6 0 skews = _ := hK k (by omega)
  show spec_LeastPeriod.f k n gates data a3 a4 a5 a6 skews = _
  unfold spec_LeastPeriod.f spec_LeastPeriod.fB
  rw [specSkews n gates data a3 a4 a5 a6 skews hw hd hs k (by omega), h]
  simp only [Option.bind_some, if_true]
  rw [k1]
  simp only [Option.bind_some]
  have e : (if (1 : Int) > wrap64 (-(setupL 0 n a3 a5 a6 gates data skews)) then 1 else wrap64 (-(setupL 0 n a3 a5 a6 gates data skews))) = mx 1 (wrap64 (-(setupL 0 n a3 a5 a6 gates data skews))) := by
   rw [mx_def]
   split <;> split <;> omega
  rw [max_tells, e]
  simp only [Option.bind_some]
  rw [period_spec]
  simp only [Option.bind_some]
  cases hp : inB (mx 1 (wrap64 (-(setupL 0 n a3 a5 a6 gates data skews)))) 1 100000 with
  | false => simp
  | true => simp
end
end Go.Proofs.Ytalafmahgeejiaa.Pure
