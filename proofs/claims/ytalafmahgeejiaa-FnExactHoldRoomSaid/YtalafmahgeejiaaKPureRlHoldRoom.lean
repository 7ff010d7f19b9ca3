-- Written for this claim by a program of this session.
import Derived.Test.YtalafmahgeejiaaKPureRooms
import Derived.Test.YtalafmahgeejiaaKPaxf29
import Derived.Test.YtalafmahgeejiaaKPaxf28
/- What HoldRoom answers. -/
namespace Go.Proofs.Ytalafmahgeejiaa.Pure
open Go.RowKit Go.Proofs.Ytalafmahgeejiaa.Pa Go.Proofs.YtalafmahgeejiaaW.PrintWords Go.Proofs.YtalafmahgeejiaaW.PrintLast
set_option linter.unusedVariables false
set_option linter.unusedSimpArgs false

section
variable (n : Int) (gates : List S62) (data : List Int) (a3 a4 a5 a6 : Int) (per : Int) (skews : List Int) (hw : ∀ g ∈ gates, g.f2.length ≤ 1048576) (hd : data.length ≤ 1048576) (hs : skews.length ≤ 1048576)
def holdR : Int × Bool := if skewsB n gates data a3 a4 a5 a6 skews = true then (holdL n a4 a5 a6 gates data skews, true) else (0, false)
include hw
theorem implHold : Ev (fun k => impl_HoldRoom.f k n gates data a3 a4 a5 a6 skews) (holdR n gates data a3 a4 a5 a6 skews) := by
 unfold holdR
 cases h : skewsB n gates data a3 a4 a5 a6 skews with
 | false =>
  refine ⟨2500000, fun k hk => ?_⟩
  show impl_HoldRoom.f k n gates data a3 a4 a5 a6 skews = _
  unfold impl_HoldRoom.f
  rw [implSkews n gates data a3 a4 a5 a6 skews, h]
  simp
 | true =>
  obtain ⟨R, hl, _⟩ := skews_ready hw h
  obtain ⟨K, hK⟩ := hold_tells n a3 a4 a5 a6 gates data skews R hl
  refine ⟨K + 2500000, fun k hk => ?_⟩
  have k1 : impl_holdRoom.f k n gates data a3 a4 a5 a6 skews = _ := hK k (by omega)
  show impl_HoldRoom.f k n gates data a3 a4 a5 a6 skews = _
  unfold impl_HoldRoom.f
  rw [implSkews n gates data a3 a4 a5 a6 skews, h]
  simp only [Option.bind_some, if_true]
  rw [k1]
  rfl
include hd hs
theorem specHold : Ev (fun k => spec_HoldRoom.f k n gates data a3 a4 a5 a6 skews) (holdR n gates data a3 a4 a5 a6 skews) := by
 unfold holdR
 cases h : skewsB n gates data a3 a4 a5 a6 skews with
 | false =>
  refine ⟨2500000, fun k hk => ?_⟩
  show spec_HoldRoom.f k n gates data a3 a4 a5 a6 skews = _
  unfold spec_HoldRoom.f spec_HoldRoom.fB
  rw [specSkews n gates data a3 a4 a5 a6 skews hw hd hs k hk, h]
  simp
 | true =>
  obtain ⟨R, hl, _⟩ := skews_ready hw h
  obtain ⟨K, hK⟩ := rooms_tells 0 n a3 a4 a5 a6 gates data skews R hl
  refine ⟨K + 2500000, fun k hk => ?_⟩
  have k1 : spec_l06Rooms.f k n gates data a3 a4 a5 a6 0 skews = _ := hK k (by omega)
  show spec_HoldRoom.f k n gates data a3 a4 a5 a6 skews = _
  unfold spec_HoldRoom.f spec_HoldRoom.fB
  rw [specSkews n gates data a3 a4 a5 a6 skews hw hd hs k (by omega), h]
  simp only [Option.bind_some, if_true]
  rw [k1]
  rfl
end
end Go.Proofs.Ytalafmahgeejiaa.Pure
