-- Written for this claim by a program of this session.
import Derived.Test.YtahjcmmgdcedpaaVPax0
import Derived.Test.YtahjcmmgdcedpaaVKPaxf8
import Derived.Test.YtahjcmmgdcedpaaVKPaxf12
import Derived.Test.YtahjcmmgdcedpaaVCore3
import Derived.Test.YtahjcmmgdcedpaaVCore7
import Derived.Test.YtahjcmmgdcedpaaVCore6
namespace Go.Proofs.Ytahjcmmgdcedpaa.Pa
open Go.RowKit Go.Proofs.YtahjcmmgdcedpaaW.PrintWords Go.Proofs.YtahjcmmgdcedpaaW.PrintLast Go.Proofs.YtahjcmmgdcedpaaW.PrintMore
attribute [local go_sem] max2_int min2_int max_two min_two max_three min_three max_four min_four   -- for this text's walks alone
set_option linter.unusedVariables false
set_option linter.unusedSimpArgs false

/-! ### laws_FnRooms: function 7 -/
mutual
def laws_FnRooms.j0 : Nat → List Int → Int → Int → Int → Int → Bool → Int → List (S56) → List Int → Int → Int → Int → Int → Option (Bool)
 | 0, _, _, _, _, _, _, _, _, _, _, _, _, _ => none
 | k + 1, x6, x7, x8, x10, x12, x67, x730000, x730001, x730002, x730003, x730004, x730005, x730006 => if x67 = true then (some false) else (laws_FnRooms.l0 k x6 x7 x8 x10 x12 1000000 1000000 0 x730000 x730001 x730002 x730003 x730004 x730005 x730006)
def laws_FnRooms.l0 : Nat → List Int → Int → Int → Int → Int → Int → Int → Int → Int → List (S56) → List Int → Int → Int → Int → Int → Option (Bool)
 | 0, _, _, _, _, _, _, _, _, _, _, _, _, _, _, _ => none
 | k + 1, x6, x7, x8, x10, x12, x14, x15, x16, x730000, x730001, x730002, x730003, x730004, x730005, x730006 => if x16 < x730000 then (laws_FnRooms.l1 k x6 x7 x8 x10 x12 x14 x15 x16 0 x730000 x730001 x730002 x730003 x730004 x730005 x730006) else (if x8 = x14 then (if x10 = x15 then ((impl_Works.f k x730000 x730001 x730002 x730003 x730004 x730005 x730006 x7 x6).bind fun t747 => (if x8 ≥ 0 then (laws_FnRooms.j3 k x6 x10 x12 (t747 != (decide (x10 ≥ 0))) x730000 x730001 x730002 x730003 x730004 x730005 x730006) else (laws_FnRooms.j3 k x6 x10 x12 (t747 != false) x730000 x730001 x730002 x730003 x730004 x730005 x730006))) else (laws_FnRooms.j3 k x6 x10 x12 true x730000 x730001 x730002 x730003 x730004 x730005 x730006)) else (laws_FnRooms.j3 k x6 x10 x12 true x730000 x730001 x730002 x730003 x730004 x730005 x730006))
def laws_FnRooms.l1 : Nat → List Int → Int → Int → Int → Int → Int → Int → Int → Int → Int → List (S56) → List Int → Int → Int → Int → Int → Option (Bool)
 | 0, _, _, _, _, _, _, _, _, _, _, _, _, _, _, _, _ => none
 | k + 1, x6, x7, x8, x10, x12, x14, x15, x16, x17, x730000, x730001, x730002, x730003, x730004, x730005, x730006 => if x17 < x730000 then ((spec_PathDelays.f k x730000 x730001 x730002 x730003 x730004 x730005 x730006 x16 x17).bind fun bt740 => (if bt740.2.2 = true then (if 0 ≤ x17 then (if x17 < (x6.length : Int) then (if 0 ≤ x16 then (if x16 < (x6.length : Int) then (if (wrap64 ((wrap64 ((wrap64 ((wrap64 (x7 + (rd x6 x17))) - (rd x6 x16))) - bt740.2.1)) - x730003)) < x14 then (if (wrap64 ((wrap64 ((wrap64 (bt740.1 + (rd x6 x16))) - (rd x6 x17))) - x730004)) < x15 then (laws_FnRooms.l1 k x6 x7 x8 x10 x12 (wrap64 ((wrap64 ((wrap64 ((wrap64 (x7 + (rd x6 x17))) - (rd x6 x16))) - bt740.2.1)) - x730003)) (wrap64 ((wrap64 ((wrap64 (bt740.1 + (rd x6 x16))) - (rd x6 x17))) - x730004)) x16 (wrap64 (x17 + 1)) x730000 x730001 x730002 x730003 x730004 x730005 x730006) else (laws_FnRooms.l1 k x6 x7 x8 x10 x12 (wrap64 ((wrap64 ((wrap64 ((wrap64 (x7 + (rd x6 x17))) - (rd x6 x16))) - bt740.2.1)) - x730003)) x15 x16 (wrap64 (x17 + 1)) x730000 x730001 x730002 x730003 x730004 x730005 x730006)) else (if (wrap64 ((wrap64 ((wrap64 (bt740.1 + (rd x6 x16))) - (rd x6 x17))) - x730004)) < x15 then (laws_FnRooms.l1 k x6 x7 x8 x10 x12 x14 (wrap64 ((wrap64 ((wrap64 (bt740.1 + (rd x6 x16))) - (rd x6 x17))) - x730004)) x16 (wrap64 (x17 + 1)) x730000 x730001 x730002 x730003 x730004 x730005 x730006) else (laws_FnRooms.l1 k x6 x7 x8 x10 x12 x14 x15 x16 (wrap64 (x17 + 1)) x730000 x730001 x730002 x730003 x730004 x730005 x730006))) else (none)) else (none)) else (none)) else (none)) else (laws_FnRooms.l1 k x6 x7 x8 x10 x12 x14 x15 x16 (wrap64 (x17 + 1)) x730000 x730001 x730002 x730003 x730004 x730005 x730006))) else (laws_FnRooms.l0 k x6 x7 x8 x10 x12 x14 x15 (wrap64 (x16 + 1)) x730000 x730001 x730002 x730003 x730004 x730005 x730006)
def laws_FnRooms.j3 : Nat → List Int → Int → Int → Bool → Int → List (S56) → List Int → Int → Int → Int → Int → Option (Bool)
 | 0, _, _, _, _, _, _, _, _, _, _, _ => none
 | k + 1, x6, x10, x12, x148, x730000, x730001, x730002, x730003, x730004, x730005, x730006 => if x148 = true then (some false) else ((impl_Works.f k x730000 x730001 x730002 x730003 x730004 x730005 x730006 x12 x6).bind fun t748 => (if (t748 == (decide (x10 ≥ 0))) = true then (if x12 > 1 then ((impl_Works.f k x730000 x730001 x730002 x730003 x730004 x730005 x730006 (wrap64 (x12 - 1)) x6).bind fun t749 => (some (!t749))) else (some (!false))) else (some false)))
end
def laws_FnRooms.f (k : Nat) (l0 : List Int) (l1 : List Int) : Option (Bool) := (laws_r8Long.f l0 l1).bind fun t717 => (if t717 = true then (some true) else ((spec_R8Circuit.f k l0).bind fun bt718 => ((spec_R8Skews.f k l1 bt718.1).bind fun t730 => ((laws_r8At.f l1 40 40).bind fun t733 => ((impl_SetupRoom.f k bt718.1 bt718.2.1 bt718.2.2.1 bt718.2.2.2.1 bt718.2.2.2.2.1 bt718.2.2.2.2.2.1 bt718.2.2.2.2.2.2 (wrap64 (1 + t733)) t730).bind fun bt734 => ((impl_HoldRoom.f k bt718.1 bt718.2.1 bt718.2.2.1 bt718.2.2.2.1 bt718.2.2.2.2.1 bt718.2.2.2.2.2.1 bt718.2.2.2.2.2.2 t730).bind fun bt736 => ((impl_LeastPeriod.f k bt718.1 bt718.2.1 bt718.2.2.1 bt718.2.2.2.1 bt718.2.2.2.2.1 bt718.2.2.2.2.2.1 bt718.2.2.2.2.2.2 t730).bind fun bt738 => (if bt734.2 = true then (if bt736.2 = true then (if bt738.2 = true then (laws_FnRooms.j0 k t730 (wrap64 (1 + t733)) bt734.1 bt736.1 bt738.1 (decide (bt738.1 < 1)) bt718.1 bt718.2.1 bt718.2.2.1 bt718.2.2.2.1 bt718.2.2.2.2.1 bt718.2.2.2.2.2.1 bt718.2.2.2.2.2.2) else (laws_FnRooms.j0 k t730 (wrap64 (1 + t733)) bt734.1 bt736.1 bt738.1 true bt718.1 bt718.2.1 bt718.2.2.1 bt718.2.2.2.1 bt718.2.2.2.2.1 bt718.2.2.2.2.2.1 bt718.2.2.2.2.2.2)) else (laws_FnRooms.j0 k t730 (wrap64 (1 + t733)) bt734.1 bt736.1 bt738.1 true bt718.1 bt718.2.1 bt718.2.2.1 bt718.2.2.2.1 bt718.2.2.2.2.1 bt718.2.2.2.2.2.1 bt718.2.2.2.2.2.2)) else (laws_FnRooms.j0 k t730 (wrap64 (1 + t733)) bt734.1 bt736.1 bt738.1 true bt718.1 bt718.2.1 bt718.2.2.1 bt718.2.2.2.1 bt718.2.2.2.2.1 bt718.2.2.2.2.2.1 bt718.2.2.2.2.2.2)))))))))
theorem laws_FnRooms.mono_l : ∀ k, (∀ y0 y1 y2 y3 y4 y5 y6 y7 y8 y9 y10 y11 y12, LeO (laws_FnRooms.j0 k y0 y1 y2 y3 y4 y5 y6 y7 y8 y9 y10 y11 y12) (laws_FnRooms.j0 (k + 1) y0 y1 y2 y3 y4 y5 y6 y7 y8 y9 y10 y11 y12)) ∧ (∀ y0 y1 y2 y3 y4 y5 y6 y7 y8 y9 y10 y11 y12 y13 y14, LeO (laws_FnRooms.l0 k y0 y1 y2 y3 y4 y5 y6 y7 y8 y9 y10 y11 y12 y13 y14) (laws_FnRooms.l0 (k + 1) y0 y1 y2 y3 y4 y5 y6 y7 y8 y9 y10 y11 y12 y13 y14)) ∧ (∀ y0 y1 y2 y3 y4 y5 y6 y7 y8 y9 y10 y11 y12 y13 y14 y15, LeO (laws_FnRooms.l1 k y0 y1 y2 y3 y4 y5 y6 y7 y8 y9 y10 y11 y12 y13 y14 y15) (laws_FnRooms.l1 (k + 1) y0 y1 y2 y3 y4 y5 y6 y7 y8 y9 y10 y11 y12 y13 y14 y15)) ∧ (∀ y0 y1 y2 y3 y4 y5 y6 y7 y8 y9 y10, LeO (laws_FnRooms.j3 k y0 y1 y2 y3 y4 y5 y6 y7 y8 y9 y10) (laws_FnRooms.j3 (k + 1) y0 y1 y2 y3 y4 y5 y6 y7 y8 y9 y10))
 | 0 => ⟨fun _ _ _ _ _ _ _ _ _ _ _ _ _ r h => by simp [laws_FnRooms.j0] at h, fun _ _ _ _ _ _ _ _ _ _ _ _ _ _ _ r h => by simp [laws_FnRooms.l0] at h, fun _ _ _ _ _ _ _ _ _ _ _ _ _ _ _ _ r h => by simp [laws_FnRooms.l1] at h, fun _ _ _ _ _ _ _ _ _ _ _ r h => by simp [laws_FnRooms.j3] at h⟩
 | k + 1 => by
  obtain ⟨ih0, ih1, ih2, ih3⟩ := laws_FnRooms.mono_l k
  refine ⟨?_, ?_, ?_, ?_⟩
  ·intro y0 y1 y2 y3 y4 y5 y6 y7 y8 y9 y10 y11 y12
   unfold laws_FnRooms.j0
   repeat' first
   | (with_reducible exact ih0 _ _ _ _ _ _ _ _ _ _ _ _ _)
   | (with_reducible exact ih1 _ _ _ _ _ _ _ _ _ _ _ _ _ _ _)
   | (with_reducible exact ih2 _ _ _ _ _ _ _ _ _ _ _ _ _ _ _ _)
   | (with_reducible exact ih3 _ _ _ _ _ _ _ _ _ _ _)
   | (with_reducible exact impl_HoldRoom.mono _ _ _ _ _ _ _ _ _)
   | (with_reducible exact impl_LeastPeriod.mono _ _ _ _ _ _ _ _ _)
   | (with_reducible exact impl_SetupRoom.mono _ _ _ _ _ _ _ _ _ _)
   | (with_reducible exact impl_Works.mono _ _ _ _ _ _ _ _ _ _)
   | (with_reducible exact spec_PathDelays.mono _ _ _ _ _ _ _ _ _ _)
   | (with_reducible exact spec_R8Circuit.mono _ _)
   | (with_reducible exact spec_R8Skews.mono _ _ _)
   | (with_reducible exact LeO.refl _)
   | (with_reducible exact LeO.none _)
   | (with_reducible refine LeO.ite ?_ ?_)
   | (with_reducible refine LeO.bind ?_ (fun _ => ?_))
   | exact ih0 _ _ _ _ _ _ _ _ _ _ _ _ _
   | exact ih1 _ _ _ _ _ _ _ _ _ _ _ _ _ _ _
   | exact ih2 _ _ _ _ _ _ _ _ _ _ _ _ _ _ _ _
   | exact ih3 _ _ _ _ _ _ _ _ _ _ _
   | exact impl_HoldRoom.mono _ _ _ _ _ _ _ _ _
   | exact impl_LeastPeriod.mono _ _ _ _ _ _ _ _ _
   | exact impl_SetupRoom.mono _ _ _ _ _ _ _ _ _ _
   | exact impl_Works.mono _ _ _ _ _ _ _ _ _ _
   | exact spec_PathDelays.mono _ _ _ _ _ _ _ _ _ _
   | exact spec_R8Circuit.mono _ _
   | exact spec_R8Skews.mono _ _ _
   | exact LeO.none _
   | refine LeO.ite ?_ ?_
   | refine LeO.bind ?_ (fun _ => ?_)
  ·intro y0 y1 y2 y3 y4 y5 y6 y7 y8 y9 y10 y11 y12 y13 y14
   unfold laws_FnRooms.l0
   repeat' first
   | (with_reducible exact ih0 _ _ _ _ _ _ _ _ _ _ _ _ _)
   | (with_reducible exact ih1 _ _ _ _ _ _ _ _ _ _ _ _ _ _ _)
   | (with_reducible exact ih2 _ _ _ _ _ _ _ _ _ _ _ _ _ _ _ _)
   | (with_reducible exact ih3 _ _ _ _ _ _ _ _ _ _ _)
   | (with_reducible exact impl_HoldRoom.mono _ _ _ _ _ _ _ _ _)
   | (with_reducible exact impl_LeastPeriod.mono _ _ _ _ _ _ _ _ _)
   | (with_reducible exact impl_SetupRoom.mono _ _ _ _ _ _ _ _ _ _)
   | (with_reducible exact impl_Works.mono _ _ _ _ _ _ _ _ _ _)
   | (with_reducible exact spec_PathDelays.mono _ _ _ _ _ _ _ _ _ _)
   | (with_reducible exact spec_R8Circuit.mono _ _)
   | (with_reducible exact spec_R8Skews.mono _ _ _)
   | (with_reducible exact LeO.refl _)
   | (with_reducible exact LeO.none _)
   | (with_reducible refine LeO.ite ?_ ?_)
   | (with_reducible refine LeO.bind ?_ (fun _ => ?_))
   | exact ih0 _ _ _ _ _ _ _ _ _ _ _ _ _
   | exact ih1 _ _ _ _ _ _ _ _ _ _ _ _ _ _ _
   | exact ih2 _ _ _ _ _ _ _ _ _ _ _ _ _ _ _ _
   | exact ih3 _ _ _ _ _ _ _ _ _ _ _
   | exact impl_HoldRoom.mono _ _ _ _ _ _ _ _ _
   | exact impl_LeastPeriod.mono _ _ _ _ _ _ _ _ _
   | exact impl_SetupRoom.mono _ _ _ _ _ _ _ _ _ _
   | exact impl_Works.mono _ _ _ _ _ _ _ _ _ _
   | exact spec_PathDelays.mono _ _ _ _ _ _ _ _ _ _
   | exact spec_R8Circuit.mono _ _
   | exact spec_R8Skews.mono _ _ _
   | exact LeO.none _
   | refine LeO.ite ?_ ?_
   | refine LeO.bind ?_ (fun _ => ?_)
  ·intro y0 y1 y2 y3 y4 y5 y6 y7 y8 y9 y10 y11 y12 y13 y14 y15
   unfold laws_FnRooms.l1
   repeat' first
   | (with_reducible exact ih0 _ _ _ _ _ _ _ _ _ _ _ _ _)
   | (with_reducible exact ih1 _ _ _ _ _ _ _ _ _ _ _ _ _ _ _)
   | (with_reducible exact ih2 _ _ _ _ _ _ _ _ _ _ _ _ _ _ _ _)
   | (with_reducible exact ih3 _ _ _ _ _ _ _ _ _ _ _)
   | (with_reducible exact impl_HoldRoom.mono _ _ _ _ _ _ _ _ _)
   | (with_reducible exact impl_LeastPeriod.mono _ _ _ _ _ _ _ _ _)
   | (with_reducible exact impl_SetupRoom.mono _ _ _ _ _ _ _ _ _ _)
   | (with_reducible exact impl_Works.mono _ _ _ _ _ _ _ _ _ _)
   | (with_reducible exact spec_PathDelays.mono _ _ _ _ _ _ _ _ _ _)
   | (with_reducible exact spec_R8Circuit.mono _ _)
   | (with_reducible exact spec_R8Skews.mono _ _ _)
   | (with_reducible exact LeO.refl _)
   | (with_reducible exact LeO.none _)
   | (with_reducible refine LeO.ite ?_ ?_)
   | (with_reducible refine LeO.bind ?_ (fun _ => ?_))
   | exact ih0 _ _ _ _ _ _ _ _ _ _ _ _ _
   | exact ih1 _ _ _ _ _ _ _ _ _ _ _ _ _ _ _
   | exact ih2 _ _ _ _ _ _ _ _ _ _ _ _ _ _ _ _
   | exact ih3 _ _ _ _ _ _ _ _ _ _ _
   | exact impl_HoldRoom.mono _ _ _ _ _ _ _ _ _
   | exact impl_LeastPeriod.mono _ _ _ _ _ _ _ _ _
   | exact impl_SetupRoom.mono _ _ _ _ _ _ _ _ _ _
   | exact impl_Works.mono _ _ _ _ _ _ _ _ _ _
   | exact spec_PathDelays.mono _ _ _ _ _ _ _ _ _ _
   | exact spec_R8Circuit.mono _ _
   | exact spec_R8Skews.mono _ _ _
   | exact LeO.none _
   | refine LeO.ite ?_ ?_
   | refine LeO.bind ?_ (fun _ => ?_)
  ·intro y0 y1 y2 y3 y4 y5 y6 y7 y8 y9 y10
   unfold laws_FnRooms.j3
   repeat' first
   | (with_reducible exact ih0 _ _ _ _ _ _ _ _ _ _ _ _ _)
   | (with_reducible exact ih1 _ _ _ _ _ _ _ _ _ _ _ _ _ _ _)
   | (with_reducible exact ih2 _ _ _ _ _ _ _ _ _ _ _ _ _ _ _ _)
   | (with_reducible exact ih3 _ _ _ _ _ _ _ _ _ _ _)
   | (with_reducible exact impl_HoldRoom.mono _ _ _ _ _ _ _ _ _)
   | (with_reducible exact impl_LeastPeriod.mono _ _ _ _ _ _ _ _ _)
   | (with_reducible exact impl_SetupRoom.mono _ _ _ _ _ _ _ _ _ _)
   | (with_reducible exact impl_Works.mono _ _ _ _ _ _ _ _ _ _)
   | (with_reducible exact spec_PathDelays.mono _ _ _ _ _ _ _ _ _ _)
   | (with_reducible exact spec_R8Circuit.mono _ _)
   | (with_reducible exact spec_R8Skews.mono _ _ _)
   | (with_reducible exact LeO.refl _)
   | (with_reducible exact LeO.none _)
   | (with_reducible refine LeO.ite ?_ ?_)
   | (with_reducible refine LeO.bind ?_ (fun _ => ?_))
   | exact ih0 _ _ _ _ _ _ _ _ _ _ _ _ _
   | exact ih1 _ _ _ _ _ _ _ _ _ _ _ _ _ _ _
   | exact ih2 _ _ _ _ _ _ _ _ _ _ _ _ _ _ _ _
   | exact ih3 _ _ _ _ _ _ _ _ _ _ _
   | exact impl_HoldRoom.mono _ _ _ _ _ _ _ _ _
   | exact impl_LeastPeriod.mono _ _ _ _ _ _ _ _ _
   | exact impl_SetupRoom.mono _ _ _ _ _ _ _ _ _ _
   | exact impl_Works.mono _ _ _ _ _ _ _ _ _ _
   | exact spec_PathDelays.mono _ _ _ _ _ _ _ _ _ _
   | exact spec_R8Circuit.mono _ _
   | exact spec_R8Skews.mono _ _ _
   | exact LeO.none _
   | refine LeO.ite ?_ ?_
   | refine LeO.bind ?_ (fun _ => ?_)
theorem laws_FnRooms.mono : ∀ a0 a1 k, LeO (laws_FnRooms.f k a0 a1) (laws_FnRooms.f (k + 1) a0 a1) := by
 intro a0 a1 k
 obtain ⟨ih0, ih1, ih2, ih3⟩ := laws_FnRooms.mono_l k
 unfold laws_FnRooms.f
 repeat' first
   | (with_reducible exact ih0 _ _ _ _ _ _ _ _ _ _ _ _ _)
   | (with_reducible exact ih1 _ _ _ _ _ _ _ _ _ _ _ _ _ _ _)
   | (with_reducible exact ih2 _ _ _ _ _ _ _ _ _ _ _ _ _ _ _ _)
   | (with_reducible exact ih3 _ _ _ _ _ _ _ _ _ _ _)
   | (with_reducible exact impl_HoldRoom.mono _ _ _ _ _ _ _ _ _)
   | (with_reducible exact impl_LeastPeriod.mono _ _ _ _ _ _ _ _ _)
   | (with_reducible exact impl_SetupRoom.mono _ _ _ _ _ _ _ _ _ _)
   | (with_reducible exact impl_Works.mono _ _ _ _ _ _ _ _ _ _)
   | (with_reducible exact spec_PathDelays.mono _ _ _ _ _ _ _ _ _ _)
   | (with_reducible exact spec_R8Circuit.mono _ _)
   | (with_reducible exact spec_R8Skews.mono _ _ _)
   | (with_reducible exact LeO.refl _)
   | (with_reducible exact LeO.none _)
   | (with_reducible refine LeO.ite ?_ ?_)
   | (with_reducible refine LeO.bind ?_ (fun _ => ?_))
   | exact ih0 _ _ _ _ _ _ _ _ _ _ _ _ _
   | exact ih1 _ _ _ _ _ _ _ _ _ _ _ _ _ _ _
   | exact ih2 _ _ _ _ _ _ _ _ _ _ _ _ _ _ _ _
   | exact ih3 _ _ _ _ _ _ _ _ _ _ _
   | exact impl_HoldRoom.mono _ _ _ _ _ _ _ _ _
   | exact impl_LeastPeriod.mono _ _ _ _ _ _ _ _ _
   | exact impl_SetupRoom.mono _ _ _ _ _ _ _ _ _ _
   | exact impl_Works.mono _ _ _ _ _ _ _ _ _ _
   | exact spec_PathDelays.mono _ _ _ _ _ _ _ _ _ _
   | exact spec_R8Circuit.mono _ _
   | exact spec_R8Skews.mono _ _ _
   | exact LeO.none _
   | refine LeO.ite ?_ ?_
   | refine LeO.bind ?_ (fun _ => ?_)
set_option maxHeartbeats 8000000 in
set_option maxRecDepth 100000 in
theorem laws_FnRooms.calls (k : Nat) (A0 : Option Addr) (c0 : Nat) (l0 : List Int) (A1 : Option Addr) (c1 : Nat) (l1 : List Int) (r : Bool) (w : World) (hr0 : Kd.C (Kd.int .u8) w A0 l0.length l0) (hc0 : l0.length ≤ c0) (hr1 : Kd.C (Kd.int .u8) w A1 l1.length l1) (hc1 : l1.length ≤ c1) (h : laws_FnRooms.f k l0 l1 = some r) :
  Calls Try.prog 7 #[.slice A0 l0.length c0, .slice A1 l1.length c1] w fun e w' => e = .returned (.bool r) ∧ Below w.heap.size w w' := by
 have hu45 := Try.underlying45
 have HR0 := Aside0.mk hr0
 have HC0 := Aside0.mk hc0
 clear hr0 hc0
 have HR1 := Aside0.mk hr1
 have HC1 := Aside0.mk hc1
 clear hr1 hc1
 have HB := Aside0.mk (Below.refl w.heap.size w)
 have H : ((laws_r8Long.f l0 l1).bind fun t717 => (if t717 = true then (some true) else ((spec_R8Circuit.f k l0).bind fun bt718 => ((spec_R8Skews.f k l1 bt718.1).bind fun t730 => ((laws_r8At.f l1 40 40).bind fun t733 => ((impl_SetupRoom.f k bt718.1 bt718.2.1 bt718.2.2.1 bt718.2.2.2.1 bt718.2.2.2.2.1 bt718.2.2.2.2.2.1 bt718.2.2.2.2.2.2 (wrap64 (1 + t733)) t730).bind fun bt734 => ((impl_HoldRoom.f k bt718.1 bt718.2.1 bt718.2.2.1 bt718.2.2.2.1 bt718.2.2.2.2.1 bt718.2.2.2.2.2.1 bt718.2.2.2.2.2.2 t730).bind fun bt736 => ((impl_LeastPeriod.f k bt718.1 bt718.2.1 bt718.2.2.1 bt718.2.2.2.1 bt718.2.2.2.2.1 bt718.2.2.2.2.2.1 bt718.2.2.2.2.2.2 t730).bind fun bt738 => (if bt734.2 = true then (if bt736.2 = true then (if bt738.2 = true then (laws_FnRooms.j0 k t730 (wrap64 (1 + t733)) bt734.1 bt736.1 bt738.1 (decide (bt738.1 < 1)) bt718.1 bt718.2.1 bt718.2.2.1 bt718.2.2.2.1 bt718.2.2.2.2.1 bt718.2.2.2.2.2.1 bt718.2.2.2.2.2.2) else (laws_FnRooms.j0 k t730 (wrap64 (1 + t733)) bt734.1 bt736.1 bt738.1 true bt718.1 bt718.2.1 bt718.2.2.1 bt718.2.2.2.1 bt718.2.2.2.2.1 bt718.2.2.2.2.2.1 bt718.2.2.2.2.2.2)) else (laws_FnRooms.j0 k t730 (wrap64 (1 + t733)) bt734.1 bt736.1 bt738.1 true bt718.1 bt718.2.1 bt718.2.2.1 bt718.2.2.2.1 bt718.2.2.2.2.1 bt718.2.2.2.2.2.1 bt718.2.2.2.2.2.2)) else (laws_FnRooms.j0 k t730 (wrap64 (1 + t733)) bt734.1 bt736.1 bt738.1 true bt718.1 bt718.2.1 bt718.2.2.1 bt718.2.2.2.1 bt718.2.2.2.2.1 bt718.2.2.2.2.2.1 bt718.2.2.2.2.2.2)))))))))) = some r := h
 clear h
 replace H := Option.bind_eq_some_iff.mp H
 obtain ⟨t717, A30, H⟩ := H
 try dsimp only at H
 have A3 := Aside0.mk A30
 clear A30
 by_cases c4 : t717 = true
 ·subst c4
  rw [if_pos rfl] at H
  obtain rfl := Option.some.inj H
  go_enter Try.func7, Try.ntmps7
  go_wp2_with (first | (go_at_call 8; (with_reducible refine (laws_r8Long.calls _ _ l0 _ _ l1 true _ ?side1 ?side2 ?side3 ?side4 A3.out).mono ?_); (case side1 => repeat (first | exact HR0.out | (with_reducible refine Kd.C_alloc ?_ _) | (with_reducible refine Kd.C_drewN ?_ _) | (with_reducible refine Kd.C_drew ?_))); (case side2 => exact HC0.out); (case side3 => repeat (first | exact HR1.out | (with_reducible refine Kd.C_alloc ?_ _) | (with_reducible refine Kd.C_drewN ?_ _) | (with_reducible refine Kd.C_drew ?_))); (case side4 => exact HC1.out); rintro e w' ⟨rfl, ⟨nd, rfl⟩⟩; (try first | exact ⟨rfl, _, World.drewN_drewN _ _ _⟩ | exact ⟨rfl, _, Eq.trans (World.drewN_drewN _ _ _) (congrArg (World.drewN _) (Nat.add_assoc _ _ _))⟩)))
  repeat (go_quiet ((go_at_call 8; (with_reducible refine (laws_r8Long.calls _ _ l0 _ _ l1 true _ ?side1 ?side2 ?side3 ?side4 A3.out).mono ?_); (case side1 => repeat (first | exact HR0.out | (with_reducible refine Kd.C_alloc ?_ _) | (with_reducible refine Kd.C_drewN ?_ _) | (with_reducible refine Kd.C_drew ?_))); (case side2 => exact HC0.out); (case side3 => repeat (first | exact HR1.out | (with_reducible refine Kd.C_alloc ?_ _) | (with_reducible refine Kd.C_drewN ?_ _) | (with_reducible refine Kd.C_drew ?_))); (case side4 => exact HC1.out); rintro e w' ⟨rfl, ⟨nd, rfl⟩⟩; (try first | exact ⟨rfl, _, World.drewN_drewN _ _ _⟩ | exact ⟨rfl, _, Eq.trans (World.drewN_drewN _ _ _) (congrArg (World.drewN _) (Nat.add_assoc _ _ _))⟩))); try go_wp2_with (first | (go_at_call 8; (with_reducible refine (laws_r8Long.calls _ _ l0 _ _ l1 true _ ?side1 ?side2 ?side3 ?side4 A3.out).mono ?_); (case side1 => repeat (first | exact HR0.out | (with_reducible refine Kd.C_alloc ?_ _) | (with_reducible refine Kd.C_drewN ?_ _) | (with_reducible refine Kd.C_drew ?_))); (case side2 => exact HC0.out); (case side3 => repeat (first | exact HR1.out | (with_reducible refine Kd.C_alloc ?_ _) | (with_reducible refine Kd.C_drewN ?_ _) | (with_reducible refine Kd.C_drew ?_))); (case side4 => exact HC1.out); rintro e w' ⟨rfl, ⟨nd, rfl⟩⟩; (try first | exact ⟨rfl, _, World.drewN_drewN _ _ _⟩ | exact ⟨rfl, _, Eq.trans (World.drewN_drewN _ _ _) (congrArg (World.drewN _) (Nat.add_assoc _ _ _))⟩))))
  go_ret
  exact ⟨by first | rfl | (simp [errW_none, errW_some] <;> rfl) | (simp [*, errW_none, errW_some] <;> rfl), by with_reducible repeat (first | exact HB.out | apply below_alloc | apply pw_below_drewN | apply below_drew1)⟩
 ·replace c4 := Bool.eq_false_iff.mpr c4
  subst c4
  rw [if_neg (by decide)] at H
  replace H := Option.bind_eq_some_iff.mp H
  obtain ⟨⟨t718, t719, t722, t725, t726, t727, t728⟩, A50, H⟩ := H
  try dsimp only at H
  have A5 := Aside0.mk A50
  clear A50
  replace H := Option.bind_eq_some_iff.mp H
  obtain ⟨t730, A60, H⟩ := H
  try dsimp only at H
  have A6 := Aside0.mk A60
  clear A60
  replace H := Option.bind_eq_some_iff.mp H
  obtain ⟨t733, A70, H⟩ := H
  try dsimp only at H
  have A7 := Aside0.mk A70
  clear A70
  replace H := Option.bind_eq_some_iff.mp H
  obtain ⟨⟨t734, t735⟩, A80, H⟩ := H
  try dsimp only at H
  have A8 := Aside0.mk A80
  clear A80
  replace H := Option.bind_eq_some_iff.mp H
  obtain ⟨⟨t736, t737⟩, A90, H⟩ := H
  try dsimp only at H
  have A9 := Aside0.mk A90
  clear A90
  replace H := Option.bind_eq_some_iff.mp H
  obtain ⟨⟨t738, t739⟩, A100, H⟩ := H
  try dsimp only at H
  have A10 := Aside0.mk A100
  clear A100
  have HC11 := Aside0.mk H
  clear H
  go_enter Try.func7, Try.ntmps7
  go_upto_region 9 with (first | (go_at_call 8; (with_reducible refine (laws_r8Long.calls _ _ l0 _ _ l1 false _ ?side1 ?side2 ?side3 ?side4 A3.out).mono ?_); (case side1 => repeat (first | exact HR0.out | (with_reducible refine Kd.C_alloc ?_ _) | (with_reducible refine Kd.C_drewN ?_ _) | (with_reducible refine Kd.C_drew ?_))); (case side2 => exact HC0.out); (case side3 => repeat (first | exact HR1.out | (with_reducible refine Kd.C_alloc ?_ _) | (with_reducible refine Kd.C_drewN ?_ _) | (with_reducible refine Kd.C_drew ?_))); (case side4 => exact HC1.out); rintro e w' ⟨rfl, ⟨nd, rfl⟩⟩; (try first | exact ⟨rfl, _, World.drewN_drewN _ _ _⟩ | exact ⟨rfl, _, Eq.trans (World.drewN_drewN _ _ _) (congrArg (World.drewN _) (Nat.add_assoc _ _ _))⟩)) | (go_at_call 19; (with_reducible refine (spec_R8Circuit.calls k _ _ l0 t718 t719 t722 t725 t726 t727 t728 _ ?side1 ?side2 A5.out).mono ?_); (case side1 => repeat (first | exact HR0.out | (with_reducible refine Kd.C_alloc ?_ _) | (with_reducible refine Kd.C_drewN ?_ _) | (with_reducible refine Kd.C_drew ?_))); (case side2 => exact HC0.out); rintro e w12 ⟨v720, v723, rfl, ho0, ho1, hb⟩; have n0_ := Aside0.mk (Kd.S_lower ho0 (below_size (by with_reducible repeat (first | exact HB.out | apply below_alloc | apply pw_below_drewN | apply below_drew1)))); have n1_ := Aside0.mk (Kd.R_lower ho1 (below_size (by with_reducible repeat (first | exact HB.out | apply below_alloc | apply pw_below_drewN | apply below_drew1)))); have n2_ := Aside0.mk (below_step (by with_reducible repeat (first | exact HB.out | apply below_alloc | apply pw_below_drewN | apply below_drew1)) hb); clear HB; have HO721 := n0_; have HO724 := n1_; have HB := n2_; clear n0_ n1_ n2_; (try clear hb); (try clear hb2); (try clear hk); (try clear hi); (try clear ho0); (try clear ho1)) | ((with_reducible refine gate_dst (N := 5) rfl ?_); refine box_event ?hg (N := 5) ?hd (cs := #[.int .i64 0, .slice none 0 0, .slice none 0 0, .int .i64 0, .int .i64 0, .int .i64 0, .int .i64 0]) (t := 45) ?hr ?_; (case hd => rfl); (case hg => rfl); (case hr => first | (go_simp; done) | (go_simp; rfl)); intro gb729 hg w13 hbox hb; have n0_ := Aside0.mk (Kd.S_below (by (with_reducible repeat (first | apply Kd.S_alloc | apply Kd.S_drewN | apply Kd.S_drew)); exact HO721.out) hb); have n1_ := Aside0.mk (Kd.R_below (by (with_reducible repeat (first | apply Kd.R_alloc | apply Kd.R_drewN | apply Kd.R_drew)); exact HO724.out) hb); have n2_ := Aside0.mk (below_step (by with_reducible repeat (first | exact HB.out | apply below_alloc | apply pw_below_drewN | apply below_drew1)) hb); have n3_ := Aside0.mk (hbox); have n4_ := Aside0.mk ((by rw [hg]; exact (below_size (by with_reducible repeat (first | exact HB.out | apply below_alloc | apply pw_below_drewN | apply below_drew1))) : w.heap.size ≤ gb729)); have n5_ := Aside0.mk ((by rw [hg]; exact (below_size (by with_reducible repeat (first | exact HB.out | apply below_alloc | apply pw_below_drewN | apply below_drew1))) : w.heap.size ≤ gb729)); clear HO721; clear HO724; clear HB; have HO721 := n0_; have HO724 := n1_; have HB := n2_; have BK729 := n3_; have GW729 := n4_; have GE729 := n5_; clear n0_ n1_ n2_ n3_ n4_ n5_; clear hb hbox hg; have hcz14_0 : w13.cell? ⟨gb729, 0, none⟩ = some (.int .i64 0) := (blk_cell BK729.out 0).trans rfl; have hcz14_1 : w13.cell? ⟨gb729, 1, none⟩ = some (.slice none 0 0) := (blk_cell BK729.out 1).trans rfl; have hcz14_2 : w13.cell? ⟨gb729, 2, none⟩ = some (.slice none 0 0) := (blk_cell BK729.out 2).trans rfl; have hcz14_3 : w13.cell? ⟨gb729, 3, none⟩ = some (.int .i64 0) := (blk_cell BK729.out 3).trans rfl; have hcz14_4 : w13.cell? ⟨gb729, 4, none⟩ = some (.int .i64 0) := (blk_cell BK729.out 4).trans rfl; have hcz14_5 : w13.cell? ⟨gb729, 5, none⟩ = some (.int .i64 0) := (blk_cell BK729.out 5).trans rfl; have hcz14_6 : w13.cell? ⟨gb729, 6, none⟩ = some (.int .i64 0) := (blk_cell BK729.out 6).trans rfl; have hfz14_0 := blk_frozen BK729.out 0; have hfz14_1 := blk_frozen BK729.out 1; have hfz14_2 := blk_frozen BK729.out 2; have hfz14_3 := blk_frozen BK729.out 3; have hfz14_4 := blk_frozen BK729.out 4; have hfz14_5 := blk_frozen BK729.out 5; have hfz14_6 := blk_frozen BK729.out 6; obtain ⟨Ao15, co15, eo15⟩ := Kd.S_slice HO721.out; subst eo15; obtain ⟨Ao16, co16, eo16⟩ := Kd.R_slice HO724.out; subst eo16) | (go_at_call 20; (with_reducible refine (spec_R8Skews.calls k _ _ l1 t718 t730 _ ?side1 ?side2 A6.out).mono ?_); (case side1 => exact Kd.C_below HR1.out (by with_reducible repeat (first | exact HB.out | apply below_alloc | apply pw_below_drewN | apply below_drew1 | refine below_set ?_ GE729.out))); (case side2 => exact HC1.out); rintro e w17 ⟨v731, rfl, ho0, hb⟩; have n0_ := Aside0.mk (Kd.S_elder' (by (with_reducible repeat (first | apply Kd.S_alloc | apply Kd.S_drewN | apply Kd.S_drew)); exact (Kd.S_mono (Kd.S_far (p := ⟨gb729, 6, none⟩) (Kd.S_far (p := ⟨gb729, 5, none⟩) (Kd.S_far (p := ⟨gb729, 4, none⟩) (Kd.S_far (p := ⟨gb729, 3, none⟩) (Kd.S_far (p := ⟨gb729, 2, none⟩) (Kd.S_far (p := ⟨gb729, 1, none⟩) (Kd.S_far (p := ⟨gb729, 0, none⟩) (Kd.S_types HO721.out BK729.out (by decide)) (fun _ hk => hk.2) (.int .i64 t718)) (fun _ hk => hk.2) (.slice Ao15 t719.length co15)) (fun _ hk => hk.2) (.slice Ao16 t722.length co16)) (fun _ hk => hk.2) (.int .i64 t725)) (fun _ hk => hk.2) (.int .i64 t726)) (fun _ hk => hk.2) (.int .i64 t727)) (fun _ hk => hk.2) (.int .i64 t728)) (fun _ h_ => h_.1))) (Kd.R_base ho0) hb); have n1_ := Aside0.mk (Kd.R_elder' (by (with_reducible repeat (first | apply Kd.R_alloc | apply Kd.R_drewN | apply Kd.R_drew)); exact (Kd.R_mono (Kd.R_far (p := ⟨gb729, 6, none⟩) (Kd.R_far (p := ⟨gb729, 5, none⟩) (Kd.R_far (p := ⟨gb729, 4, none⟩) (Kd.R_far (p := ⟨gb729, 3, none⟩) (Kd.R_far (p := ⟨gb729, 2, none⟩) (Kd.R_far (p := ⟨gb729, 1, none⟩) (Kd.R_far (p := ⟨gb729, 0, none⟩) (Kd.R_types HO724.out BK729.out (by decide)) (fun _ hk => hk.2) (.int .i64 t718)) (fun _ hk => hk.2) (.slice Ao15 t719.length co15)) (fun _ hk => hk.2) (.slice Ao16 t722.length co16)) (fun _ hk => hk.2) (.int .i64 t725)) (fun _ hk => hk.2) (.int .i64 t726)) (fun _ hk => hk.2) (.int .i64 t727)) (fun _ hk => hk.2) (.int .i64 t728)) (fun _ h_ => h_.1))) (Kd.R_base ho0) hb); have n2_ := Aside0.mk (Kd.R_lower (Kd.R_new' ho0 (Kd.R_lt (by (with_reducible repeat (first | apply Kd.R_alloc | apply Kd.R_drewN | apply Kd.R_drew)); exact (Kd.R_mono (Kd.R_far (p := ⟨gb729, 6, none⟩) (Kd.R_far (p := ⟨gb729, 5, none⟩) (Kd.R_far (p := ⟨gb729, 4, none⟩) (Kd.R_far (p := ⟨gb729, 3, none⟩) (Kd.R_far (p := ⟨gb729, 2, none⟩) (Kd.R_far (p := ⟨gb729, 1, none⟩) (Kd.R_far (p := ⟨gb729, 0, none⟩) (Kd.R_types HO724.out BK729.out (by decide)) (fun _ hk => hk.2) (.int .i64 t718)) (fun _ hk => hk.2) (.slice Ao15 t719.length co15)) (fun _ hk => hk.2) (.slice Ao16 t722.length co16)) (fun _ hk => hk.2) (.int .i64 t725)) (fun _ hk => hk.2) (.int .i64 t726)) (fun _ hk => hk.2) (.int .i64 t727)) (fun _ hk => hk.2) (.int .i64 t728)) (fun _ h_ => h_.1))))) (below_size (by with_reducible repeat (first | exact HB.out | apply below_alloc | apply pw_below_drewN | apply below_drew1 | refine below_set ?_ GE729.out)))); have n3_ := Aside0.mk (blk_below (g := gb729) (o := .cells #[.int .i64 t718, .slice Ao15 t719.length co15, .slice Ao16 t722.length co16, .int .i64 t725, .int .i64 t726, .int .i64 t727, .int .i64 t728] 45 (0, 0)) (by (with_reducible repeat (first | refine blk_drewN ?_ _ | refine blk_drew ?_ | refine blk_alloc ?_ _)); refine blk_put (cs := #[.int .i64 t718, .slice Ao15 t719.length co15, .slice Ao16 t722.length co16, .int .i64 t725, .int .i64 t726, .int .i64 t727, .int .i64 0]) ?_ 6 _ rfl; (with_reducible repeat (first | refine blk_drewN ?_ _ | refine blk_drew ?_ | refine blk_alloc ?_ _)); refine blk_put (cs := #[.int .i64 t718, .slice Ao15 t719.length co15, .slice Ao16 t722.length co16, .int .i64 t725, .int .i64 t726, .int .i64 0, .int .i64 0]) ?_ 5 _ rfl; (with_reducible repeat (first | refine blk_drewN ?_ _ | refine blk_drew ?_ | refine blk_alloc ?_ _)); refine blk_put (cs := #[.int .i64 t718, .slice Ao15 t719.length co15, .slice Ao16 t722.length co16, .int .i64 t725, .int .i64 0, .int .i64 0, .int .i64 0]) ?_ 4 _ rfl; (with_reducible repeat (first | refine blk_drewN ?_ _ | refine blk_drew ?_ | refine blk_alloc ?_ _)); refine blk_put (cs := #[.int .i64 t718, .slice Ao15 t719.length co15, .slice Ao16 t722.length co16, .int .i64 0, .int .i64 0, .int .i64 0, .int .i64 0]) ?_ 3 _ rfl; (with_reducible repeat (first | refine blk_drewN ?_ _ | refine blk_drew ?_ | refine blk_alloc ?_ _)); refine blk_put (cs := #[.int .i64 t718, .slice Ao15 t719.length co15, .slice none 0 0, .int .i64 0, .int .i64 0, .int .i64 0, .int .i64 0]) ?_ 2 _ rfl; (with_reducible repeat (first | refine blk_drewN ?_ _ | refine blk_drew ?_ | refine blk_alloc ?_ _)); refine blk_put (cs := #[.int .i64 t718, .slice none 0 0, .slice none 0 0, .int .i64 0, .int .i64 0, .int .i64 0, .int .i64 0]) ?_ 1 _ rfl; (with_reducible repeat (first | refine blk_drewN ?_ _ | refine blk_drew ?_ | refine blk_alloc ?_ _)); refine blk_put (cs := #[.int .i64 0, .slice none 0 0, .slice none 0 0, .int .i64 0, .int .i64 0, .int .i64 0, .int .i64 0]) ?_ 0 _ rfl; (with_reducible repeat (first | refine blk_drewN ?_ _ | refine blk_drew ?_ | refine blk_alloc ?_ _)); exact BK729.out) hb); have n4_ := Aside0.mk (below_step (by with_reducible repeat (first | exact HB.out | apply below_alloc | apply pw_below_drewN | apply below_drew1 | refine below_set ?_ GE729.out)) hb); clear HO721; clear HO724; clear BK729; clear HB; have HO721 := n0_; have HO724 := n1_; have HO732 := n2_; have BK729 := n3_; have HB := n4_; clear n0_ n1_ n2_ n3_ n4_; (try clear hb); (try clear hb2); (try clear hk); (try clear hi); (try clear ho0)) | (go_at_call 12; (with_reducible refine (laws_r8At.calls _ _ l1 40 40 t733 _ ?side1 ?side2 A7.out).mono ?_); (case side1 => repeat (first | exact (Kd.C_below HR1.out HB.out) | (with_reducible refine Kd.C_alloc ?_ _) | (with_reducible refine Kd.C_drewN ?_ _) | (with_reducible refine Kd.C_drew ?_))); (case side2 => exact HC1.out); rintro e w' ⟨rfl, ⟨nd, rfl⟩⟩; (try first | exact ⟨rfl, _, World.drewN_drewN _ _ _⟩ | exact ⟨rfl, _, Eq.trans (World.drewN_drewN _ _ _) (congrArg (World.drewN _) (Nat.add_assoc _ _ _))⟩); have hcz18_0 : w17.cell? ⟨gb729, 0, none⟩ = some (.int .i64 t718) := (blk_cell BK729.out 0).trans rfl; have hcz18_1 : w17.cell? ⟨gb729, 1, none⟩ = some (.slice Ao15 t719.length co15) := (blk_cell BK729.out 1).trans rfl; have hcz18_2 : w17.cell? ⟨gb729, 2, none⟩ = some (.slice Ao16 t722.length co16) := (blk_cell BK729.out 2).trans rfl; have hcz18_3 : w17.cell? ⟨gb729, 3, none⟩ = some (.int .i64 t725) := (blk_cell BK729.out 3).trans rfl; have hcz18_4 : w17.cell? ⟨gb729, 4, none⟩ = some (.int .i64 t726) := (blk_cell BK729.out 4).trans rfl; have hcz18_5 : w17.cell? ⟨gb729, 5, none⟩ = some (.int .i64 t727) := (blk_cell BK729.out 5).trans rfl; have hcz18_6 : w17.cell? ⟨gb729, 6, none⟩ = some (.int .i64 t728) := (blk_cell BK729.out 6).trans rfl; have hfz18_0 := blk_frozen BK729.out 0; have hfz18_1 := blk_frozen BK729.out 1; have hfz18_2 := blk_frozen BK729.out 2; have hfz18_3 := blk_frozen BK729.out 3; have hfz18_4 := blk_frozen BK729.out 4; have hfz18_5 := blk_frozen BK729.out 5; have hfz18_6 := blk_frozen BK729.out 6; obtain ⟨Ao19, co19, eo19⟩ := Kd.R_slice HO732.out; subst eo19) | (go_at_call 29; (with_reducible refine (impl_SetupRoom.calls k t718 _ _ t719 _ _ t722 t725 t726 t727 t728 (wrap64 (1 + t733)) _ _ t730 t734 t735 _ ?side1 ?side2 ?side3 ?side4 ?side5 ?side6 A8.out).mono ?_); (case side1 => repeat (first | exact (Kd.S_reads' HO721.out).2.2 | (with_reducible refine Kd.C_alloc ?_ _) | (with_reducible refine Kd.C_drewN ?_ _) | (with_reducible refine Kd.C_drew ?_))); (case side2 => exact (Kd.S_reads' HO721.out).2.1); (case side3 => repeat (first | exact (Kd.R_reads' HO724.out).2.2 | (with_reducible refine Kd.C_alloc ?_ _) | (with_reducible refine Kd.C_drewN ?_ _) | (with_reducible refine Kd.C_drew ?_))); (case side4 => exact (Kd.R_reads' HO724.out).2.1); (case side5 => repeat (first | exact (Kd.R_reads' HO732.out).2.2 | (with_reducible refine Kd.C_alloc ?_ _) | (with_reducible refine Kd.C_drewN ?_ _) | (with_reducible refine Kd.C_drew ?_))); (case side6 => exact (Kd.R_reads' HO732.out).2.1); rintro e w20 ⟨rfl, hb⟩; have n0_ := Aside0.mk (Kd.S_below (by (with_reducible repeat (first | apply Kd.S_alloc | apply Kd.S_drewN | apply Kd.S_drew)); exact HO721.out) hb); have n1_ := Aside0.mk (Kd.R_below (by (with_reducible repeat (first | apply Kd.R_alloc | apply Kd.R_drewN | apply Kd.R_drew)); exact HO724.out) hb); have n2_ := Aside0.mk (Kd.R_below (by (with_reducible repeat (first | apply Kd.R_alloc | apply Kd.R_drewN | apply Kd.R_drew)); exact HO732.out) hb); have n3_ := Aside0.mk (blk_below (g := gb729) (o := .cells #[.int .i64 t718, .slice Ao15 t719.length co15, .slice Ao16 t722.length co16, .int .i64 t725, .int .i64 t726, .int .i64 t727, .int .i64 t728] 45 (0, 0)) (by (with_reducible repeat (first | refine blk_drewN ?_ _ | refine blk_drew ?_ | refine blk_alloc ?_ _)); exact BK729.out) hb); have n4_ := Aside0.mk (below_step (by with_reducible repeat (first | exact HB.out | apply below_alloc | apply pw_below_drewN | apply below_drew1 | refine below_set ?_ GE729.out)) hb); clear HO721; clear HO724; clear HO732; clear BK729; clear HB; have HO721 := n0_; have HO724 := n1_; have HO732 := n2_; have BK729 := n3_; have HB := n4_; clear n0_ n1_ n2_ n3_ n4_; (try clear hb); (try clear hb2); (try clear hk); (try clear hi); have hcz21_0 : w20.cell? ⟨gb729, 0, none⟩ = some (.int .i64 t718) := (blk_cell BK729.out 0).trans rfl; have hcz21_1 : w20.cell? ⟨gb729, 1, none⟩ = some (.slice Ao15 t719.length co15) := (blk_cell BK729.out 1).trans rfl; have hcz21_2 : w20.cell? ⟨gb729, 2, none⟩ = some (.slice Ao16 t722.length co16) := (blk_cell BK729.out 2).trans rfl; have hcz21_3 : w20.cell? ⟨gb729, 3, none⟩ = some (.int .i64 t725) := (blk_cell BK729.out 3).trans rfl; have hcz21_4 : w20.cell? ⟨gb729, 4, none⟩ = some (.int .i64 t726) := (blk_cell BK729.out 4).trans rfl; have hcz21_5 : w20.cell? ⟨gb729, 5, none⟩ = some (.int .i64 t727) := (blk_cell BK729.out 5).trans rfl; have hcz21_6 : w20.cell? ⟨gb729, 6, none⟩ = some (.int .i64 t728) := (blk_cell BK729.out 6).trans rfl; have hfz21_0 := blk_frozen BK729.out 0; have hfz21_1 := blk_frozen BK729.out 1; have hfz21_2 := blk_frozen BK729.out 2; have hfz21_3 := blk_frozen BK729.out 3; have hfz21_4 := blk_frozen BK729.out 4; have hfz21_5 := blk_frozen BK729.out 5; have hfz21_6 := blk_frozen BK729.out 6) | (go_at_call 25; (with_reducible refine (impl_HoldRoom.calls k t718 _ _ t719 _ _ t722 t725 t726 t727 t728 _ _ t730 t736 t737 _ ?side1 ?side2 ?side3 ?side4 ?side5 ?side6 A9.out).mono ?_); (case side1 => repeat (first | exact (Kd.S_reads' HO721.out).2.2 | (with_reducible refine Kd.C_alloc ?_ _) | (with_reducible refine Kd.C_drewN ?_ _) | (with_reducible refine Kd.C_drew ?_))); (case side2 => exact (Kd.S_reads' HO721.out).2.1); (case side3 => repeat (first | exact (Kd.R_reads' HO724.out).2.2 | (with_reducible refine Kd.C_alloc ?_ _) | (with_reducible refine Kd.C_drewN ?_ _) | (with_reducible refine Kd.C_drew ?_))); (case side4 => exact (Kd.R_reads' HO724.out).2.1); (case side5 => repeat (first | exact (Kd.R_reads' HO732.out).2.2 | (with_reducible refine Kd.C_alloc ?_ _) | (with_reducible refine Kd.C_drewN ?_ _) | (with_reducible refine Kd.C_drew ?_))); (case side6 => exact (Kd.R_reads' HO732.out).2.1); rintro e w22 ⟨rfl, hb⟩; have n0_ := Aside0.mk (Kd.S_below (by (with_reducible repeat (first | apply Kd.S_alloc | apply Kd.S_drewN | apply Kd.S_drew)); exact HO721.out) hb); have n1_ := Aside0.mk (Kd.R_below (by (with_reducible repeat (first | apply Kd.R_alloc | apply Kd.R_drewN | apply Kd.R_drew)); exact HO724.out) hb); have n2_ := Aside0.mk (Kd.R_below (by (with_reducible repeat (first | apply Kd.R_alloc | apply Kd.R_drewN | apply Kd.R_drew)); exact HO732.out) hb); have n3_ := Aside0.mk (blk_below (g := gb729) (o := .cells #[.int .i64 t718, .slice Ao15 t719.length co15, .slice Ao16 t722.length co16, .int .i64 t725, .int .i64 t726, .int .i64 t727, .int .i64 t728] 45 (0, 0)) (by (with_reducible repeat (first | refine blk_drewN ?_ _ | refine blk_drew ?_ | refine blk_alloc ?_ _)); exact BK729.out) hb); have n4_ := Aside0.mk (below_step (by with_reducible repeat (first | exact HB.out | apply below_alloc | apply pw_below_drewN | apply below_drew1 | refine below_set ?_ GE729.out)) hb); clear HO721; clear HO724; clear HO732; clear BK729; clear HB; have HO721 := n0_; have HO724 := n1_; have HO732 := n2_; have BK729 := n3_; have HB := n4_; clear n0_ n1_ n2_ n3_ n4_; (try clear hb); (try clear hb2); (try clear hk); (try clear hi); have hcz23_0 : w22.cell? ⟨gb729, 0, none⟩ = some (.int .i64 t718) := (blk_cell BK729.out 0).trans rfl; have hcz23_1 : w22.cell? ⟨gb729, 1, none⟩ = some (.slice Ao15 t719.length co15) := (blk_cell BK729.out 1).trans rfl; have hcz23_2 : w22.cell? ⟨gb729, 2, none⟩ = some (.slice Ao16 t722.length co16) := (blk_cell BK729.out 2).trans rfl; have hcz23_3 : w22.cell? ⟨gb729, 3, none⟩ = some (.int .i64 t725) := (blk_cell BK729.out 3).trans rfl; have hcz23_4 : w22.cell? ⟨gb729, 4, none⟩ = some (.int .i64 t726) := (blk_cell BK729.out 4).trans rfl; have hcz23_5 : w22.cell? ⟨gb729, 5, none⟩ = some (.int .i64 t727) := (blk_cell BK729.out 5).trans rfl; have hcz23_6 : w22.cell? ⟨gb729, 6, none⟩ = some (.int .i64 t728) := (blk_cell BK729.out 6).trans rfl; have hfz23_0 := blk_frozen BK729.out 0; have hfz23_1 := blk_frozen BK729.out 1; have hfz23_2 := blk_frozen BK729.out 2; have hfz23_3 := blk_frozen BK729.out 3; have hfz23_4 := blk_frozen BK729.out 4; have hfz23_5 := blk_frozen BK729.out 5; have hfz23_6 := blk_frozen BK729.out 6) | (go_at_call 30; (with_reducible refine (impl_LeastPeriod.calls k t718 _ _ t719 _ _ t722 t725 t726 t727 t728 _ _ t730 t738 t739 _ ?side1 ?side2 ?side3 ?side4 ?side5 ?side6 A10.out).mono ?_); (case side1 => repeat (first | exact (Kd.S_reads' HO721.out).2.2 | (with_reducible refine Kd.C_alloc ?_ _) | (with_reducible refine Kd.C_drewN ?_ _) | (with_reducible refine Kd.C_drew ?_))); (case side2 => exact (Kd.S_reads' HO721.out).2.1); (case side3 => repeat (first | exact (Kd.R_reads' HO724.out).2.2 | (with_reducible refine Kd.C_alloc ?_ _) | (with_reducible refine Kd.C_drewN ?_ _) | (with_reducible refine Kd.C_drew ?_))); (case side4 => exact (Kd.R_reads' HO724.out).2.1); (case side5 => repeat (first | exact (Kd.R_reads' HO732.out).2.2 | (with_reducible refine Kd.C_alloc ?_ _) | (with_reducible refine Kd.C_drewN ?_ _) | (with_reducible refine Kd.C_drew ?_))); (case side6 => exact (Kd.R_reads' HO732.out).2.1); rintro e w24 ⟨rfl, hb⟩; have n0_ := Aside0.mk (Kd.S_below (by (with_reducible repeat (first | apply Kd.S_alloc | apply Kd.S_drewN | apply Kd.S_drew)); exact HO721.out) hb); have n1_ := Aside0.mk (Kd.R_below (by (with_reducible repeat (first | apply Kd.R_alloc | apply Kd.R_drewN | apply Kd.R_drew)); exact HO724.out) hb); have n2_ := Aside0.mk (Kd.R_below (by (with_reducible repeat (first | apply Kd.R_alloc | apply Kd.R_drewN | apply Kd.R_drew)); exact HO732.out) hb); have n3_ := Aside0.mk (blk_below (g := gb729) (o := .cells #[.int .i64 t718, .slice Ao15 t719.length co15, .slice Ao16 t722.length co16, .int .i64 t725, .int .i64 t726, .int .i64 t727, .int .i64 t728] 45 (0, 0)) (by (with_reducible repeat (first | refine blk_drewN ?_ _ | refine blk_drew ?_ | refine blk_alloc ?_ _)); exact BK729.out) hb); have n4_ := Aside0.mk (below_step (by with_reducible repeat (first | exact HB.out | apply below_alloc | apply pw_below_drewN | apply below_drew1 | refine below_set ?_ GE729.out)) hb); clear HO721; clear HO724; clear HO732; clear BK729; clear HB; have HO721 := n0_; have HO724 := n1_; have HO732 := n2_; have BK729 := n3_; have HB := n4_; clear n0_ n1_ n2_ n3_ n4_; (try clear hb); (try clear hb2); (try clear hk); (try clear hi)))
  repeat (go_quiet (first | (go_at_call 8; (with_reducible refine (laws_r8Long.calls _ _ l0 _ _ l1 false _ ?side1 ?side2 ?side3 ?side4 A3.out).mono ?_); (case side1 => repeat (first | exact HR0.out | (with_reducible refine Kd.C_alloc ?_ _) | (with_reducible refine Kd.C_drewN ?_ _) | (with_reducible refine Kd.C_drew ?_))); (case side2 => exact HC0.out); (case side3 => repeat (first | exact HR1.out | (with_reducible refine Kd.C_alloc ?_ _) | (with_reducible refine Kd.C_drewN ?_ _) | (with_reducible refine Kd.C_drew ?_))); (case side4 => exact HC1.out); rintro e w' ⟨rfl, ⟨nd, rfl⟩⟩; (try first | exact ⟨rfl, _, World.drewN_drewN _ _ _⟩ | exact ⟨rfl, _, Eq.trans (World.drewN_drewN _ _ _) (congrArg (World.drewN _) (Nat.add_assoc _ _ _))⟩)) | (go_at_call 19; (with_reducible refine (spec_R8Circuit.calls k _ _ l0 t718 t719 t722 t725 t726 t727 t728 _ ?side1 ?side2 A5.out).mono ?_); (case side1 => repeat (first | exact HR0.out | (with_reducible refine Kd.C_alloc ?_ _) | (with_reducible refine Kd.C_drewN ?_ _) | (with_reducible refine Kd.C_drew ?_))); (case side2 => exact HC0.out); rintro e w12 ⟨v720, v723, rfl, ho0, ho1, hb⟩; have n0_ := Aside0.mk (Kd.S_lower ho0 (below_size (by with_reducible repeat (first | exact HB.out | apply below_alloc | apply pw_below_drewN | apply below_drew1)))); have n1_ := Aside0.mk (Kd.R_lower ho1 (below_size (by with_reducible repeat (first | exact HB.out | apply below_alloc | apply pw_below_drewN | apply below_drew1)))); have n2_ := Aside0.mk (below_step (by with_reducible repeat (first | exact HB.out | apply below_alloc | apply pw_below_drewN | apply below_drew1)) hb); clear HB; have HO721 := n0_; have HO724 := n1_; have HB := n2_; clear n0_ n1_ n2_; (try clear hb); (try clear hb2); (try clear hk); (try clear hi); (try clear ho0); (try clear ho1)) | (go_at_call 20; (with_reducible refine (spec_R8Skews.calls k _ _ l1 t718 t730 _ ?side1 ?side2 A6.out).mono ?_); (case side1 => exact Kd.C_below HR1.out (by with_reducible repeat (first | exact HB.out | apply below_alloc | apply pw_below_drewN | apply below_drew1 | refine below_set ?_ GE729.out))); (case side2 => exact HC1.out); rintro e w17 ⟨v731, rfl, ho0, hb⟩; have n0_ := Aside0.mk (Kd.S_elder' (by (with_reducible repeat (first | apply Kd.S_alloc | apply Kd.S_drewN | apply Kd.S_drew)); exact (Kd.S_mono (Kd.S_far (p := ⟨gb729, 6, none⟩) (Kd.S_far (p := ⟨gb729, 5, none⟩) (Kd.S_far (p := ⟨gb729, 4, none⟩) (Kd.S_far (p := ⟨gb729, 3, none⟩) (Kd.S_far (p := ⟨gb729, 2, none⟩) (Kd.S_far (p := ⟨gb729, 1, none⟩) (Kd.S_far (p := ⟨gb729, 0, none⟩) (Kd.S_types HO721.out BK729.out (by decide)) (fun _ hk => hk.2) (.int .i64 t718)) (fun _ hk => hk.2) (.slice Ao15 t719.length co15)) (fun _ hk => hk.2) (.slice Ao16 t722.length co16)) (fun _ hk => hk.2) (.int .i64 t725)) (fun _ hk => hk.2) (.int .i64 t726)) (fun _ hk => hk.2) (.int .i64 t727)) (fun _ hk => hk.2) (.int .i64 t728)) (fun _ h_ => h_.1))) (Kd.R_base ho0) hb); have n1_ := Aside0.mk (Kd.R_elder' (by (with_reducible repeat (first | apply Kd.R_alloc | apply Kd.R_drewN | apply Kd.R_drew)); exact (Kd.R_mono (Kd.R_far (p := ⟨gb729, 6, none⟩) (Kd.R_far (p := ⟨gb729, 5, none⟩) (Kd.R_far (p := ⟨gb729, 4, none⟩) (Kd.R_far (p := ⟨gb729, 3, none⟩) (Kd.R_far (p := ⟨gb729, 2, none⟩) (Kd.R_far (p := ⟨gb729, 1, none⟩) (Kd.R_far (p := ⟨gb729, 0, none⟩) (Kd.R_types HO724.out BK729.out (by decide)) (fun _ hk => hk.2) (.int .i64 t718)) (fun _ hk => hk.2) (.slice Ao15 t719.length co15)) (fun _ hk => hk.2) (.slice Ao16 t722.length co16)) (fun _ hk => hk.2) (.int .i64 t725)) (fun _ hk => hk.2) (.int .i64 t726)) (fun _ hk => hk.2) (.int .i64 t727)) (fun _ hk => hk.2) (.int .i64 t728)) (fun _ h_ => h_.1))) (Kd.R_base ho0) hb); have n2_ := Aside0.mk (Kd.R_lower (Kd.R_new' ho0 (Kd.R_lt (by (with_reducible repeat (first | apply Kd.R_alloc | apply Kd.R_drewN | apply Kd.R_drew)); exact (Kd.R_mono (Kd.R_far (p := ⟨gb729, 6, none⟩) (Kd.R_far (p := ⟨gb729, 5, none⟩) (Kd.R_far (p := ⟨gb729, 4, none⟩) (Kd.R_far (p := ⟨gb729, 3, none⟩) (Kd.R_far (p := ⟨gb729, 2, none⟩) (Kd.R_far (p := ⟨gb729, 1, none⟩) (Kd.R_far (p := ⟨gb729, 0, none⟩) (Kd.R_types HO724.out BK729.out (by decide)) (fun _ hk => hk.2) (.int .i64 t718)) (fun _ hk => hk.2) (.slice Ao15 t719.length co15)) (fun _ hk => hk.2) (.slice Ao16 t722.length co16)) (fun _ hk => hk.2) (.int .i64 t725)) (fun _ hk => hk.2) (.int .i64 t726)) (fun _ hk => hk.2) (.int .i64 t727)) (fun _ hk => hk.2) (.int .i64 t728)) (fun _ h_ => h_.1))))) (below_size (by with_reducible repeat (first | exact HB.out | apply below_alloc | apply pw_below_drewN | apply below_drew1 | refine below_set ?_ GE729.out)))); have n3_ := Aside0.mk (blk_below (g := gb729) (o := .cells #[.int .i64 t718, .slice Ao15 t719.length co15, .slice Ao16 t722.length co16, .int .i64 t725, .int .i64 t726, .int .i64 t727, .int .i64 t728] 45 (0, 0)) (by (with_reducible repeat (first | refine blk_drewN ?_ _ | refine blk_drew ?_ | refine blk_alloc ?_ _)); refine blk_put (cs := #[.int .i64 t718, .slice Ao15 t719.length co15, .slice Ao16 t722.length co16, .int .i64 t725, .int .i64 t726, .int .i64 t727, .int .i64 0]) ?_ 6 _ rfl; (with_reducible repeat (first | refine blk_drewN ?_ _ | refine blk_drew ?_ | refine blk_alloc ?_ _)); refine blk_put (cs := #[.int .i64 t718, .slice Ao15 t719.length co15, .slice Ao16 t722.length co16, .int .i64 t725, .int .i64 t726, .int .i64 0, .int .i64 0]) ?_ 5 _ rfl; (with_reducible repeat (first | refine blk_drewN ?_ _ | refine blk_drew ?_ | refine blk_alloc ?_ _)); refine blk_put (cs := #[.int .i64 t718, .slice Ao15 t719.length co15, .slice Ao16 t722.length co16, .int .i64 t725, .int .i64 0, .int .i64 0, .int .i64 0]) ?_ 4 _ rfl; (with_reducible repeat (first | refine blk_drewN ?_ _ | refine blk_drew ?_ | refine blk_alloc ?_ _)); refine blk_put (cs := #[.int .i64 t718, .slice Ao15 t719.length co15, .slice Ao16 t722.length co16, .int .i64 0, .int .i64 0, .int .i64 0, .int .i64 0]) ?_ 3 _ rfl; (with_reducible repeat (first | refine blk_drewN ?_ _ | refine blk_drew ?_ | refine blk_alloc ?_ _)); refine blk_put (cs := #[.int .i64 t718, .slice Ao15 t719.length co15, .slice none 0 0, .int .i64 0, .int .i64 0, .int .i64 0, .int .i64 0]) ?_ 2 _ rfl; (with_reducible repeat (first | refine blk_drewN ?_ _ | refine blk_drew ?_ | refine blk_alloc ?_ _)); refine blk_put (cs := #[.int .i64 t718, .slice none 0 0, .slice none 0 0, .int .i64 0, .int .i64 0, .int .i64 0, .int .i64 0]) ?_ 1 _ rfl; (with_reducible repeat (first | refine blk_drewN ?_ _ | refine blk_drew ?_ | refine blk_alloc ?_ _)); refine blk_put (cs := #[.int .i64 0, .slice none 0 0, .slice none 0 0, .int .i64 0, .int .i64 0, .int .i64 0, .int .i64 0]) ?_ 0 _ rfl; (with_reducible repeat (first | refine blk_drewN ?_ _ | refine blk_drew ?_ | refine blk_alloc ?_ _)); exact BK729.out) hb); have n4_ := Aside0.mk (below_step (by with_reducible repeat (first | exact HB.out | apply below_alloc | apply pw_below_drewN | apply below_drew1 | refine below_set ?_ GE729.out)) hb); clear HO721; clear HO724; clear BK729; clear HB; have HO721 := n0_; have HO724 := n1_; have HO732 := n2_; have BK729 := n3_; have HB := n4_; clear n0_ n1_ n2_ n3_ n4_; (try clear hb); (try clear hb2); (try clear hk); (try clear hi); (try clear ho0)) | (go_at_call 12; (with_reducible refine (laws_r8At.calls _ _ l1 40 40 t733 _ ?side1 ?side2 A7.out).mono ?_); (case side1 => repeat (first | exact (Kd.C_below HR1.out HB.out) | (with_reducible refine Kd.C_alloc ?_ _) | (with_reducible refine Kd.C_drewN ?_ _) | (with_reducible refine Kd.C_drew ?_))); (case side2 => exact HC1.out); rintro e w' ⟨rfl, ⟨nd, rfl⟩⟩; (try first | exact ⟨rfl, _, World.drewN_drewN _ _ _⟩ | exact ⟨rfl, _, Eq.trans (World.drewN_drewN _ _ _) (congrArg (World.drewN _) (Nat.add_assoc _ _ _))⟩); have hcz18_0 : w17.cell? ⟨gb729, 0, none⟩ = some (.int .i64 t718) := (blk_cell BK729.out 0).trans rfl; have hcz18_1 : w17.cell? ⟨gb729, 1, none⟩ = some (.slice Ao15 t719.length co15) := (blk_cell BK729.out 1).trans rfl; have hcz18_2 : w17.cell? ⟨gb729, 2, none⟩ = some (.slice Ao16 t722.length co16) := (blk_cell BK729.out 2).trans rfl; have hcz18_3 : w17.cell? ⟨gb729, 3, none⟩ = some (.int .i64 t725) := (blk_cell BK729.out 3).trans rfl; have hcz18_4 : w17.cell? ⟨gb729, 4, none⟩ = some (.int .i64 t726) := (blk_cell BK729.out 4).trans rfl; have hcz18_5 : w17.cell? ⟨gb729, 5, none⟩ = some (.int .i64 t727) := (blk_cell BK729.out 5).trans rfl; have hcz18_6 : w17.cell? ⟨gb729, 6, none⟩ = some (.int .i64 t728) := (blk_cell BK729.out 6).trans rfl; have hfz18_0 := blk_frozen BK729.out 0; have hfz18_1 := blk_frozen BK729.out 1; have hfz18_2 := blk_frozen BK729.out 2; have hfz18_3 := blk_frozen BK729.out 3; have hfz18_4 := blk_frozen BK729.out 4; have hfz18_5 := blk_frozen BK729.out 5; have hfz18_6 := blk_frozen BK729.out 6; obtain ⟨Ao19, co19, eo19⟩ := Kd.R_slice HO732.out; subst eo19) | (go_at_call 29; (with_reducible refine (impl_SetupRoom.calls k t718 _ _ t719 _ _ t722 t725 t726 t727 t728 (wrap64 (1 + t733)) _ _ t730 t734 t735 _ ?side1 ?side2 ?side3 ?side4 ?side5 ?side6 A8.out).mono ?_); (case side1 => repeat (first | exact (Kd.S_reads' HO721.out).2.2 | (with_reducible refine Kd.C_alloc ?_ _) | (with_reducible refine Kd.C_drewN ?_ _) | (with_reducible refine Kd.C_drew ?_))); (case side2 => exact (Kd.S_reads' HO721.out).2.1); (case side3 => repeat (first | exact (Kd.R_reads' HO724.out).2.2 | (with_reducible refine Kd.C_alloc ?_ _) | (with_reducible refine Kd.C_drewN ?_ _) | (with_reducible refine Kd.C_drew ?_))); (case side4 => exact (Kd.R_reads' HO724.out).2.1); (case side5 => repeat (first | exact (Kd.R_reads' HO732.out).2.2 | (with_reducible refine Kd.C_alloc ?_ _) | (with_reducible refine Kd.C_drewN ?_ _) | (with_reducible refine Kd.C_drew ?_))); (case side6 => exact (Kd.R_reads' HO732.out).2.1); rintro e w20 ⟨rfl, hb⟩; have n0_ := Aside0.mk (Kd.S_below (by (with_reducible repeat (first | apply Kd.S_alloc | apply Kd.S_drewN | apply Kd.S_drew)); exact HO721.out) hb); have n1_ := Aside0.mk (Kd.R_below (by (with_reducible repeat (first | apply Kd.R_alloc | apply Kd.R_drewN | apply Kd.R_drew)); exact HO724.out) hb); have n2_ := Aside0.mk (Kd.R_below (by (with_reducible repeat (first | apply Kd.R_alloc | apply Kd.R_drewN | apply Kd.R_drew)); exact HO732.out) hb); have n3_ := Aside0.mk (blk_below (g := gb729) (o := .cells #[.int .i64 t718, .slice Ao15 t719.length co15, .slice Ao16 t722.length co16, .int .i64 t725, .int .i64 t726, .int .i64 t727, .int .i64 t728] 45 (0, 0)) (by (with_reducible repeat (first | refine blk_drewN ?_ _ | refine blk_drew ?_ | refine blk_alloc ?_ _)); exact BK729.out) hb); have n4_ := Aside0.mk (below_step (by with_reducible repeat (first | exact HB.out | apply below_alloc | apply pw_below_drewN | apply below_drew1 | refine below_set ?_ GE729.out)) hb); clear HO721; clear HO724; clear HO732; clear BK729; clear HB; have HO721 := n0_; have HO724 := n1_; have HO732 := n2_; have BK729 := n3_; have HB := n4_; clear n0_ n1_ n2_ n3_ n4_; (try clear hb); (try clear hb2); (try clear hk); (try clear hi); have hcz21_0 : w20.cell? ⟨gb729, 0, none⟩ = some (.int .i64 t718) := (blk_cell BK729.out 0).trans rfl; have hcz21_1 : w20.cell? ⟨gb729, 1, none⟩ = some (.slice Ao15 t719.length co15) := (blk_cell BK729.out 1).trans rfl; have hcz21_2 : w20.cell? ⟨gb729, 2, none⟩ = some (.slice Ao16 t722.length co16) := (blk_cell BK729.out 2).trans rfl; have hcz21_3 : w20.cell? ⟨gb729, 3, none⟩ = some (.int .i64 t725) := (blk_cell BK729.out 3).trans rfl; have hcz21_4 : w20.cell? ⟨gb729, 4, none⟩ = some (.int .i64 t726) := (blk_cell BK729.out 4).trans rfl; have hcz21_5 : w20.cell? ⟨gb729, 5, none⟩ = some (.int .i64 t727) := (blk_cell BK729.out 5).trans rfl; have hcz21_6 : w20.cell? ⟨gb729, 6, none⟩ = some (.int .i64 t728) := (blk_cell BK729.out 6).trans rfl; have hfz21_0 := blk_frozen BK729.out 0; have hfz21_1 := blk_frozen BK729.out 1; have hfz21_2 := blk_frozen BK729.out 2; have hfz21_3 := blk_frozen BK729.out 3; have hfz21_4 := blk_frozen BK729.out 4; have hfz21_5 := blk_frozen BK729.out 5; have hfz21_6 := blk_frozen BK729.out 6) | (go_at_call 25; (with_reducible refine (impl_HoldRoom.calls k t718 _ _ t719 _ _ t722 t725 t726 t727 t728 _ _ t730 t736 t737 _ ?side1 ?side2 ?side3 ?side4 ?side5 ?side6 A9.out).mono ?_); (case side1 => repeat (first | exact (Kd.S_reads' HO721.out).2.2 | (with_reducible refine Kd.C_alloc ?_ _) | (with_reducible refine Kd.C_drewN ?_ _) | (with_reducible refine Kd.C_drew ?_))); (case side2 => exact (Kd.S_reads' HO721.out).2.1); (case side3 => repeat (first | exact (Kd.R_reads' HO724.out).2.2 | (with_reducible refine Kd.C_alloc ?_ _) | (with_reducible refine Kd.C_drewN ?_ _) | (with_reducible refine Kd.C_drew ?_))); (case side4 => exact (Kd.R_reads' HO724.out).2.1); (case side5 => repeat (first | exact (Kd.R_reads' HO732.out).2.2 | (with_reducible refine Kd.C_alloc ?_ _) | (with_reducible refine Kd.C_drewN ?_ _) | (with_reducible refine Kd.C_drew ?_))); (case side6 => exact (Kd.R_reads' HO732.out).2.1); rintro e w22 ⟨rfl, hb⟩; have n0_ := Aside0.mk (Kd.S_below (by (with_reducible repeat (first | apply Kd.S_alloc | apply Kd.S_drewN | apply Kd.S_drew)); exact HO721.out) hb); have n1_ := Aside0.mk (Kd.R_below (by (with_reducible repeat (first | apply Kd.R_alloc | apply Kd.R_drewN | apply Kd.R_drew)); exact HO724.out) hb); have n2_ := Aside0.mk (Kd.R_below (by (with_reducible repeat (first | apply Kd.R_alloc | apply Kd.R_drewN | apply Kd.R_drew)); exact HO732.out) hb); have n3_ := Aside0.mk (blk_below (g := gb729) (o := .cells #[.int .i64 t718, .slice Ao15 t719.length co15, .slice Ao16 t722.length co16, .int .i64 t725, .int .i64 t726, .int .i64 t727, .int .i64 t728] 45 (0, 0)) (by (with_reducible repeat (first | refine blk_drewN ?_ _ | refine blk_drew ?_ | refine blk_alloc ?_ _)); exact BK729.out) hb); have n4_ := Aside0.mk (below_step (by with_reducible repeat (first | exact HB.out | apply below_alloc | apply pw_below_drewN | apply below_drew1 | refine below_set ?_ GE729.out)) hb); clear HO721; clear HO724; clear HO732; clear BK729; clear HB; have HO721 := n0_; have HO724 := n1_; have HO732 := n2_; have BK729 := n3_; have HB := n4_; clear n0_ n1_ n2_ n3_ n4_; (try clear hb); (try clear hb2); (try clear hk); (try clear hi); have hcz23_0 : w22.cell? ⟨gb729, 0, none⟩ = some (.int .i64 t718) := (blk_cell BK729.out 0).trans rfl; have hcz23_1 : w22.cell? ⟨gb729, 1, none⟩ = some (.slice Ao15 t719.length co15) := (blk_cell BK729.out 1).trans rfl; have hcz23_2 : w22.cell? ⟨gb729, 2, none⟩ = some (.slice Ao16 t722.length co16) := (blk_cell BK729.out 2).trans rfl; have hcz23_3 : w22.cell? ⟨gb729, 3, none⟩ = some (.int .i64 t725) := (blk_cell BK729.out 3).trans rfl; have hcz23_4 : w22.cell? ⟨gb729, 4, none⟩ = some (.int .i64 t726) := (blk_cell BK729.out 4).trans rfl; have hcz23_5 : w22.cell? ⟨gb729, 5, none⟩ = some (.int .i64 t727) := (blk_cell BK729.out 5).trans rfl; have hcz23_6 : w22.cell? ⟨gb729, 6, none⟩ = some (.int .i64 t728) := (blk_cell BK729.out 6).trans rfl; have hfz23_0 := blk_frozen BK729.out 0; have hfz23_1 := blk_frozen BK729.out 1; have hfz23_2 := blk_frozen BK729.out 2; have hfz23_3 := blk_frozen BK729.out 3; have hfz23_4 := blk_frozen BK729.out 4; have hfz23_5 := blk_frozen BK729.out 5; have hfz23_6 := blk_frozen BK729.out 6) | (go_at_call 30; (with_reducible refine (impl_LeastPeriod.calls k t718 _ _ t719 _ _ t722 t725 t726 t727 t728 _ _ t730 t738 t739 _ ?side1 ?side2 ?side3 ?side4 ?side5 ?side6 A10.out).mono ?_); (case side1 => repeat (first | exact (Kd.S_reads' HO721.out).2.2 | (with_reducible refine Kd.C_alloc ?_ _) | (with_reducible refine Kd.C_drewN ?_ _) | (with_reducible refine Kd.C_drew ?_))); (case side2 => exact (Kd.S_reads' HO721.out).2.1); (case side3 => repeat (first | exact (Kd.R_reads' HO724.out).2.2 | (with_reducible refine Kd.C_alloc ?_ _) | (with_reducible refine Kd.C_drewN ?_ _) | (with_reducible refine Kd.C_drew ?_))); (case side4 => exact (Kd.R_reads' HO724.out).2.1); (case side5 => repeat (first | exact (Kd.R_reads' HO732.out).2.2 | (with_reducible refine Kd.C_alloc ?_ _) | (with_reducible refine Kd.C_drewN ?_ _) | (with_reducible refine Kd.C_drew ?_))); (case side6 => exact (Kd.R_reads' HO732.out).2.1); rintro e w24 ⟨rfl, hb⟩; have n0_ := Aside0.mk (Kd.S_below (by (with_reducible repeat (first | apply Kd.S_alloc | apply Kd.S_drewN | apply Kd.S_drew)); exact HO721.out) hb); have n1_ := Aside0.mk (Kd.R_below (by (with_reducible repeat (first | apply Kd.R_alloc | apply Kd.R_drewN | apply Kd.R_drew)); exact HO724.out) hb); have n2_ := Aside0.mk (Kd.R_below (by (with_reducible repeat (first | apply Kd.R_alloc | apply Kd.R_drewN | apply Kd.R_drew)); exact HO732.out) hb); have n3_ := Aside0.mk (blk_below (g := gb729) (o := .cells #[.int .i64 t718, .slice Ao15 t719.length co15, .slice Ao16 t722.length co16, .int .i64 t725, .int .i64 t726, .int .i64 t727, .int .i64 t728] 45 (0, 0)) (by (with_reducible repeat (first | refine blk_drewN ?_ _ | refine blk_drew ?_ | refine blk_alloc ?_ _)); exact BK729.out) hb); have n4_ := Aside0.mk (below_step (by with_reducible repeat (first | exact HB.out | apply below_alloc | apply pw_below_drewN | apply below_drew1 | refine below_set ?_ GE729.out)) hb); clear HO721; clear HO724; clear HO732; clear BK729; clear HB; have HO721 := n0_; have HO724 := n1_; have HO732 := n2_; have BK729 := n3_; have HB := n4_; clear n0_ n1_ n2_ n3_ n4_; (try clear hb); (try clear hb2); (try clear hk); (try clear hi))); go_upto_region 9 with (first | (go_at_call 8; (with_reducible refine (laws_r8Long.calls _ _ l0 _ _ l1 false _ ?side1 ?side2 ?side3 ?side4 A3.out).mono ?_); (case side1 => repeat (first | exact HR0.out | (with_reducible refine Kd.C_alloc ?_ _) | (with_reducible refine Kd.C_drewN ?_ _) | (with_reducible refine Kd.C_drew ?_))); (case side2 => exact HC0.out); (case side3 => repeat (first | exact HR1.out | (with_reducible refine Kd.C_alloc ?_ _) | (with_reducible refine Kd.C_drewN ?_ _) | (with_reducible refine Kd.C_drew ?_))); (case side4 => exact HC1.out); rintro e w' ⟨rfl, ⟨nd, rfl⟩⟩; (try first | exact ⟨rfl, _, World.drewN_drewN _ _ _⟩ | exact ⟨rfl, _, Eq.trans (World.drewN_drewN _ _ _) (congrArg (World.drewN _) (Nat.add_assoc _ _ _))⟩)) | (go_at_call 19; (with_reducible refine (spec_R8Circuit.calls k _ _ l0 t718 t719 t722 t725 t726 t727 t728 _ ?side1 ?side2 A5.out).mono ?_); (case side1 => repeat (first | exact HR0.out | (with_reducible refine Kd.C_alloc ?_ _) | (with_reducible refine Kd.C_drewN ?_ _) | (with_reducible refine Kd.C_drew ?_))); (case side2 => exact HC0.out); rintro e w12 ⟨v720, v723, rfl, ho0, ho1, hb⟩; have n0_ := Aside0.mk (Kd.S_lower ho0 (below_size (by with_reducible repeat (first | exact HB.out | apply below_alloc | apply pw_below_drewN | apply below_drew1)))); have n1_ := Aside0.mk (Kd.R_lower ho1 (below_size (by with_reducible repeat (first | exact HB.out | apply below_alloc | apply pw_below_drewN | apply below_drew1)))); have n2_ := Aside0.mk (below_step (by with_reducible repeat (first | exact HB.out | apply below_alloc | apply pw_below_drewN | apply below_drew1)) hb); clear HB; have HO721 := n0_; have HO724 := n1_; have HB := n2_; clear n0_ n1_ n2_; (try clear hb); (try clear hb2); (try clear hk); (try clear hi); (try clear ho0); (try clear ho1)) | ((with_reducible refine gate_dst (N := 5) rfl ?_); refine box_event ?hg (N := 5) ?hd (cs := #[.int .i64 0, .slice none 0 0, .slice none 0 0, .int .i64 0, .int .i64 0, .int .i64 0, .int .i64 0]) (t := 45) ?hr ?_; (case hd => rfl); (case hg => rfl); (case hr => first | (go_simp; done) | (go_simp; rfl)); intro gb729 hg w13 hbox hb; have n0_ := Aside0.mk (Kd.S_below (by (with_reducible repeat (first | apply Kd.S_alloc | apply Kd.S_drewN | apply Kd.S_drew)); exact HO721.out) hb); have n1_ := Aside0.mk (Kd.R_below (by (with_reducible repeat (first | apply Kd.R_alloc | apply Kd.R_drewN | apply Kd.R_drew)); exact HO724.out) hb); have n2_ := Aside0.mk (below_step (by with_reducible repeat (first | exact HB.out | apply below_alloc | apply pw_below_drewN | apply below_drew1)) hb); have n3_ := Aside0.mk (hbox); have n4_ := Aside0.mk ((by rw [hg]; exact (below_size (by with_reducible repeat (first | exact HB.out | apply below_alloc | apply pw_below_drewN | apply below_drew1))) : w.heap.size ≤ gb729)); have n5_ := Aside0.mk ((by rw [hg]; exact (below_size (by with_reducible repeat (first | exact HB.out | apply below_alloc | apply pw_below_drewN | apply below_drew1))) : w.heap.size ≤ gb729)); clear HO721; clear HO724; clear HB; have HO721 := n0_; have HO724 := n1_; have HB := n2_; have BK729 := n3_; have GW729 := n4_; have GE729 := n5_; clear n0_ n1_ n2_ n3_ n4_ n5_; clear hb hbox hg; have hcz14_0 : w13.cell? ⟨gb729, 0, none⟩ = some (.int .i64 0) := (blk_cell BK729.out 0).trans rfl; have hcz14_1 : w13.cell? ⟨gb729, 1, none⟩ = some (.slice none 0 0) := (blk_cell BK729.out 1).trans rfl; have hcz14_2 : w13.cell? ⟨gb729, 2, none⟩ = some (.slice none 0 0) := (blk_cell BK729.out 2).trans rfl; have hcz14_3 : w13.cell? ⟨gb729, 3, none⟩ = some (.int .i64 0) := (blk_cell BK729.out 3).trans rfl; have hcz14_4 : w13.cell? ⟨gb729, 4, none⟩ = some (.int .i64 0) := (blk_cell BK729.out 4).trans rfl; have hcz14_5 : w13.cell? ⟨gb729, 5, none⟩ = some (.int .i64 0) := (blk_cell BK729.out 5).trans rfl; have hcz14_6 : w13.cell? ⟨gb729, 6, none⟩ = some (.int .i64 0) := (blk_cell BK729.out 6).trans rfl; have hfz14_0 := blk_frozen BK729.out 0; have hfz14_1 := blk_frozen BK729.out 1; have hfz14_2 := blk_frozen BK729.out 2; have hfz14_3 := blk_frozen BK729.out 3; have hfz14_4 := blk_frozen BK729.out 4; have hfz14_5 := blk_frozen BK729.out 5; have hfz14_6 := blk_frozen BK729.out 6; obtain ⟨Ao15, co15, eo15⟩ := Kd.S_slice HO721.out; subst eo15; obtain ⟨Ao16, co16, eo16⟩ := Kd.R_slice HO724.out; subst eo16) | (go_at_call 20; (with_reducible refine (spec_R8Skews.calls k _ _ l1 t718 t730 _ ?side1 ?side2 A6.out).mono ?_); (case side1 => exact Kd.C_below HR1.out (by with_reducible repeat (first | exact HB.out | apply below_alloc | apply pw_below_drewN | apply below_drew1 | refine below_set ?_ GE729.out))); (case side2 => exact HC1.out); rintro e w17 ⟨v731, rfl, ho0, hb⟩; have n0_ := Aside0.mk (Kd.S_elder' (by (with_reducible repeat (first | apply Kd.S_alloc | apply Kd.S_drewN | apply Kd.S_drew)); exact (Kd.S_mono (Kd.S_far (p := ⟨gb729, 6, none⟩) (Kd.S_far (p := ⟨gb729, 5, none⟩) (Kd.S_far (p := ⟨gb729, 4, none⟩) (Kd.S_far (p := ⟨gb729, 3, none⟩) (Kd.S_far (p := ⟨gb729, 2, none⟩) (Kd.S_far (p := ⟨gb729, 1, none⟩) (Kd.S_far (p := ⟨gb729, 0, none⟩) (Kd.S_types HO721.out BK729.out (by decide)) (fun _ hk => hk.2) (.int .i64 t718)) (fun _ hk => hk.2) (.slice Ao15 t719.length co15)) (fun _ hk => hk.2) (.slice Ao16 t722.length co16)) (fun _ hk => hk.2) (.int .i64 t725)) (fun _ hk => hk.2) (.int .i64 t726)) (fun _ hk => hk.2) (.int .i64 t727)) (fun _ hk => hk.2) (.int .i64 t728)) (fun _ h_ => h_.1))) (Kd.R_base ho0) hb); have n1_ := Aside0.mk (Kd.R_elder' (by (with_reducible repeat (first | apply Kd.R_alloc | apply Kd.R_drewN | apply Kd.R_drew)); exact (Kd.R_mono (Kd.R_far (p := ⟨gb729, 6, none⟩) (Kd.R_far (p := ⟨gb729, 5, none⟩) (Kd.R_far (p := ⟨gb729, 4, none⟩) (Kd.R_far (p := ⟨gb729, 3, none⟩) (Kd.R_far (p := ⟨gb729, 2, none⟩) (Kd.R_far (p := ⟨gb729, 1, none⟩) (Kd.R_far (p := ⟨gb729, 0, none⟩) (Kd.R_types HO724.out BK729.out (by decide)) (fun _ hk => hk.2) (.int .i64 t718)) (fun _ hk => hk.2) (.slice Ao15 t719.length co15)) (fun _ hk => hk.2) (.slice Ao16 t722.length co16)) (fun _ hk => hk.2) (.int .i64 t725)) (fun _ hk => hk.2) (.int .i64 t726)) (fun _ hk => hk.2) (.int .i64 t727)) (fun _ hk => hk.2) (.int .i64 t728)) (fun _ h_ => h_.1))) (Kd.R_base ho0) hb); have n2_ := Aside0.mk (Kd.R_lower (Kd.R_new' ho0 (Kd.R_lt (by (with_reducible repeat (first | apply Kd.R_alloc | apply Kd.R_drewN | apply Kd.R_drew)); exact (Kd.R_mono (Kd.R_far (p := ⟨gb729, 6, none⟩) (Kd.R_far (p := ⟨gb729, 5, none⟩) (Kd.R_far (p := ⟨gb729, 4, none⟩) (Kd.R_far (p := ⟨gb729, 3, none⟩) (Kd.R_far (p := ⟨gb729, 2, none⟩) (Kd.R_far (p := ⟨gb729, 1, none⟩) (Kd.R_far (p := ⟨gb729, 0, none⟩) (Kd.R_types HO724.out BK729.out (by decide)) (fun _ hk => hk.2) (.int .i64 t718)) (fun _ hk => hk.2) (.slice Ao15 t719.length co15)) (fun _ hk => hk.2) (.slice Ao16 t722.length co16)) (fun _ hk => hk.2) (.int .i64 t725)) (fun _ hk => hk.2) (.int .i64 t726)) (fun _ hk => hk.2) (.int .i64 t727)) (fun _ hk => hk.2) (.int .i64 t728)) (fun _ h_ => h_.1))))) (below_size (by with_reducible repeat (first | exact HB.out | apply below_alloc | apply pw_below_drewN | apply below_drew1 | refine below_set ?_ GE729.out)))); have n3_ := Aside0.mk (blk_below (g := gb729) (o := .cells #[.int .i64 t718, .slice Ao15 t719.length co15, .slice Ao16 t722.length co16, .int .i64 t725, .int .i64 t726, .int .i64 t727, .int .i64 t728] 45 (0, 0)) (by (with_reducible repeat (first | refine blk_drewN ?_ _ | refine blk_drew ?_ | refine blk_alloc ?_ _)); refine blk_put (cs := #[.int .i64 t718, .slice Ao15 t719.length co15, .slice Ao16 t722.length co16, .int .i64 t725, .int .i64 t726, .int .i64 t727, .int .i64 0]) ?_ 6 _ rfl; (with_reducible repeat (first | refine blk_drewN ?_ _ | refine blk_drew ?_ | refine blk_alloc ?_ _)); refine blk_put (cs := #[.int .i64 t718, .slice Ao15 t719.length co15, .slice Ao16 t722.length co16, .int .i64 t725, .int .i64 t726, .int .i64 0, .int .i64 0]) ?_ 5 _ rfl; (with_reducible repeat (first | refine blk_drewN ?_ _ | refine blk_drew ?_ | refine blk_alloc ?_ _)); refine blk_put (cs := #[.int .i64 t718, .slice Ao15 t719.length co15, .slice Ao16 t722.length co16, .int .i64 t725, .int .i64 0, .int .i64 0, .int .i64 0]) ?_ 4 _ rfl; (with_reducible repeat (first | refine blk_drewN ?_ _ | refine blk_drew ?_ | refine blk_alloc ?_ _)); refine blk_put (cs := #[.int .i64 t718, .slice Ao15 t719.length co15, .slice Ao16 t722.length co16, .int .i64 0, .int .i64 0, .int .i64 0, .int .i64 0]) ?_ 3 _ rfl; (with_reducible repeat (first | refine blk_drewN ?_ _ | refine blk_drew ?_ | refine blk_alloc ?_ _)); refine blk_put (cs := #[.int .i64 t718, .slice Ao15 t719.length co15, .slice none 0 0, .int .i64 0, .int .i64 0, .int .i64 0, .int .i64 0]) ?_ 2 _ rfl; (with_reducible repeat (first | refine blk_drewN ?_ _ | refine blk_drew ?_ | refine blk_alloc ?_ _)); refine blk_put (cs := #[.int .i64 t718, .slice none 0 0, .slice none 0 0, .int .i64 0, .int .i64 0, .int .i64 0, .int .i64 0]) ?_ 1 _ rfl; (with_reducible repeat (first | refine blk_drewN ?_ _ | refine blk_drew ?_ | refine blk_alloc ?_ _)); refine blk_put (cs := #[.int .i64 0, .slice none 0 0, .slice none 0 0, .int .i64 0, .int .i64 0, .int .i64 0, .int .i64 0]) ?_ 0 _ rfl; (with_reducible repeat (first | refine blk_drewN ?_ _ | refine blk_drew ?_ | refine blk_alloc ?_ _)); exact BK729.out) hb); have n4_ := Aside0.mk (below_step (by with_reducible repeat (first | exact HB.out | apply below_alloc | apply pw_below_drewN | apply below_drew1 | refine below_set ?_ GE729.out)) hb); clear HO721; clear HO724; clear BK729; clear HB; have HO721 := n0_; have HO724 := n1_; have HO732 := n2_; have BK729 := n3_; have HB := n4_; clear n0_ n1_ n2_ n3_ n4_; (try clear hb); (try clear hb2); (try clear hk); (try clear hi); (try clear ho0)) | (go_at_call 12; (with_reducible refine (laws_r8At.calls _ _ l1 40 40 t733 _ ?side1 ?side2 A7.out).mono ?_); (case side1 => repeat (first | exact (Kd.C_below HR1.out HB.out) | (with_reducible refine Kd.C_alloc ?_ _) | (with_reducible refine Kd.C_drewN ?_ _) | (with_reducible refine Kd.C_drew ?_))); (case side2 => exact HC1.out); rintro e w' ⟨rfl, ⟨nd, rfl⟩⟩; (try first | exact ⟨rfl, _, World.drewN_drewN _ _ _⟩ | exact ⟨rfl, _, Eq.trans (World.drewN_drewN _ _ _) (congrArg (World.drewN _) (Nat.add_assoc _ _ _))⟩); have hcz18_0 : w17.cell? ⟨gb729, 0, none⟩ = some (.int .i64 t718) := (blk_cell BK729.out 0).trans rfl; have hcz18_1 : w17.cell? ⟨gb729, 1, none⟩ = some (.slice Ao15 t719.length co15) := (blk_cell BK729.out 1).trans rfl; have hcz18_2 : w17.cell? ⟨gb729, 2, none⟩ = some (.slice Ao16 t722.length co16) := (blk_cell BK729.out 2).trans rfl; have hcz18_3 : w17.cell? ⟨gb729, 3, none⟩ = some (.int .i64 t725) := (blk_cell BK729.out 3).trans rfl; have hcz18_4 : w17.cell? ⟨gb729, 4, none⟩ = some (.int .i64 t726) := (blk_cell BK729.out 4).trans rfl; have hcz18_5 : w17.cell? ⟨gb729, 5, none⟩ = some (.int .i64 t727) := (blk_cell BK729.out 5).trans rfl; have hcz18_6 : w17.cell? ⟨gb729, 6, none⟩ = some (.int .i64 t728) := (blk_cell BK729.out 6).trans rfl; have hfz18_0 := blk_frozen BK729.out 0; have hfz18_1 := blk_frozen BK729.out 1; have hfz18_2 := blk_frozen BK729.out 2; have hfz18_3 := blk_frozen BK729.out 3; have hfz18_4 := blk_frozen BK729.out 4; have hfz18_5 := blk_frozen BK729.out 5; have hfz18_6 := blk_frozen BK729.out 6; obtain ⟨Ao19, co19, eo19⟩ := Kd.R_slice HO732.out; subst eo19) | (go_at_call 29; (with_reducible refine (impl_SetupRoom.calls k t718 _ _ t719 _ _ t722 t725 t726 t727 t728 (wrap64 (1 + t733)) _ _ t730 t734 t735 _ ?side1 ?side2 ?side3 ?side4 ?side5 ?side6 A8.out).mono ?_); (case side1 => repeat (first | exact (Kd.S_reads' HO721.out).2.2 | (with_reducible refine Kd.C_alloc ?_ _) | (with_reducible refine Kd.C_drewN ?_ _) | (with_reducible refine Kd.C_drew ?_))); (case side2 => exact (Kd.S_reads' HO721.out).2.1); (case side3 => repeat (first | exact (Kd.R_reads' HO724.out).2.2 | (with_reducible refine Kd.C_alloc ?_ _) | (with_reducible refine Kd.C_drewN ?_ _) | (with_reducible refine Kd.C_drew ?_))); (case side4 => exact (Kd.R_reads' HO724.out).2.1); (case side5 => repeat (first | exact (Kd.R_reads' HO732.out).2.2 | (with_reducible refine Kd.C_alloc ?_ _) | (with_reducible refine Kd.C_drewN ?_ _) | (with_reducible refine Kd.C_drew ?_))); (case side6 => exact (Kd.R_reads' HO732.out).2.1); rintro e w20 ⟨rfl, hb⟩; have n0_ := Aside0.mk (Kd.S_below (by (with_reducible repeat (first | apply Kd.S_alloc | apply Kd.S_drewN | apply Kd.S_drew)); exact HO721.out) hb); have n1_ := Aside0.mk (Kd.R_below (by (with_reducible repeat (first | apply Kd.R_alloc | apply Kd.R_drewN | apply Kd.R_drew)); exact HO724.out) hb); have n2_ := Aside0.mk (Kd.R_below (by (with_reducible repeat (first | apply Kd.R_alloc | apply Kd.R_drewN | apply Kd.R_drew)); exact HO732.out) hb); have n3_ := Aside0.mk (blk_below (g := gb729) (o := .cells #[.int .i64 t718, .slice Ao15 t719.length co15, .slice Ao16 t722.length co16, .int .i64 t725, .int .i64 t726, .int .i64 t727, .int .i64 t728] 45 (0, 0)) (by (with_reducible repeat (first | refine blk_drewN ?_ _ | refine blk_drew ?_ | refine blk_alloc ?_ _)); exact BK729.out) hb); have n4_ := Aside0.mk (below_step (by with_reducible repeat (first | exact HB.out | apply below_alloc | apply pw_below_drewN | apply below_drew1 | refine below_set ?_ GE729.out)) hb); clear HO721; clear HO724; clear HO732; clear BK729; clear HB; have HO721 := n0_; have HO724 := n1_; have HO732 := n2_; have BK729 := n3_; have HB := n4_; clear n0_ n1_ n2_ n3_ n4_; (try clear hb); (try clear hb2); (try clear hk); (try clear hi); have hcz21_0 : w20.cell? ⟨gb729, 0, none⟩ = some (.int .i64 t718) := (blk_cell BK729.out 0).trans rfl; have hcz21_1 : w20.cell? ⟨gb729, 1, none⟩ = some (.slice Ao15 t719.length co15) := (blk_cell BK729.out 1).trans rfl; have hcz21_2 : w20.cell? ⟨gb729, 2, none⟩ = some (.slice Ao16 t722.length co16) := (blk_cell BK729.out 2).trans rfl; have hcz21_3 : w20.cell? ⟨gb729, 3, none⟩ = some (.int .i64 t725) := (blk_cell BK729.out 3).trans rfl; have hcz21_4 : w20.cell? ⟨gb729, 4, none⟩ = some (.int .i64 t726) := (blk_cell BK729.out 4).trans rfl; have hcz21_5 : w20.cell? ⟨gb729, 5, none⟩ = some (.int .i64 t727) := (blk_cell BK729.out 5).trans rfl; have hcz21_6 : w20.cell? ⟨gb729, 6, none⟩ = some (.int .i64 t728) := (blk_cell BK729.out 6).trans rfl; have hfz21_0 := blk_frozen BK729.out 0; have hfz21_1 := blk_frozen BK729.out 1; have hfz21_2 := blk_frozen BK729.out 2; have hfz21_3 := blk_frozen BK729.out 3; have hfz21_4 := blk_frozen BK729.out 4; have hfz21_5 := blk_frozen BK729.out 5; have hfz21_6 := blk_frozen BK729.out 6) | (go_at_call 25; (with_reducible refine (impl_HoldRoom.calls k t718 _ _ t719 _ _ t722 t725 t726 t727 t728 _ _ t730 t736 t737 _ ?side1 ?side2 ?side3 ?side4 ?side5 ?side6 A9.out).mono ?_); (case side1 => repeat (first | exact (Kd.S_reads' HO721.out).2.2 | (with_reducible refine Kd.C_alloc ?_ _) | (with_reducible refine Kd.C_drewN ?_ _) | (with_reducible refine Kd.C_drew ?_))); (case side2 => exact (Kd.S_reads' HO721.out).2.1); (case side3 => repeat (first | exact (Kd.R_reads' HO724.out).2.2 | (with_reducible refine Kd.C_alloc ?_ _) | (with_reducible refine Kd.C_drewN ?_ _) | (with_reducible refine Kd.C_drew ?_))); (case side4 => exact (Kd.R_reads' HO724.out).2.1); (case side5 => repeat (first | exact (Kd.R_reads' HO732.out).2.2 | (with_reducible refine Kd.C_alloc ?_ _) | (with_reducible refine Kd.C_drewN ?_ _) | (with_reducible refine Kd.C_drew ?_))); (case side6 => exact (Kd.R_reads' HO732.out).2.1); rintro e w22 ⟨rfl, hb⟩; have n0_ := Aside0.mk (Kd.S_below (by (with_reducible repeat (first | apply Kd.S_alloc | apply Kd.S_drewN | apply Kd.S_drew)); exact HO721.out) hb); have n1_ := Aside0.mk (Kd.R_below (by (with_reducible repeat (first | apply Kd.R_alloc | apply Kd.R_drewN | apply Kd.R_drew)); exact HO724.out) hb); have n2_ := Aside0.mk (Kd.R_below (by (with_reducible repeat (first | apply Kd.R_alloc | apply Kd.R_drewN | apply Kd.R_drew)); exact HO732.out) hb); have n3_ := Aside0.mk (blk_below (g := gb729) (o := .cells #[.int .i64 t718, .slice Ao15 t719.length co15, .slice Ao16 t722.length co16, .int .i64 t725, .int .i64 t726, .int .i64 t727, .int .i64 t728] 45 (0, 0)) (by (with_reducible repeat (first | refine blk_drewN ?_ _ | refine blk_drew ?_ | refine blk_alloc ?_ _)); exact BK729.out) hb); have n4_ := Aside0.mk (below_step (by with_reducible repeat (first | exact HB.out | apply below_alloc | apply pw_below_drewN | apply below_drew1 | refine below_set ?_ GE729.out)) hb); clear HO721; clear HO724; clear HO732; clear BK729; clear HB; have HO721 := n0_; have HO724 := n1_; have HO732 := n2_; have BK729 := n3_; have HB := n4_; clear n0_ n1_ n2_ n3_ n4_; (try clear hb); (try clear hb2); (try clear hk); (try clear hi); have hcz23_0 : w22.cell? ⟨gb729, 0, none⟩ = some (.int .i64 t718) := (blk_cell BK729.out 0).trans rfl; have hcz23_1 : w22.cell? ⟨gb729, 1, none⟩ = some (.slice Ao15 t719.length co15) := (blk_cell BK729.out 1).trans rfl; have hcz23_2 : w22.cell? ⟨gb729, 2, none⟩ = some (.slice Ao16 t722.length co16) := (blk_cell BK729.out 2).trans rfl; have hcz23_3 : w22.cell? ⟨gb729, 3, none⟩ = some (.int .i64 t725) := (blk_cell BK729.out 3).trans rfl; have hcz23_4 : w22.cell? ⟨gb729, 4, none⟩ = some (.int .i64 t726) := (blk_cell BK729.out 4).trans rfl; have hcz23_5 : w22.cell? ⟨gb729, 5, none⟩ = some (.int .i64 t727) := (blk_cell BK729.out 5).trans rfl; have hcz23_6 : w22.cell? ⟨gb729, 6, none⟩ = some (.int .i64 t728) := (blk_cell BK729.out 6).trans rfl; have hfz23_0 := blk_frozen BK729.out 0; have hfz23_1 := blk_frozen BK729.out 1; have hfz23_2 := blk_frozen BK729.out 2; have hfz23_3 := blk_frozen BK729.out 3; have hfz23_4 := blk_frozen BK729.out 4; have hfz23_5 := blk_frozen BK729.out 5; have hfz23_6 := blk_frozen BK729.out 6) | (go_at_call 30; (with_reducible refine (impl_LeastPeriod.calls k t718 _ _ t719 _ _ t722 t725 t726 t727 t728 _ _ t730 t738 t739 _ ?side1 ?side2 ?side3 ?side4 ?side5 ?side6 A10.out).mono ?_); (case side1 => repeat (first | exact (Kd.S_reads' HO721.out).2.2 | (with_reducible refine Kd.C_alloc ?_ _) | (with_reducible refine Kd.C_drewN ?_ _) | (with_reducible refine Kd.C_drew ?_))); (case side2 => exact (Kd.S_reads' HO721.out).2.1); (case side3 => repeat (first | exact (Kd.R_reads' HO724.out).2.2 | (with_reducible refine Kd.C_alloc ?_ _) | (with_reducible refine Kd.C_drewN ?_ _) | (with_reducible refine Kd.C_drew ?_))); (case side4 => exact (Kd.R_reads' HO724.out).2.1); (case side5 => repeat (first | exact (Kd.R_reads' HO732.out).2.2 | (with_reducible refine Kd.C_alloc ?_ _) | (with_reducible refine Kd.C_drewN ?_ _) | (with_reducible refine Kd.C_drew ?_))); (case side6 => exact (Kd.R_reads' HO732.out).2.1); rintro e w24 ⟨rfl, hb⟩; have n0_ := Aside0.mk (Kd.S_below (by (with_reducible repeat (first | apply Kd.S_alloc | apply Kd.S_drewN | apply Kd.S_drew)); exact HO721.out) hb); have n1_ := Aside0.mk (Kd.R_below (by (with_reducible repeat (first | apply Kd.R_alloc | apply Kd.R_drewN | apply Kd.R_drew)); exact HO724.out) hb); have n2_ := Aside0.mk (Kd.R_below (by (with_reducible repeat (first | apply Kd.R_alloc | apply Kd.R_drewN | apply Kd.R_drew)); exact HO732.out) hb); have n3_ := Aside0.mk (blk_below (g := gb729) (o := .cells #[.int .i64 t718, .slice Ao15 t719.length co15, .slice Ao16 t722.length co16, .int .i64 t725, .int .i64 t726, .int .i64 t727, .int .i64 t728] 45 (0, 0)) (by (with_reducible repeat (first | refine blk_drewN ?_ _ | refine blk_drew ?_ | refine blk_alloc ?_ _)); exact BK729.out) hb); have n4_ := Aside0.mk (below_step (by with_reducible repeat (first | exact HB.out | apply below_alloc | apply pw_below_drewN | apply below_drew1 | refine below_set ?_ GE729.out)) hb); clear HO721; clear HO724; clear HO732; clear BK729; clear HB; have HO721 := n0_; have HO724 := n1_; have HO732 := n2_; have BK729 := n3_; have HB := n4_; clear n0_ n1_ n2_ n3_ n4_; (try clear hb); (try clear hb2); (try clear hk); (try clear hi))))
  (try simp only [Act.put, List.setIfInBounds_toArray, List.set_cons_zero, List.set_cons_succ])
  go_cut [67] (fun v67 wc => ∃ (kq : Nat) (x67_10 : Bool), v67 = .bool x67_10 ∧ Aside0 (laws_FnRooms.j0 kq t730 (wrap64 (1 + t733)) t734 t736 t738 x67_10 t718 t719 t722 t725 t726 t727 t728 = some r) ∧ Aside0 (kq ≤ k) ∧ Aside0 (Kd.R (Kd.int .i64) 2 wc w.heap.size (fun k_ => some k_ ≠ ((.slice Ao16 t722.length co16) : Value).ownBlock) (.slice Ao19 t730.length co19) t730) ∧ Aside0 (Kd.S k56 56 wc w.heap.size (fun k_ => some k_ ≠ ((.slice Ao19 t730.length co19) : Value).ownBlock ∧ some k_ ≠ ((.slice Ao16 t722.length co16) : Value).ownBlock) (.slice Ao15 t719.length co15) t719) ∧ Aside0 (Kd.R (Kd.int .i64) 2 wc w.heap.size (fun k_ => some k_ ≠ ((.slice Ao19 t730.length co19) : Value).ownBlock) (.slice Ao16 t722.length co16) t722) ∧ Aside0 (wc.heap[gb729]? = some (.cells #[.int .i64 t718, (.slice Ao15 t719.length co15), (.slice Ao16 t722.length co16), .int .i64 t725, .int .i64 t726, .int .i64 t727, .int .i64 t728] 45 (0, 0))) ∧ Aside0 (Below w.heap.size w wc))
  case first =>
   have H := HC11.out
   clear HC11
   by_cases c25 : t735 = true
   ·subst c25
    rw [if_pos rfl] at H
    by_cases c26 : t737 = true
    ·subst c26
     rw [if_pos rfl] at H
     by_cases c27 : t739 = true
     ·subst c27
      rw [if_pos rfl] at H
      have H' := Aside0.mk H
      clear H
      go_wp2
      repeat (go_quiet (fail); try go_wp2)
      go_meet
      case rel => exact ⟨_, (decide (t738 < 1)), (by first | rfl | (simp; done) | (simp [*]; done)), H', ⟨by first | omega | exact Nat.le_refl _⟩, ⟨by (with_reducible repeat (first | apply Kd.R_alloc | apply Kd.R_drewN | apply Kd.R_drew)); exact Kd.R_mono HO732.out (fun _ hk => hk.2)⟩, ⟨by (with_reducible repeat (first | apply Kd.S_alloc | apply Kd.S_drewN | apply Kd.S_drew)); exact Kd.S_mono HO721.out (fun _ hk => ⟨hk.2, hk.1⟩)⟩, ⟨by (with_reducible repeat (first | apply Kd.R_alloc | apply Kd.R_drewN | apply Kd.R_drew)); exact Kd.R_mono HO724.out (fun _ hk => hk.2)⟩, ⟨by (with_reducible repeat (first | refine blk_drewN ?_ _ | refine blk_drew ?_ | refine blk_alloc ?_ _)); exact BK729.out⟩, ⟨by with_reducible repeat (first | exact HB.out | apply below_alloc | apply pw_below_drewN | apply below_drew1 | refine below_set ?_ GE729.out)⟩⟩
     ·replace c27 := Bool.eq_false_iff.mpr c27
      subst c27
      rw [if_neg (by decide)] at H
      have H' := Aside0.mk H
      clear H
      go_wp2
      repeat (go_quiet (fail); try go_wp2)
      go_meet
      case rel => exact ⟨_, (true), (by first | rfl | (simp; done) | (simp [*]; done)), H', ⟨by first | omega | exact Nat.le_refl _⟩, ⟨by (with_reducible repeat (first | apply Kd.R_alloc | apply Kd.R_drewN | apply Kd.R_drew)); exact Kd.R_mono HO732.out (fun _ hk => hk.2)⟩, ⟨by (with_reducible repeat (first | apply Kd.S_alloc | apply Kd.S_drewN | apply Kd.S_drew)); exact Kd.S_mono HO721.out (fun _ hk => ⟨hk.2, hk.1⟩)⟩, ⟨by (with_reducible repeat (first | apply Kd.R_alloc | apply Kd.R_drewN | apply Kd.R_drew)); exact Kd.R_mono HO724.out (fun _ hk => hk.2)⟩, ⟨by (with_reducible repeat (first | refine blk_drewN ?_ _ | refine blk_drew ?_ | refine blk_alloc ?_ _)); exact BK729.out⟩, ⟨by with_reducible repeat (first | exact HB.out | apply below_alloc | apply pw_below_drewN | apply below_drew1 | refine below_set ?_ GE729.out)⟩⟩
    ·replace c26 := Bool.eq_false_iff.mpr c26
     subst c26
     rw [if_neg (by decide)] at H
     have H' := Aside0.mk H
     clear H
     go_wp2
     repeat (go_quiet (fail); try go_wp2)
     go_meet
     case rel => exact ⟨_, (true), (by first | rfl | (simp; done) | (simp [*]; done)), H', ⟨by first | omega | exact Nat.le_refl _⟩, ⟨by (with_reducible repeat (first | apply Kd.R_alloc | apply Kd.R_drewN | apply Kd.R_drew)); exact Kd.R_mono HO732.out (fun _ hk => hk.2)⟩, ⟨by (with_reducible repeat (first | apply Kd.S_alloc | apply Kd.S_drewN | apply Kd.S_drew)); exact Kd.S_mono HO721.out (fun _ hk => ⟨hk.2, hk.1⟩)⟩, ⟨by (with_reducible repeat (first | apply Kd.R_alloc | apply Kd.R_drewN | apply Kd.R_drew)); exact Kd.R_mono HO724.out (fun _ hk => hk.2)⟩, ⟨by (with_reducible repeat (first | refine blk_drewN ?_ _ | refine blk_drew ?_ | refine blk_alloc ?_ _)); exact BK729.out⟩, ⟨by with_reducible repeat (first | exact HB.out | apply below_alloc | apply pw_below_drewN | apply below_drew1 | refine below_set ?_ GE729.out)⟩⟩
   ·replace c25 := Bool.eq_false_iff.mpr c25
    subst c25
    rw [if_neg (by decide)] at H
    have H' := Aside0.mk H
    clear H
    go_wp2
    repeat (go_quiet (fail); try go_wp2)
    go_meet
    case rel => exact ⟨_, (true), (by first | rfl | (simp; done) | (simp [*]; done)), H', ⟨by first | omega | exact Nat.le_refl _⟩, ⟨by (with_reducible repeat (first | apply Kd.R_alloc | apply Kd.R_drewN | apply Kd.R_drew)); exact Kd.R_mono HO732.out (fun _ hk => hk.2)⟩, ⟨by (with_reducible repeat (first | apply Kd.S_alloc | apply Kd.S_drewN | apply Kd.S_drew)); exact Kd.S_mono HO721.out (fun _ hk => ⟨hk.2, hk.1⟩)⟩, ⟨by (with_reducible repeat (first | apply Kd.R_alloc | apply Kd.R_drewN | apply Kd.R_drew)); exact Kd.R_mono HO724.out (fun _ hk => hk.2)⟩, ⟨by (with_reducible repeat (first | refine blk_drewN ?_ _ | refine blk_drew ?_ | refine blk_alloc ?_ _)); exact BK729.out⟩, ⟨by with_reducible repeat (first | exact HB.out | apply below_alloc | apply pw_below_drewN | apply below_drew1 | refine below_set ?_ GE729.out)⟩⟩
  case rest =>
   clear HC11
   try clear c1
   try clear c2
   try clear p2
   try clear c4
   try clear p6
   try clear c7
   try clear c25
   try clear c26
   try clear c27
   try clear hcz14_0
   try clear hcz14_1
   try clear hcz14_2
   try clear hcz14_3
   try clear hcz14_4
   try clear hcz14_5
   try clear hcz14_6
   try clear hcz18_0
   try clear hcz18_1
   try clear hcz18_2
   try clear hcz18_3
   try clear hcz18_4
   try clear hcz18_5
   try clear hcz18_6
   try clear hcz21_0
   try clear hcz21_1
   try clear hcz21_2
   try clear hcz21_3
   try clear hcz21_4
   try clear hcz21_5
   try clear hcz21_6
   try clear hcz23_0
   try clear hcz23_1
   try clear hcz23_2
   try clear hcz23_3
   try clear hcz23_4
   try clear hcz23_5
   try clear hcz23_6
   try clear hfz14_0
   try clear hfz14_1
   try clear hfz14_2
   try clear hfz14_3
   try clear hfz14_4
   try clear hfz14_5
   try clear hfz14_6
   try clear hfz18_0
   try clear hfz18_1
   try clear hfz18_2
   try clear hfz18_3
   try clear hfz18_4
   try clear hfz18_5
   try clear hfz18_6
   try clear hfz21_0
   try clear hfz21_1
   try clear hfz21_2
   try clear hfz21_3
   try clear hfz21_4
   try clear hfz21_5
   try clear hfz21_6
   try clear hfz23_0
   try clear hfz23_1
   try clear hfz23_2
   try clear hfz23_3
   try clear hfz23_4
   try clear hfz23_5
   try clear hfz23_6
   obtain ⟨kq, x67_10, rfl, HA, HJ10, HO_6, HO_730001, HO_730002, BK729, HB⟩ := hcut
   cases kq with
   | zero => exact absurd HA.out (by simp [laws_FnRooms.j0])
   | succ kj10 =>
    have H := HA.out
    clear HA
    simp only [laws_FnRooms.j0] at H
    by_cases c28 : x67_10 = true
    ·subst c28
     rw [if_pos rfl] at H
     obtain rfl := Option.some.inj H
     go_wp2
     repeat (go_quiet (fail); try go_wp2)
     go_ret
     exact ⟨by first | rfl | (simp [errW_none, errW_some] <;> rfl) | (simp [*, errW_none, errW_some] <;> rfl), by with_reducible repeat (first | exact HB.out | apply below_alloc | apply pw_below_drewN | apply below_drew1 | refine below_set ?_ GE729.out)⟩
    ·replace c28 := Bool.eq_false_iff.mpr c28
     subst c28
     rw [if_neg (by decide)] at H
     have H' := Aside0.mk H
     clear H
     go_wp2
     repeat (go_quiet (fail); try go_wp2)
     go_loopg [14, 15, 16] kj10 (fun kq v14 v15 v16 w' => ∃ (x14_2 : Int) (x15_2 : Int) (x16_2 : Int), v14 = .int .i64 x14_2 ∧ v15 = .int .i64 x15_2 ∧ v16 = .int .i64 x16_2 ∧ Aside0 (laws_FnRooms.l0 kq t730 (wrap64 (1 + t733)) t734 t736 t738 x14_2 x15_2 x16_2 t718 t719 t722 t725 t726 t727 t728 = some r) ∧ Aside0 (kq ≤ kj10) ∧ Aside0 (Kd.R (Kd.int .i64) 2 w' w.heap.size (fun k_ => some k_ ≠ ((.slice Ao16 t722.length co16) : Value).ownBlock) (.slice Ao19 t730.length co19) t730) ∧ Aside0 (Kd.S k56 56 w' w.heap.size (fun k_ => some k_ ≠ ((.slice Ao19 t730.length co19) : Value).ownBlock ∧ some k_ ≠ ((.slice Ao16 t722.length co16) : Value).ownBlock) (.slice Ao15 t719.length co15) t719) ∧ Aside0 (Kd.R (Kd.int .i64) 2 w' w.heap.size (fun k_ => some k_ ≠ ((.slice Ao19 t730.length co19) : Value).ownBlock) (.slice Ao16 t722.length co16) t722) ∧ Aside0 (w'.heap[gb729]? = some (.cells #[.int .i64 t718, (.slice Ao15 t719.length co15), (.slice Ao16 t722.length co16), .int .i64 t725, .int .i64 t726, .int .i64 t727, .int .i64 t728] 45 (0, 0))) ∧ Aside0 (Below w.heap.size w w'))
     case atStart => exact ⟨(1000000), (1000000), (0), (by first | rfl | (simp; done) | (simp [*]; done)), (by first | rfl | (simp; done) | (simp [*]; done)), (by first | rfl | (simp; done) | (simp [*]; done)), H', ⟨Nat.le_refl _⟩, ⟨by (with_reducible repeat (first | apply Kd.R_alloc | apply Kd.R_drewN | apply Kd.R_drew)); exact HO_6.out⟩, ⟨by (with_reducible repeat (first | apply Kd.S_alloc | apply Kd.S_drewN | apply Kd.S_drew)); exact HO_730001.out⟩, ⟨by (with_reducible repeat (first | apply Kd.R_alloc | apply Kd.R_drewN | apply Kd.R_drew)); exact HO_730002.out⟩, ⟨by (with_reducible repeat (first | refine blk_drewN ?_ _ | refine blk_drew ?_ | refine blk_alloc ?_ _)); exact BK729.out⟩, ⟨by with_reducible repeat (first | exact HB.out | apply below_alloc | apply pw_below_drewN | apply below_drew1 | refine below_set ?_ GE729.out)⟩⟩
     case round =>
      clear H'
      try clear c1
      try clear c2
      try clear p2
      try clear c4
      try clear p6
      try clear c7
      try clear c25
      try clear c26
      try clear c27
      try clear c28
      try clear hcz14_0
      try clear hcz14_1
      try clear hcz14_2
      try clear hcz14_3
      try clear hcz14_4
      try clear hcz14_5
      try clear hcz14_6
      try clear hcz18_0
      try clear hcz18_1
      try clear hcz18_2
      try clear hcz18_3
      try clear hcz18_4
      try clear hcz18_5
      try clear hcz18_6
      try clear hcz21_0
      try clear hcz21_1
      try clear hcz21_2
      try clear hcz21_3
      try clear hcz21_4
      try clear hcz21_5
      try clear hcz21_6
      try clear hcz23_0
      try clear hcz23_1
      try clear hcz23_2
      try clear hcz23_3
      try clear hcz23_4
      try clear hcz23_5
      try clear hcz23_6
      try clear hfz14_0
      try clear hfz14_1
      try clear hfz14_2
      try clear hfz14_3
      try clear hfz14_4
      try clear hfz14_5
      try clear hfz14_6
      try clear hfz18_0
      try clear hfz18_1
      try clear hfz18_2
      try clear hfz18_3
      try clear hfz18_4
      try clear hfz18_5
      try clear hfz18_6
      try clear hfz21_0
      try clear hfz21_1
      try clear hfz21_2
      try clear hfz21_3
      try clear hfz21_4
      try clear hfz21_5
      try clear hfz21_6
      try clear hfz23_0
      try clear hfz23_1
      try clear hfz23_2
      try clear hfz23_3
      try clear hfz23_4
      try clear hfz23_5
      try clear hfz23_6
      try clear p2
      try clear p6
      obtain ⟨x14_2, x15_2, x16_2, rfl, rfl, rfl, HA, HK2, HO_6, HO_730001, HO_730002, BK729, HB⟩ := hrel
      cases gk with
      | zero => exact absurd HA.out (by simp [laws_FnRooms.l0])
      | succ k2 =>
       have H := HA.out
       clear HA
       simp only [laws_FnRooms.l0] at H
       by_cases c29 : x16_2 < t718
       ·rw [if_pos c29] at H
        have c29b0 : decide (x16_2 < t718) = true := decide_eq_true c29
        clear c29
        have H' := Aside0.mk H
        clear H
        have hcz30_0 : wr.cell? ⟨gb729, 0, none⟩ = some (.int .i64 t718) := (blk_cell BK729.out 0).trans rfl
        have hcz30_1 : wr.cell? ⟨gb729, 1, none⟩ = some (.slice Ao15 t719.length co15) := (blk_cell BK729.out 1).trans rfl
        have hcz30_2 : wr.cell? ⟨gb729, 2, none⟩ = some (.slice Ao16 t722.length co16) := (blk_cell BK729.out 2).trans rfl
        have hcz30_3 : wr.cell? ⟨gb729, 3, none⟩ = some (.int .i64 t725) := (blk_cell BK729.out 3).trans rfl
        have hcz30_4 : wr.cell? ⟨gb729, 4, none⟩ = some (.int .i64 t726) := (blk_cell BK729.out 4).trans rfl
        have hcz30_5 : wr.cell? ⟨gb729, 5, none⟩ = some (.int .i64 t727) := (blk_cell BK729.out 5).trans rfl
        have hcz30_6 : wr.cell? ⟨gb729, 6, none⟩ = some (.int .i64 t728) := (blk_cell BK729.out 6).trans rfl
        have hfz30_0 := blk_frozen BK729.out 0
        have hfz30_1 := blk_frozen BK729.out 1
        have hfz30_2 := blk_frozen BK729.out 2
        have hfz30_3 := blk_frozen BK729.out 3
        have hfz30_4 := blk_frozen BK729.out 4
        have hfz30_5 := blk_frozen BK729.out 5
        have hfz30_6 := blk_frozen BK729.out 6
        go_wp2
        repeat (go_quiet (fail); try go_wp2)
        go_loopg [14, 15, 17] k2 (fun kq v14 v15 v17 w' => ∃ (x14_3 : Int) (x15_3 : Int) (x17_3 : Int), v14 = .int .i64 x14_3 ∧ v15 = .int .i64 x15_3 ∧ v17 = .int .i64 x17_3 ∧ Aside0 (laws_FnRooms.l1 kq t730 (wrap64 (1 + t733)) t734 t736 t738 x14_3 x15_3 x16_2 x17_3 t718 t719 t722 t725 t726 t727 t728 = some r) ∧ Aside0 (kq ≤ k2) ∧ Aside0 (Kd.R (Kd.int .i64) 2 w' w.heap.size (fun k_ => some k_ ≠ ((.slice Ao16 t722.length co16) : Value).ownBlock) (.slice Ao19 t730.length co19) t730) ∧ Aside0 (Kd.S k56 56 w' w.heap.size (fun k_ => some k_ ≠ ((.slice Ao19 t730.length co19) : Value).ownBlock ∧ some k_ ≠ ((.slice Ao16 t722.length co16) : Value).ownBlock) (.slice Ao15 t719.length co15) t719) ∧ Aside0 (Kd.R (Kd.int .i64) 2 w' w.heap.size (fun k_ => some k_ ≠ ((.slice Ao19 t730.length co19) : Value).ownBlock) (.slice Ao16 t722.length co16) t722) ∧ Aside0 (w'.heap[gb729]? = some (.cells #[.int .i64 t718, (.slice Ao15 t719.length co15), (.slice Ao16 t722.length co16), .int .i64 t725, .int .i64 t726, .int .i64 t727, .int .i64 t728] 45 (0, 0))) ∧ Aside0 (Below w.heap.size w w'))
        case atStart => exact ⟨(x14_2), (x15_2), (0), (by first | rfl | (simp; done) | (simp [*]; done)), (by first | rfl | (simp; done) | (simp [*]; done)), (by first | rfl | (simp; done) | (simp [*]; done)), H', ⟨Nat.le_refl _⟩, ⟨by (with_reducible repeat (first | apply Kd.R_alloc | apply Kd.R_drewN | apply Kd.R_drew)); exact HO_6.out⟩, ⟨by (with_reducible repeat (first | apply Kd.S_alloc | apply Kd.S_drewN | apply Kd.S_drew)); exact HO_730001.out⟩, ⟨by (with_reducible repeat (first | apply Kd.R_alloc | apply Kd.R_drewN | apply Kd.R_drew)); exact HO_730002.out⟩, ⟨by (with_reducible repeat (first | refine blk_drewN ?_ _ | refine blk_drew ?_ | refine blk_alloc ?_ _)); exact BK729.out⟩, ⟨by with_reducible repeat (first | exact HB.out | apply below_alloc | apply pw_below_drewN | apply below_drew1 | refine below_set ?_ GE729.out)⟩⟩
        case round =>
         clear H'
         try clear c1
         try clear c2
         try clear p2
         try clear c4
         try clear p6
         try clear c7
         try clear c25
         try clear c26
         try clear c27
         try clear c28
         try clear c29
         try clear c29b0
         try clear hcz14_0
         try clear hcz14_1
         try clear hcz14_2
         try clear hcz14_3
         try clear hcz14_4
         try clear hcz14_5
         try clear hcz14_6
         try clear hcz18_0
         try clear hcz18_1
         try clear hcz18_2
         try clear hcz18_3
         try clear hcz18_4
         try clear hcz18_5
         try clear hcz18_6
         try clear hcz21_0
         try clear hcz21_1
         try clear hcz21_2
         try clear hcz21_3
         try clear hcz21_4
         try clear hcz21_5
         try clear hcz21_6
         try clear hcz23_0
         try clear hcz23_1
         try clear hcz23_2
         try clear hcz23_3
         try clear hcz23_4
         try clear hcz23_5
         try clear hcz23_6
         try clear hcz30_0
         try clear hcz30_1
         try clear hcz30_2
         try clear hcz30_3
         try clear hcz30_4
         try clear hcz30_5
         try clear hcz30_6
         try clear hfz14_0
         try clear hfz14_1
         try clear hfz14_2
         try clear hfz14_3
         try clear hfz14_4
         try clear hfz14_5
         try clear hfz14_6
         try clear hfz18_0
         try clear hfz18_1
         try clear hfz18_2
         try clear hfz18_3
         try clear hfz18_4
         try clear hfz18_5
         try clear hfz18_6
         try clear hfz21_0
         try clear hfz21_1
         try clear hfz21_2
         try clear hfz21_3
         try clear hfz21_4
         try clear hfz21_5
         try clear hfz21_6
         try clear hfz23_0
         try clear hfz23_1
         try clear hfz23_2
         try clear hfz23_3
         try clear hfz23_4
         try clear hfz23_5
         try clear hfz23_6
         try clear hfz30_0
         try clear hfz30_1
         try clear hfz30_2
         try clear hfz30_3
         try clear hfz30_4
         try clear hfz30_5
         try clear hfz30_6
         try clear p2
         try clear p6
         obtain ⟨x14_3, x15_3, x17_3, rfl, rfl, rfl, HA, HK3, HO_6, HO_730001, HO_730002, BK729, HB⟩ := hrel
         cases gk with
         | zero => exact absurd HA.out (by simp [laws_FnRooms.l1])
         | succ k3 =>
          have H := HA.out
          clear HA
          simp only [laws_FnRooms.l1] at H
          by_cases c31 : x17_3 < t718
          ·rw [if_pos c31] at H
           have c31b0 : decide (x17_3 < t718) = true := decide_eq_true c31
           clear c31
           replace H := Option.bind_eq_some_iff.mp H
           obtain ⟨⟨t740, t741, t742⟩, A320, H⟩ := H
           try dsimp only at H
           have A32 := Aside0.mk A320
           clear A320
           by_cases c33 : t742 = true
           ·subst c33
            rw [if_pos rfl] at H
            by_cases c34 : 0 ≤ x17_3
            case neg => rw [if_neg c34] at H; exact absurd H (by simp)
            rw [if_pos c34] at H
            have c34b0 : decide (0 ≤ x17_3) = true := decide_eq_true c34
            clear c34
            by_cases c35 : x17_3 < (t730.length : Int)
            case neg => rw [if_neg c35] at H; exact absurd H (by simp)
            rw [if_pos c35] at H
            have c35b0 : decide (x17_3 < (t730.length : Int)) = true := decide_eq_true c35
            clear c35
            by_cases c36 : 0 ≤ x16_2
            case neg => rw [if_neg c36] at H; exact absurd H (by simp)
            rw [if_pos c36] at H
            have c36b0 : decide (0 ≤ x16_2) = true := decide_eq_true c36
            clear c36
            by_cases c37 : x16_2 < (t730.length : Int)
            case neg => rw [if_neg c37] at H; exact absurd H (by simp)
            rw [if_pos c37] at H
            have c37b0 : decide (x16_2 < (t730.length : Int)) = true := decide_eq_true c37
            clear c37
            by_cases c38 : (wrap64 ((wrap64 ((wrap64 ((wrap64 ((wrap64 (1 + t733)) + (rd t730 x17_3))) - (rd t730 x16_2))) - t741)) - t725)) < x14_3
            ·rw [if_pos c38] at H
             have c38b0 : decide ((wrap64 ((wrap64 ((wrap64 ((wrap64 ((wrap64 (1 + t733)) + (rd t730 x17_3))) - (rd t730 x16_2))) - t741)) - t725)) < x14_3) = true := decide_eq_true c38
             clear c38
             by_cases c39 : (wrap64 ((wrap64 ((wrap64 (t740 + (rd t730 x16_2))) - (rd t730 x17_3))) - t726)) < x15_3
             ·rw [if_pos c39] at H
              have c39b0 : decide ((wrap64 ((wrap64 ((wrap64 (t740 + (rd t730 x16_2))) - (rd t730 x17_3))) - t726)) < x15_3) = true := decide_eq_true c39
              clear c39
              have H' := Aside0.mk H
              clear H
              have hcz40_0 : wr.cell? ⟨gb729, 0, none⟩ = some (.int .i64 t718) := (blk_cell BK729.out 0).trans rfl
              have hcz40_1 : wr.cell? ⟨gb729, 1, none⟩ = some (.slice Ao15 t719.length co15) := (blk_cell BK729.out 1).trans rfl
              have hcz40_2 : wr.cell? ⟨gb729, 2, none⟩ = some (.slice Ao16 t722.length co16) := (blk_cell BK729.out 2).trans rfl
              have hcz40_3 : wr.cell? ⟨gb729, 3, none⟩ = some (.int .i64 t725) := (blk_cell BK729.out 3).trans rfl
              have hcz40_4 : wr.cell? ⟨gb729, 4, none⟩ = some (.int .i64 t726) := (blk_cell BK729.out 4).trans rfl
              have hcz40_5 : wr.cell? ⟨gb729, 5, none⟩ = some (.int .i64 t727) := (blk_cell BK729.out 5).trans rfl
              have hcz40_6 : wr.cell? ⟨gb729, 6, none⟩ = some (.int .i64 t728) := (blk_cell BK729.out 6).trans rfl
              have hfz40_0 := blk_frozen BK729.out 0
              have hfz40_1 := blk_frozen BK729.out 1
              have hfz40_2 := blk_frozen BK729.out 2
              have hfz40_3 := blk_frozen BK729.out 3
              have hfz40_4 := blk_frozen BK729.out 4
              have hfz40_5 := blk_frozen BK729.out 5
              have hfz40_6 := blk_frozen BK729.out 6
              go_wp2_with (first | (go_at_call 31; (with_reducible refine (spec_PathDelays.calls k3 t718 _ _ t719 _ _ t722 t725 t726 t727 t728 x16_2 x17_3 t740 t741 true _ ?side1 ?side2 ?side3 ?side4 A32.out).mono ?_); (case side1 => repeat (first | exact (Kd.S_reads' HO_730001.out).2.2 | (with_reducible refine Kd.C_alloc ?_ _) | (with_reducible refine Kd.C_drewN ?_ _) | (with_reducible refine Kd.C_drew ?_))); (case side2 => exact (Kd.S_reads' HO_730001.out).2.1); (case side3 => repeat (first | exact (Kd.R_reads' HO_730002.out).2.2 | (with_reducible refine Kd.C_alloc ?_ _) | (with_reducible refine Kd.C_drewN ?_ _) | (with_reducible refine Kd.C_drew ?_))); (case side4 => exact (Kd.R_reads' HO_730002.out).2.1); rintro e w41 ⟨rfl, hb⟩; have n0_ := Aside0.mk (Kd.R_below (by (with_reducible repeat (first | apply Kd.R_alloc | apply Kd.R_drewN | apply Kd.R_drew)); exact HO_6.out) hb); have n1_ := Aside0.mk (Kd.S_below (by (with_reducible repeat (first | apply Kd.S_alloc | apply Kd.S_drewN | apply Kd.S_drew)); exact HO_730001.out) hb); have n2_ := Aside0.mk (Kd.R_below (by (with_reducible repeat (first | apply Kd.R_alloc | apply Kd.R_drewN | apply Kd.R_drew)); exact HO_730002.out) hb); have n3_ := Aside0.mk (blk_below (g := gb729) (o := .cells #[.int .i64 t718, .slice Ao15 t719.length co15, .slice Ao16 t722.length co16, .int .i64 t725, .int .i64 t726, .int .i64 t727, .int .i64 t728] 45 (0, 0)) (by (with_reducible repeat (first | refine blk_drewN ?_ _ | refine blk_drew ?_ | refine blk_alloc ?_ _)); exact BK729.out) hb); have n4_ := Aside0.mk (below_step (by with_reducible repeat (first | exact HB.out | apply below_alloc | apply pw_below_drewN | apply below_drew1 | refine below_set ?_ GE729.out)) hb); clear HO_6; clear HO_730001; clear HO_730002; clear BK729; clear HB; have HO_6 := n0_; have HO_730001 := n1_; have HO_730002 := n2_; have BK729 := n3_; have HB := n4_; clear n0_ n1_ n2_ n3_ n4_; (try clear hb); (try clear hb2); (try clear hk); (try clear hi); have p743 : 0 ≤ (x17_3 : Int) := of_decide_eq_true (by with_reducible assumption); have q743 : x17_3 < (t730.length : Int) := of_decide_eq_true (by with_reducible assumption); obtain ⟨ad743, e743, hx743_0⟩ := Kd.at_int (Kd.R_reads' HO_6.out).2.2 x17_3 p743 q743; cases e743; replace p743 := eq_true p743; replace q743 := eq_true q743; have p744 : 0 ≤ (x16_2 : Int) := of_decide_eq_true (by with_reducible assumption); have q744 : x16_2 < (t730.length : Int) := of_decide_eq_true (by with_reducible assumption); obtain ⟨ad744, e744, hx744_0⟩ := Kd.at_int (Kd.R_reads' HO_6.out).2.2 x16_2 p744 q744; obtain rfl : ad743 = ad744 := (by injection e744); replace p744 := eq_true p744; replace q744 := eq_true q744; have hcz42_0 : w41.cell? ⟨gb729, 0, none⟩ = some (.int .i64 t718) := (blk_cell BK729.out 0).trans rfl; have hcz42_1 : w41.cell? ⟨gb729, 1, none⟩ = some (.slice Ao15 t719.length co15) := (blk_cell BK729.out 1).trans rfl; have hcz42_2 : w41.cell? ⟨gb729, 2, none⟩ = some (.slice Ao16 t722.length co16) := (blk_cell BK729.out 2).trans rfl; have hcz42_3 : w41.cell? ⟨gb729, 3, none⟩ = some (.int .i64 t725) := (blk_cell BK729.out 3).trans rfl; have hcz42_4 : w41.cell? ⟨gb729, 4, none⟩ = some (.int .i64 t726) := (blk_cell BK729.out 4).trans rfl; have hcz42_5 : w41.cell? ⟨gb729, 5, none⟩ = some (.int .i64 t727) := (blk_cell BK729.out 5).trans rfl; have hcz42_6 : w41.cell? ⟨gb729, 6, none⟩ = some (.int .i64 t728) := (blk_cell BK729.out 6).trans rfl; have hfz42_0 := blk_frozen BK729.out 0; have hfz42_1 := blk_frozen BK729.out 1; have hfz42_2 := blk_frozen BK729.out 2; have hfz42_3 := blk_frozen BK729.out 3; have hfz42_4 := blk_frozen BK729.out 4; have hfz42_5 := blk_frozen BK729.out 5; have hfz42_6 := blk_frozen BK729.out 6; have p745 : 0 ≤ (x16_2 : Int) := of_decide_eq_true (by with_reducible assumption); have q745 : x16_2 < (t730.length : Int) := of_decide_eq_true (by with_reducible assumption); obtain ⟨ad745, e745, hx745_0⟩ := Kd.at_int (Kd.R_reads' HO_6.out).2.2 x16_2 p745 q745; obtain rfl : ad743 = ad745 := (by injection e745); replace p745 := eq_true p745; replace q745 := eq_true q745; have p746 : 0 ≤ (x17_3 : Int) := of_decide_eq_true (by with_reducible assumption); have q746 : x17_3 < (t730.length : Int) := of_decide_eq_true (by with_reducible assumption); obtain ⟨ad746, e746, hx746_0⟩ := Kd.at_int (Kd.R_reads' HO_6.out).2.2 x17_3 p746 q746; obtain rfl : ad743 = ad746 := (by injection e746); replace p746 := eq_true p746; replace q746 := eq_true q746))
              repeat (go_quiet ((go_at_call 31; (with_reducible refine (spec_PathDelays.calls k3 t718 _ _ t719 _ _ t722 t725 t726 t727 t728 x16_2 x17_3 t740 t741 true _ ?side1 ?side2 ?side3 ?side4 A32.out).mono ?_); (case side1 => repeat (first | exact (Kd.S_reads' HO_730001.out).2.2 | (with_reducible refine Kd.C_alloc ?_ _) | (with_reducible refine Kd.C_drewN ?_ _) | (with_reducible refine Kd.C_drew ?_))); (case side2 => exact (Kd.S_reads' HO_730001.out).2.1); (case side3 => repeat (first | exact (Kd.R_reads' HO_730002.out).2.2 | (with_reducible refine Kd.C_alloc ?_ _) | (with_reducible refine Kd.C_drewN ?_ _) | (with_reducible refine Kd.C_drew ?_))); (case side4 => exact (Kd.R_reads' HO_730002.out).2.1); rintro e w41 ⟨rfl, hb⟩; have n0_ := Aside0.mk (Kd.R_below (by (with_reducible repeat (first | apply Kd.R_alloc | apply Kd.R_drewN | apply Kd.R_drew)); exact HO_6.out) hb); have n1_ := Aside0.mk (Kd.S_below (by (with_reducible repeat (first | apply Kd.S_alloc | apply Kd.S_drewN | apply Kd.S_drew)); exact HO_730001.out) hb); have n2_ := Aside0.mk (Kd.R_below (by (with_reducible repeat (first | apply Kd.R_alloc | apply Kd.R_drewN | apply Kd.R_drew)); exact HO_730002.out) hb); have n3_ := Aside0.mk (blk_below (g := gb729) (o := .cells #[.int .i64 t718, .slice Ao15 t719.length co15, .slice Ao16 t722.length co16, .int .i64 t725, .int .i64 t726, .int .i64 t727, .int .i64 t728] 45 (0, 0)) (by (with_reducible repeat (first | refine blk_drewN ?_ _ | refine blk_drew ?_ | refine blk_alloc ?_ _)); exact BK729.out) hb); have n4_ := Aside0.mk (below_step (by with_reducible repeat (first | exact HB.out | apply below_alloc | apply pw_below_drewN | apply below_drew1 | refine below_set ?_ GE729.out)) hb); clear HO_6; clear HO_730001; clear HO_730002; clear BK729; clear HB; have HO_6 := n0_; have HO_730001 := n1_; have HO_730002 := n2_; have BK729 := n3_; have HB := n4_; clear n0_ n1_ n2_ n3_ n4_; (try clear hb); (try clear hb2); (try clear hk); (try clear hi); have p743 : 0 ≤ (x17_3 : Int) := of_decide_eq_true (by with_reducible assumption); have q743 : x17_3 < (t730.length : Int) := of_decide_eq_true (by with_reducible assumption); obtain ⟨ad743, e743, hx743_0⟩ := Kd.at_int (Kd.R_reads' HO_6.out).2.2 x17_3 p743 q743; cases e743; replace p743 := eq_true p743; replace q743 := eq_true q743; have p744 : 0 ≤ (x16_2 : Int) := of_decide_eq_true (by with_reducible assumption); have q744 : x16_2 < (t730.length : Int) := of_decide_eq_true (by with_reducible assumption); obtain ⟨ad744, e744, hx744_0⟩ := Kd.at_int (Kd.R_reads' HO_6.out).2.2 x16_2 p744 q744; obtain rfl : ad743 = ad744 := (by injection e744); replace p744 := eq_true p744; replace q744 := eq_true q744; have hcz42_0 : w41.cell? ⟨gb729, 0, none⟩ = some (.int .i64 t718) := (blk_cell BK729.out 0).trans rfl; have hcz42_1 : w41.cell? ⟨gb729, 1, none⟩ = some (.slice Ao15 t719.length co15) := (blk_cell BK729.out 1).trans rfl; have hcz42_2 : w41.cell? ⟨gb729, 2, none⟩ = some (.slice Ao16 t722.length co16) := (blk_cell BK729.out 2).trans rfl; have hcz42_3 : w41.cell? ⟨gb729, 3, none⟩ = some (.int .i64 t725) := (blk_cell BK729.out 3).trans rfl; have hcz42_4 : w41.cell? ⟨gb729, 4, none⟩ = some (.int .i64 t726) := (blk_cell BK729.out 4).trans rfl; have hcz42_5 : w41.cell? ⟨gb729, 5, none⟩ = some (.int .i64 t727) := (blk_cell BK729.out 5).trans rfl; have hcz42_6 : w41.cell? ⟨gb729, 6, none⟩ = some (.int .i64 t728) := (blk_cell BK729.out 6).trans rfl; have hfz42_0 := blk_frozen BK729.out 0; have hfz42_1 := blk_frozen BK729.out 1; have hfz42_2 := blk_frozen BK729.out 2; have hfz42_3 := blk_frozen BK729.out 3; have hfz42_4 := blk_frozen BK729.out 4; have hfz42_5 := blk_frozen BK729.out 5; have hfz42_6 := blk_frozen BK729.out 6; have p745 : 0 ≤ (x16_2 : Int) := of_decide_eq_true (by with_reducible assumption); have q745 : x16_2 < (t730.length : Int) := of_decide_eq_true (by with_reducible assumption); obtain ⟨ad745, e745, hx745_0⟩ := Kd.at_int (Kd.R_reads' HO_6.out).2.2 x16_2 p745 q745; obtain rfl : ad743 = ad745 := (by injection e745); replace p745 := eq_true p745; replace q745 := eq_true q745; have p746 : 0 ≤ (x17_3 : Int) := of_decide_eq_true (by with_reducible assumption); have q746 : x17_3 < (t730.length : Int) := of_decide_eq_true (by with_reducible assumption); obtain ⟨ad746, e746, hx746_0⟩ := Kd.at_int (Kd.R_reads' HO_6.out).2.2 x17_3 p746 q746; obtain rfl : ad743 = ad746 := (by injection e746); replace p746 := eq_true p746; replace q746 := eq_true q746)); try go_wp2_with (first | (go_at_call 31; (with_reducible refine (spec_PathDelays.calls k3 t718 _ _ t719 _ _ t722 t725 t726 t727 t728 x16_2 x17_3 t740 t741 true _ ?side1 ?side2 ?side3 ?side4 A32.out).mono ?_); (case side1 => repeat (first | exact (Kd.S_reads' HO_730001.out).2.2 | (with_reducible refine Kd.C_alloc ?_ _) | (with_reducible refine Kd.C_drewN ?_ _) | (with_reducible refine Kd.C_drew ?_))); (case side2 => exact (Kd.S_reads' HO_730001.out).2.1); (case side3 => repeat (first | exact (Kd.R_reads' HO_730002.out).2.2 | (with_reducible refine Kd.C_alloc ?_ _) | (with_reducible refine Kd.C_drewN ?_ _) | (with_reducible refine Kd.C_drew ?_))); (case side4 => exact (Kd.R_reads' HO_730002.out).2.1); rintro e w41 ⟨rfl, hb⟩; have n0_ := Aside0.mk (Kd.R_below (by (with_reducible repeat (first | apply Kd.R_alloc | apply Kd.R_drewN | apply Kd.R_drew)); exact HO_6.out) hb); have n1_ := Aside0.mk (Kd.S_below (by (with_reducible repeat (first | apply Kd.S_alloc | apply Kd.S_drewN | apply Kd.S_drew)); exact HO_730001.out) hb); have n2_ := Aside0.mk (Kd.R_below (by (with_reducible repeat (first | apply Kd.R_alloc | apply Kd.R_drewN | apply Kd.R_drew)); exact HO_730002.out) hb); have n3_ := Aside0.mk (blk_below (g := gb729) (o := .cells #[.int .i64 t718, .slice Ao15 t719.length co15, .slice Ao16 t722.length co16, .int .i64 t725, .int .i64 t726, .int .i64 t727, .int .i64 t728] 45 (0, 0)) (by (with_reducible repeat (first | refine blk_drewN ?_ _ | refine blk_drew ?_ | refine blk_alloc ?_ _)); exact BK729.out) hb); have n4_ := Aside0.mk (below_step (by with_reducible repeat (first | exact HB.out | apply below_alloc | apply pw_below_drewN | apply below_drew1 | refine below_set ?_ GE729.out)) hb); clear HO_6; clear HO_730001; clear HO_730002; clear BK729; clear HB; have HO_6 := n0_; have HO_730001 := n1_; have HO_730002 := n2_; have BK729 := n3_; have HB := n4_; clear n0_ n1_ n2_ n3_ n4_; (try clear hb); (try clear hb2); (try clear hk); (try clear hi); have p743 : 0 ≤ (x17_3 : Int) := of_decide_eq_true (by with_reducible assumption); have q743 : x17_3 < (t730.length : Int) := of_decide_eq_true (by with_reducible assumption); obtain ⟨ad743, e743, hx743_0⟩ := Kd.at_int (Kd.R_reads' HO_6.out).2.2 x17_3 p743 q743; cases e743; replace p743 := eq_true p743; replace q743 := eq_true q743; have p744 : 0 ≤ (x16_2 : Int) := of_decide_eq_true (by with_reducible assumption); have q744 : x16_2 < (t730.length : Int) := of_decide_eq_true (by with_reducible assumption); obtain ⟨ad744, e744, hx744_0⟩ := Kd.at_int (Kd.R_reads' HO_6.out).2.2 x16_2 p744 q744; obtain rfl : ad743 = ad744 := (by injection e744); replace p744 := eq_true p744; replace q744 := eq_true q744; have hcz42_0 : w41.cell? ⟨gb729, 0, none⟩ = some (.int .i64 t718) := (blk_cell BK729.out 0).trans rfl; have hcz42_1 : w41.cell? ⟨gb729, 1, none⟩ = some (.slice Ao15 t719.length co15) := (blk_cell BK729.out 1).trans rfl; have hcz42_2 : w41.cell? ⟨gb729, 2, none⟩ = some (.slice Ao16 t722.length co16) := (blk_cell BK729.out 2).trans rfl; have hcz42_3 : w41.cell? ⟨gb729, 3, none⟩ = some (.int .i64 t725) := (blk_cell BK729.out 3).trans rfl; have hcz42_4 : w41.cell? ⟨gb729, 4, none⟩ = some (.int .i64 t726) := (blk_cell BK729.out 4).trans rfl; have hcz42_5 : w41.cell? ⟨gb729, 5, none⟩ = some (.int .i64 t727) := (blk_cell BK729.out 5).trans rfl; have hcz42_6 : w41.cell? ⟨gb729, 6, none⟩ = some (.int .i64 t728) := (blk_cell BK729.out 6).trans rfl; have hfz42_0 := blk_frozen BK729.out 0; have hfz42_1 := blk_frozen BK729.out 1; have hfz42_2 := blk_frozen BK729.out 2; have hfz42_3 := blk_frozen BK729.out 3; have hfz42_4 := blk_frozen BK729.out 4; have hfz42_5 := blk_frozen BK729.out 5; have hfz42_6 := blk_frozen BK729.out 6; have p745 : 0 ≤ (x16_2 : Int) := of_decide_eq_true (by with_reducible assumption); have q745 : x16_2 < (t730.length : Int) := of_decide_eq_true (by with_reducible assumption); obtain ⟨ad745, e745, hx745_0⟩ := Kd.at_int (Kd.R_reads' HO_6.out).2.2 x16_2 p745 q745; obtain rfl : ad743 = ad745 := (by injection e745); replace p745 := eq_true p745; replace q745 := eq_true q745; have p746 : 0 ≤ (x17_3 : Int) := of_decide_eq_true (by with_reducible assumption); have q746 : x17_3 < (t730.length : Int) := of_decide_eq_true (by with_reducible assumption); obtain ⟨ad746, e746, hx746_0⟩ := Kd.at_int (Kd.R_reads' HO_6.out).2.2 x17_3 p746 q746; obtain rfl : ad743 = ad746 := (by injection e746); replace p746 := eq_true p746; replace q746 := eq_true q746)))
              go_roundg k3
              case measure => have := HJ10.out; have := HK2.out; have := HK3.out; omega
              case rel => exact ⟨(wrap64 ((wrap64 ((wrap64 ((wrap64 ((wrap64 (1 + t733)) + (rd t730 x17_3))) - (rd t730 x16_2))) - t741)) - t725)), (wrap64 ((wrap64 ((wrap64 (t740 + (rd t730 x16_2))) - (rd t730 x17_3))) - t726)), (wrap64 (x17_3 + 1)), (by first | rfl | (simp; done) | (simp [*]; done)), (by first | rfl | (simp; done) | (simp [*]; done)), (by first | rfl | (simp; done) | (simp [*]; done)), H', ⟨by have := HJ10.out; have := HK2.out; have := HK3.out; omega⟩, ⟨by (with_reducible repeat (first | apply Kd.R_alloc | apply Kd.R_drewN | apply Kd.R_drew)); exact HO_6.out⟩, ⟨by (with_reducible repeat (first | apply Kd.S_alloc | apply Kd.S_drewN | apply Kd.S_drew)); exact HO_730001.out⟩, ⟨by (with_reducible repeat (first | apply Kd.R_alloc | apply Kd.R_drewN | apply Kd.R_drew)); exact HO_730002.out⟩, ⟨by (with_reducible repeat (first | refine blk_drewN ?_ _ | refine blk_drew ?_ | refine blk_alloc ?_ _)); exact BK729.out⟩, ⟨by with_reducible repeat (first | exact HB.out | apply below_alloc | apply pw_below_drewN | apply below_drew1 | refine below_set ?_ GE729.out)⟩⟩
             ·rw [if_neg c39] at H
              have c39b0 : decide ((wrap64 ((wrap64 ((wrap64 (t740 + (rd t730 x16_2))) - (rd t730 x17_3))) - t726)) < x15_3) = false := decide_eq_false c39
              clear c39
              have H' := Aside0.mk H
              clear H
              have hcz43_0 : wr.cell? ⟨gb729, 0, none⟩ = some (.int .i64 t718) := (blk_cell BK729.out 0).trans rfl
              have hcz43_1 : wr.cell? ⟨gb729, 1, none⟩ = some (.slice Ao15 t719.length co15) := (blk_cell BK729.out 1).trans rfl
              have hcz43_2 : wr.cell? ⟨gb729, 2, none⟩ = some (.slice Ao16 t722.length co16) := (blk_cell BK729.out 2).trans rfl
              have hcz43_3 : wr.cell? ⟨gb729, 3, none⟩ = some (.int .i64 t725) := (blk_cell BK729.out 3).trans rfl
              have hcz43_4 : wr.cell? ⟨gb729, 4, none⟩ = some (.int .i64 t726) := (blk_cell BK729.out 4).trans rfl
              have hcz43_5 : wr.cell? ⟨gb729, 5, none⟩ = some (.int .i64 t727) := (blk_cell BK729.out 5).trans rfl
              have hcz43_6 : wr.cell? ⟨gb729, 6, none⟩ = some (.int .i64 t728) := (blk_cell BK729.out 6).trans rfl
              have hfz43_0 := blk_frozen BK729.out 0
              have hfz43_1 := blk_frozen BK729.out 1
              have hfz43_2 := blk_frozen BK729.out 2
              have hfz43_3 := blk_frozen BK729.out 3
              have hfz43_4 := blk_frozen BK729.out 4
              have hfz43_5 := blk_frozen BK729.out 5
              have hfz43_6 := blk_frozen BK729.out 6
              go_wp2_with (first | (go_at_call 31; (with_reducible refine (spec_PathDelays.calls k3 t718 _ _ t719 _ _ t722 t725 t726 t727 t728 x16_2 x17_3 t740 t741 true _ ?side1 ?side2 ?side3 ?side4 A32.out).mono ?_); (case side1 => repeat (first | exact (Kd.S_reads' HO_730001.out).2.2 | (with_reducible refine Kd.C_alloc ?_ _) | (with_reducible refine Kd.C_drewN ?_ _) | (with_reducible refine Kd.C_drew ?_))); (case side2 => exact (Kd.S_reads' HO_730001.out).2.1); (case side3 => repeat (first | exact (Kd.R_reads' HO_730002.out).2.2 | (with_reducible refine Kd.C_alloc ?_ _) | (with_reducible refine Kd.C_drewN ?_ _) | (with_reducible refine Kd.C_drew ?_))); (case side4 => exact (Kd.R_reads' HO_730002.out).2.1); rintro e w44 ⟨rfl, hb⟩; have n0_ := Aside0.mk (Kd.R_below (by (with_reducible repeat (first | apply Kd.R_alloc | apply Kd.R_drewN | apply Kd.R_drew)); exact HO_6.out) hb); have n1_ := Aside0.mk (Kd.S_below (by (with_reducible repeat (first | apply Kd.S_alloc | apply Kd.S_drewN | apply Kd.S_drew)); exact HO_730001.out) hb); have n2_ := Aside0.mk (Kd.R_below (by (with_reducible repeat (first | apply Kd.R_alloc | apply Kd.R_drewN | apply Kd.R_drew)); exact HO_730002.out) hb); have n3_ := Aside0.mk (blk_below (g := gb729) (o := .cells #[.int .i64 t718, .slice Ao15 t719.length co15, .slice Ao16 t722.length co16, .int .i64 t725, .int .i64 t726, .int .i64 t727, .int .i64 t728] 45 (0, 0)) (by (with_reducible repeat (first | refine blk_drewN ?_ _ | refine blk_drew ?_ | refine blk_alloc ?_ _)); exact BK729.out) hb); have n4_ := Aside0.mk (below_step (by with_reducible repeat (first | exact HB.out | apply below_alloc | apply pw_below_drewN | apply below_drew1 | refine below_set ?_ GE729.out)) hb); clear HO_6; clear HO_730001; clear HO_730002; clear BK729; clear HB; have HO_6 := n0_; have HO_730001 := n1_; have HO_730002 := n2_; have BK729 := n3_; have HB := n4_; clear n0_ n1_ n2_ n3_ n4_; (try clear hb); (try clear hb2); (try clear hk); (try clear hi); have p743 : 0 ≤ (x17_3 : Int) := of_decide_eq_true (by with_reducible assumption); have q743 : x17_3 < (t730.length : Int) := of_decide_eq_true (by with_reducible assumption); obtain ⟨ad743, e743, hx743_0⟩ := Kd.at_int (Kd.R_reads' HO_6.out).2.2 x17_3 p743 q743; cases e743; replace p743 := eq_true p743; replace q743 := eq_true q743; have p744 : 0 ≤ (x16_2 : Int) := of_decide_eq_true (by with_reducible assumption); have q744 : x16_2 < (t730.length : Int) := of_decide_eq_true (by with_reducible assumption); obtain ⟨ad744, e744, hx744_0⟩ := Kd.at_int (Kd.R_reads' HO_6.out).2.2 x16_2 p744 q744; obtain rfl : ad743 = ad744 := (by injection e744); replace p744 := eq_true p744; replace q744 := eq_true q744; have hcz45_0 : w44.cell? ⟨gb729, 0, none⟩ = some (.int .i64 t718) := (blk_cell BK729.out 0).trans rfl; have hcz45_1 : w44.cell? ⟨gb729, 1, none⟩ = some (.slice Ao15 t719.length co15) := (blk_cell BK729.out 1).trans rfl; have hcz45_2 : w44.cell? ⟨gb729, 2, none⟩ = some (.slice Ao16 t722.length co16) := (blk_cell BK729.out 2).trans rfl; have hcz45_3 : w44.cell? ⟨gb729, 3, none⟩ = some (.int .i64 t725) := (blk_cell BK729.out 3).trans rfl; have hcz45_4 : w44.cell? ⟨gb729, 4, none⟩ = some (.int .i64 t726) := (blk_cell BK729.out 4).trans rfl; have hcz45_5 : w44.cell? ⟨gb729, 5, none⟩ = some (.int .i64 t727) := (blk_cell BK729.out 5).trans rfl; have hcz45_6 : w44.cell? ⟨gb729, 6, none⟩ = some (.int .i64 t728) := (blk_cell BK729.out 6).trans rfl; have hfz45_0 := blk_frozen BK729.out 0; have hfz45_1 := blk_frozen BK729.out 1; have hfz45_2 := blk_frozen BK729.out 2; have hfz45_3 := blk_frozen BK729.out 3; have hfz45_4 := blk_frozen BK729.out 4; have hfz45_5 := blk_frozen BK729.out 5; have hfz45_6 := blk_frozen BK729.out 6; have p745 : 0 ≤ (x16_2 : Int) := of_decide_eq_true (by with_reducible assumption); have q745 : x16_2 < (t730.length : Int) := of_decide_eq_true (by with_reducible assumption); obtain ⟨ad745, e745, hx745_0⟩ := Kd.at_int (Kd.R_reads' HO_6.out).2.2 x16_2 p745 q745; obtain rfl : ad743 = ad745 := (by injection e745); replace p745 := eq_true p745; replace q745 := eq_true q745; have p746 : 0 ≤ (x17_3 : Int) := of_decide_eq_true (by with_reducible assumption); have q746 : x17_3 < (t730.length : Int) := of_decide_eq_true (by with_reducible assumption); obtain ⟨ad746, e746, hx746_0⟩ := Kd.at_int (Kd.R_reads' HO_6.out).2.2 x17_3 p746 q746; obtain rfl : ad743 = ad746 := (by injection e746); replace p746 := eq_true p746; replace q746 := eq_true q746))
              repeat (go_quiet ((go_at_call 31; (with_reducible refine (spec_PathDelays.calls k3 t718 _ _ t719 _ _ t722 t725 t726 t727 t728 x16_2 x17_3 t740 t741 true _ ?side1 ?side2 ?side3 ?side4 A32.out).mono ?_); (case side1 => repeat (first | exact (Kd.S_reads' HO_730001.out).2.2 | (with_reducible refine Kd.C_alloc ?_ _) | (with_reducible refine Kd.C_drewN ?_ _) | (with_reducible refine Kd.C_drew ?_))); (case side2 => exact (Kd.S_reads' HO_730001.out).2.1); (case side3 => repeat (first | exact (Kd.R_reads' HO_730002.out).2.2 | (with_reducible refine Kd.C_alloc ?_ _) | (with_reducible refine Kd.C_drewN ?_ _) | (with_reducible refine Kd.C_drew ?_))); (case side4 => exact (Kd.R_reads' HO_730002.out).2.1); rintro e w44 ⟨rfl, hb⟩; have n0_ := Aside0.mk (Kd.R_below (by (with_reducible repeat (first | apply Kd.R_alloc | apply Kd.R_drewN | apply Kd.R_drew)); exact HO_6.out) hb); have n1_ := Aside0.mk (Kd.S_below (by (with_reducible repeat (first | apply Kd.S_alloc | apply Kd.S_drewN | apply Kd.S_drew)); exact HO_730001.out) hb); have n2_ := Aside0.mk (Kd.R_below (by (with_reducible repeat (first | apply Kd.R_alloc | apply Kd.R_drewN | apply Kd.R_drew)); exact HO_730002.out) hb); have n3_ := Aside0.mk (blk_below (g := gb729) (o := .cells #[.int .i64 t718, .slice Ao15 t719.length co15, .slice Ao16 t722.length co16, .int .i64 t725, .int .i64 t726, .int .i64 t727, .int .i64 t728] 45 (0, 0)) (by (with_reducible repeat (first | refine blk_drewN ?_ _ | refine blk_drew ?_ | refine blk_alloc ?_ _)); exact BK729.out) hb); have n4_ := Aside0.mk (below_step (by with_reducible repeat (first | exact HB.out | apply below_alloc | apply pw_below_drewN | apply below_drew1 | refine below_set ?_ GE729.out)) hb); clear HO_6; clear HO_730001; clear HO_730002; clear BK729; clear HB; have HO_6 := n0_; have HO_730001 := n1_; have HO_730002 := n2_; have BK729 := n3_; have HB := n4_; clear n0_ n1_ n2_ n3_ n4_; (try clear hb); (try clear hb2); (try clear hk); (try clear hi); have p743 : 0 ≤ (x17_3 : Int) := of_decide_eq_true (by with_reducible assumption); have q743 : x17_3 < (t730.length : Int) := of_decide_eq_true (by with_reducible assumption); obtain ⟨ad743, e743, hx743_0⟩ := Kd.at_int (Kd.R_reads' HO_6.out).2.2 x17_3 p743 q743; cases e743; replace p743 := eq_true p743; replace q743 := eq_true q743; have p744 : 0 ≤ (x16_2 : Int) := of_decide_eq_true (by with_reducible assumption); have q744 : x16_2 < (t730.length : Int) := of_decide_eq_true (by with_reducible assumption); obtain ⟨ad744, e744, hx744_0⟩ := Kd.at_int (Kd.R_reads' HO_6.out).2.2 x16_2 p744 q744; obtain rfl : ad743 = ad744 := (by injection e744); replace p744 := eq_true p744; replace q744 := eq_true q744; have hcz45_0 : w44.cell? ⟨gb729, 0, none⟩ = some (.int .i64 t718) := (blk_cell BK729.out 0).trans rfl; have hcz45_1 : w44.cell? ⟨gb729, 1, none⟩ = some (.slice Ao15 t719.length co15) := (blk_cell BK729.out 1).trans rfl; have hcz45_2 : w44.cell? ⟨gb729, 2, none⟩ = some (.slice Ao16 t722.length co16) := (blk_cell BK729.out 2).trans rfl; have hcz45_3 : w44.cell? ⟨gb729, 3, none⟩ = some (.int .i64 t725) := (blk_cell BK729.out 3).trans rfl; have hcz45_4 : w44.cell? ⟨gb729, 4, none⟩ = some (.int .i64 t726) := (blk_cell BK729.out 4).trans rfl; have hcz45_5 : w44.cell? ⟨gb729, 5, none⟩ = some (.int .i64 t727) := (blk_cell BK729.out 5).trans rfl; have hcz45_6 : w44.cell? ⟨gb729, 6, none⟩ = some (.int .i64 t728) := (blk_cell BK729.out 6).trans rfl; have hfz45_0 := blk_frozen BK729.out 0; have hfz45_1 := blk_frozen BK729.out 1; have hfz45_2 := blk_frozen BK729.out 2; have hfz45_3 := blk_frozen BK729.out 3; have hfz45_4 := blk_frozen BK729.out 4; have hfz45_5 := blk_frozen BK729.out 5; have hfz45_6 := blk_frozen BK729.out 6; have p745 : 0 ≤ (x16_2 : Int) := of_decide_eq_true (by with_reducible assumption); have q745 : x16_2 < (t730.length : Int) := of_decide_eq_true (by with_reducible assumption); obtain ⟨ad745, e745, hx745_0⟩ := Kd.at_int (Kd.R_reads' HO_6.out).2.2 x16_2 p745 q745; obtain rfl : ad743 = ad745 := (by injection e745); replace p745 := eq_true p745; replace q745 := eq_true q745; have p746 : 0 ≤ (x17_3 : Int) := of_decide_eq_true (by with_reducible assumption); have q746 : x17_3 < (t730.length : Int) := of_decide_eq_true (by with_reducible assumption); obtain ⟨ad746, e746, hx746_0⟩ := Kd.at_int (Kd.R_reads' HO_6.out).2.2 x17_3 p746 q746; obtain rfl : ad743 = ad746 := (by injection e746); replace p746 := eq_true p746; replace q746 := eq_true q746)); try go_wp2_with (first | (go_at_call 31; (with_reducible refine (spec_PathDelays.calls k3 t718 _ _ t719 _ _ t722 t725 t726 t727 t728 x16_2 x17_3 t740 t741 true _ ?side1 ?side2 ?side3 ?side4 A32.out).mono ?_); (case side1 => repeat (first | exact (Kd.S_reads' HO_730001.out).2.2 | (with_reducible refine Kd.C_alloc ?_ _) | (with_reducible refine Kd.C_drewN ?_ _) | (with_reducible refine Kd.C_drew ?_))); (case side2 => exact (Kd.S_reads' HO_730001.out).2.1); (case side3 => repeat (first | exact (Kd.R_reads' HO_730002.out).2.2 | (with_reducible refine Kd.C_alloc ?_ _) | (with_reducible refine Kd.C_drewN ?_ _) | (with_reducible refine Kd.C_drew ?_))); (case side4 => exact (Kd.R_reads' HO_730002.out).2.1); rintro e w44 ⟨rfl, hb⟩; have n0_ := Aside0.mk (Kd.R_below (by (with_reducible repeat (first | apply Kd.R_alloc | apply Kd.R_drewN | apply Kd.R_drew)); exact HO_6.out) hb); have n1_ := Aside0.mk (Kd.S_below (by (with_reducible repeat (first | apply Kd.S_alloc | apply Kd.S_drewN | apply Kd.S_drew)); exact HO_730001.out) hb); have n2_ := Aside0.mk (Kd.R_below (by (with_reducible repeat (first | apply Kd.R_alloc | apply Kd.R_drewN | apply Kd.R_drew)); exact HO_730002.out) hb); have n3_ := Aside0.mk (blk_below (g := gb729) (o := .cells #[.int .i64 t718, .slice Ao15 t719.length co15, .slice Ao16 t722.length co16, .int .i64 t725, .int .i64 t726, .int .i64 t727, .int .i64 t728] 45 (0, 0)) (by (with_reducible repeat (first | refine blk_drewN ?_ _ | refine blk_drew ?_ | refine blk_alloc ?_ _)); exact BK729.out) hb); have n4_ := Aside0.mk (below_step (by with_reducible repeat (first | exact HB.out | apply below_alloc | apply pw_below_drewN | apply below_drew1 | refine below_set ?_ GE729.out)) hb); clear HO_6; clear HO_730001; clear HO_730002; clear BK729; clear HB; have HO_6 := n0_; have HO_730001 := n1_; have HO_730002 := n2_; have BK729 := n3_; have HB := n4_; clear n0_ n1_ n2_ n3_ n4_; (try clear hb); (try clear hb2); (try clear hk); (try clear hi); have p743 : 0 ≤ (x17_3 : Int) := of_decide_eq_true (by with_reducible assumption); have q743 : x17_3 < (t730.length : Int) := of_decide_eq_true (by with_reducible assumption); obtain ⟨ad743, e743, hx743_0⟩ := Kd.at_int (Kd.R_reads' HO_6.out).2.2 x17_3 p743 q743; cases e743; replace p743 := eq_true p743; replace q743 := eq_true q743; have p744 : 0 ≤ (x16_2 : Int) := of_decide_eq_true (by with_reducible assumption); have q744 : x16_2 < (t730.length : Int) := of_decide_eq_true (by with_reducible assumption); obtain ⟨ad744, e744, hx744_0⟩ := Kd.at_int (Kd.R_reads' HO_6.out).2.2 x16_2 p744 q744; obtain rfl : ad743 = ad744 := (by injection e744); replace p744 := eq_true p744; replace q744 := eq_true q744; have hcz45_0 : w44.cell? ⟨gb729, 0, none⟩ = some (.int .i64 t718) := (blk_cell BK729.out 0).trans rfl; have hcz45_1 : w44.cell? ⟨gb729, 1, none⟩ = some (.slice Ao15 t719.length co15) := (blk_cell BK729.out 1).trans rfl; have hcz45_2 : w44.cell? ⟨gb729, 2, none⟩ = some (.slice Ao16 t722.length co16) := (blk_cell BK729.out 2).trans rfl; have hcz45_3 : w44.cell? ⟨gb729, 3, none⟩ = some (.int .i64 t725) := (blk_cell BK729.out 3).trans rfl; have hcz45_4 : w44.cell? ⟨gb729, 4, none⟩ = some (.int .i64 t726) := (blk_cell BK729.out 4).trans rfl; have hcz45_5 : w44.cell? ⟨gb729, 5, none⟩ = some (.int .i64 t727) := (blk_cell BK729.out 5).trans rfl; have hcz45_6 : w44.cell? ⟨gb729, 6, none⟩ = some (.int .i64 t728) := (blk_cell BK729.out 6).trans rfl; have hfz45_0 := blk_frozen BK729.out 0; have hfz45_1 := blk_frozen BK729.out 1; have hfz45_2 := blk_frozen BK729.out 2; have hfz45_3 := blk_frozen BK729.out 3; have hfz45_4 := blk_frozen BK729.out 4; have hfz45_5 := blk_frozen BK729.out 5; have hfz45_6 := blk_frozen BK729.out 6; have p745 : 0 ≤ (x16_2 : Int) := of_decide_eq_true (by with_reducible assumption); have q745 : x16_2 < (t730.length : Int) := of_decide_eq_true (by with_reducible assumption); obtain ⟨ad745, e745, hx745_0⟩ := Kd.at_int (Kd.R_reads' HO_6.out).2.2 x16_2 p745 q745; obtain rfl : ad743 = ad745 := (by injection e745); replace p745 := eq_true p745; replace q745 := eq_true q745; have p746 : 0 ≤ (x17_3 : Int) := of_decide_eq_true (by with_reducible assumption); have q746 : x17_3 < (t730.length : Int) := of_decide_eq_true (by with_reducible assumption); obtain ⟨ad746, e746, hx746_0⟩ := Kd.at_int (Kd.R_reads' HO_6.out).2.2 x17_3 p746 q746; obtain rfl : ad743 = ad746 := (by injection e746); replace p746 := eq_true p746; replace q746 := eq_true q746)))
              go_roundg k3
              case measure => have := HJ10.out; have := HK2.out; have := HK3.out; omega
              case rel => exact ⟨(wrap64 ((wrap64 ((wrap64 ((wrap64 ((wrap64 (1 + t733)) + (rd t730 x17_3))) - (rd t730 x16_2))) - t741)) - t725)), (x15_3), (wrap64 (x17_3 + 1)), (by first | rfl | (simp; done) | (simp [*]; done)), (by first | rfl | (simp; done) | (simp [*]; done)), (by first | rfl | (simp; done) | (simp [*]; done)), H', ⟨by have := HJ10.out; have := HK2.out; have := HK3.out; omega⟩, ⟨by (with_reducible repeat (first | apply Kd.R_alloc | apply Kd.R_drewN | apply Kd.R_drew)); exact HO_6.out⟩, ⟨by (with_reducible repeat (first | apply Kd.S_alloc | apply Kd.S_drewN | apply Kd.S_drew)); exact HO_730001.out⟩, ⟨by (with_reducible repeat (first | apply Kd.R_alloc | apply Kd.R_drewN | apply Kd.R_drew)); exact HO_730002.out⟩, ⟨by (with_reducible repeat (first | refine blk_drewN ?_ _ | refine blk_drew ?_ | refine blk_alloc ?_ _)); exact BK729.out⟩, ⟨by with_reducible repeat (first | exact HB.out | apply below_alloc | apply pw_below_drewN | apply below_drew1 | refine below_set ?_ GE729.out)⟩⟩
            ·rw [if_neg c38] at H
             have c38b0 : decide ((wrap64 ((wrap64 ((wrap64 ((wrap64 ((wrap64 (1 + t733)) + (rd t730 x17_3))) - (rd t730 x16_2))) - t741)) - t725)) < x14_3) = false := decide_eq_false c38
             clear c38
             by_cases c46 : (wrap64 ((wrap64 ((wrap64 (t740 + (rd t730 x16_2))) - (rd t730 x17_3))) - t726)) < x15_3
             ·rw [if_pos c46] at H
              have c46b0 : decide ((wrap64 ((wrap64 ((wrap64 (t740 + (rd t730 x16_2))) - (rd t730 x17_3))) - t726)) < x15_3) = true := decide_eq_true c46
              clear c46
              have H' := Aside0.mk H
              clear H
              have hcz47_0 : wr.cell? ⟨gb729, 0, none⟩ = some (.int .i64 t718) := (blk_cell BK729.out 0).trans rfl
              have hcz47_1 : wr.cell? ⟨gb729, 1, none⟩ = some (.slice Ao15 t719.length co15) := (blk_cell BK729.out 1).trans rfl
              have hcz47_2 : wr.cell? ⟨gb729, 2, none⟩ = some (.slice Ao16 t722.length co16) := (blk_cell BK729.out 2).trans rfl
              have hcz47_3 : wr.cell? ⟨gb729, 3, none⟩ = some (.int .i64 t725) := (blk_cell BK729.out 3).trans rfl
              have hcz47_4 : wr.cell? ⟨gb729, 4, none⟩ = some (.int .i64 t726) := (blk_cell BK729.out 4).trans rfl
              have hcz47_5 : wr.cell? ⟨gb729, 5, none⟩ = some (.int .i64 t727) := (blk_cell BK729.out 5).trans rfl
              have hcz47_6 : wr.cell? ⟨gb729, 6, none⟩ = some (.int .i64 t728) := (blk_cell BK729.out 6).trans rfl
              have hfz47_0 := blk_frozen BK729.out 0
              have hfz47_1 := blk_frozen BK729.out 1
              have hfz47_2 := blk_frozen BK729.out 2
              have hfz47_3 := blk_frozen BK729.out 3
              have hfz47_4 := blk_frozen BK729.out 4
              have hfz47_5 := blk_frozen BK729.out 5
              have hfz47_6 := blk_frozen BK729.out 6
              go_wp2_with (first | (go_at_call 31; (with_reducible refine (spec_PathDelays.calls k3 t718 _ _ t719 _ _ t722 t725 t726 t727 t728 x16_2 x17_3 t740 t741 true _ ?side1 ?side2 ?side3 ?side4 A32.out).mono ?_); (case side1 => repeat (first | exact (Kd.S_reads' HO_730001.out).2.2 | (with_reducible refine Kd.C_alloc ?_ _) | (with_reducible refine Kd.C_drewN ?_ _) | (with_reducible refine Kd.C_drew ?_))); (case side2 => exact (Kd.S_reads' HO_730001.out).2.1); (case side3 => repeat (first | exact (Kd.R_reads' HO_730002.out).2.2 | (with_reducible refine Kd.C_alloc ?_ _) | (with_reducible refine Kd.C_drewN ?_ _) | (with_reducible refine Kd.C_drew ?_))); (case side4 => exact (Kd.R_reads' HO_730002.out).2.1); rintro e w48 ⟨rfl, hb⟩; have n0_ := Aside0.mk (Kd.R_below (by (with_reducible repeat (first | apply Kd.R_alloc | apply Kd.R_drewN | apply Kd.R_drew)); exact HO_6.out) hb); have n1_ := Aside0.mk (Kd.S_below (by (with_reducible repeat (first | apply Kd.S_alloc | apply Kd.S_drewN | apply Kd.S_drew)); exact HO_730001.out) hb); have n2_ := Aside0.mk (Kd.R_below (by (with_reducible repeat (first | apply Kd.R_alloc | apply Kd.R_drewN | apply Kd.R_drew)); exact HO_730002.out) hb); have n3_ := Aside0.mk (blk_below (g := gb729) (o := .cells #[.int .i64 t718, .slice Ao15 t719.length co15, .slice Ao16 t722.length co16, .int .i64 t725, .int .i64 t726, .int .i64 t727, .int .i64 t728] 45 (0, 0)) (by (with_reducible repeat (first | refine blk_drewN ?_ _ | refine blk_drew ?_ | refine blk_alloc ?_ _)); exact BK729.out) hb); have n4_ := Aside0.mk (below_step (by with_reducible repeat (first | exact HB.out | apply below_alloc | apply pw_below_drewN | apply below_drew1 | refine below_set ?_ GE729.out)) hb); clear HO_6; clear HO_730001; clear HO_730002; clear BK729; clear HB; have HO_6 := n0_; have HO_730001 := n1_; have HO_730002 := n2_; have BK729 := n3_; have HB := n4_; clear n0_ n1_ n2_ n3_ n4_; (try clear hb); (try clear hb2); (try clear hk); (try clear hi); have p743 : 0 ≤ (x17_3 : Int) := of_decide_eq_true (by with_reducible assumption); have q743 : x17_3 < (t730.length : Int) := of_decide_eq_true (by with_reducible assumption); obtain ⟨ad743, e743, hx743_0⟩ := Kd.at_int (Kd.R_reads' HO_6.out).2.2 x17_3 p743 q743; cases e743; replace p743 := eq_true p743; replace q743 := eq_true q743; have p744 : 0 ≤ (x16_2 : Int) := of_decide_eq_true (by with_reducible assumption); have q744 : x16_2 < (t730.length : Int) := of_decide_eq_true (by with_reducible assumption); obtain ⟨ad744, e744, hx744_0⟩ := Kd.at_int (Kd.R_reads' HO_6.out).2.2 x16_2 p744 q744; obtain rfl : ad743 = ad744 := (by injection e744); replace p744 := eq_true p744; replace q744 := eq_true q744; have hcz49_0 : w48.cell? ⟨gb729, 0, none⟩ = some (.int .i64 t718) := (blk_cell BK729.out 0).trans rfl; have hcz49_1 : w48.cell? ⟨gb729, 1, none⟩ = some (.slice Ao15 t719.length co15) := (blk_cell BK729.out 1).trans rfl; have hcz49_2 : w48.cell? ⟨gb729, 2, none⟩ = some (.slice Ao16 t722.length co16) := (blk_cell BK729.out 2).trans rfl; have hcz49_3 : w48.cell? ⟨gb729, 3, none⟩ = some (.int .i64 t725) := (blk_cell BK729.out 3).trans rfl; have hcz49_4 : w48.cell? ⟨gb729, 4, none⟩ = some (.int .i64 t726) := (blk_cell BK729.out 4).trans rfl; have hcz49_5 : w48.cell? ⟨gb729, 5, none⟩ = some (.int .i64 t727) := (blk_cell BK729.out 5).trans rfl; have hcz49_6 : w48.cell? ⟨gb729, 6, none⟩ = some (.int .i64 t728) := (blk_cell BK729.out 6).trans rfl; have hfz49_0 := blk_frozen BK729.out 0; have hfz49_1 := blk_frozen BK729.out 1; have hfz49_2 := blk_frozen BK729.out 2; have hfz49_3 := blk_frozen BK729.out 3; have hfz49_4 := blk_frozen BK729.out 4; have hfz49_5 := blk_frozen BK729.out 5; have hfz49_6 := blk_frozen BK729.out 6; have p745 : 0 ≤ (x16_2 : Int) := of_decide_eq_true (by with_reducible assumption); have q745 : x16_2 < (t730.length : Int) := of_decide_eq_true (by with_reducible assumption); obtain ⟨ad745, e745, hx745_0⟩ := Kd.at_int (Kd.R_reads' HO_6.out).2.2 x16_2 p745 q745; obtain rfl : ad743 = ad745 := (by injection e745); replace p745 := eq_true p745; replace q745 := eq_true q745; have p746 : 0 ≤ (x17_3 : Int) := of_decide_eq_true (by with_reducible assumption); have q746 : x17_3 < (t730.length : Int) := of_decide_eq_true (by with_reducible assumption); obtain ⟨ad746, e746, hx746_0⟩ := Kd.at_int (Kd.R_reads' HO_6.out).2.2 x17_3 p746 q746; obtain rfl : ad743 = ad746 := (by injection e746); replace p746 := eq_true p746; replace q746 := eq_true q746))
              repeat (go_quiet ((go_at_call 31; (with_reducible refine (spec_PathDelays.calls k3 t718 _ _ t719 _ _ t722 t725 t726 t727 t728 x16_2 x17_3 t740 t741 true _ ?side1 ?side2 ?side3 ?side4 A32.out).mono ?_); (case side1 => repeat (first | exact (Kd.S_reads' HO_730001.out).2.2 | (with_reducible refine Kd.C_alloc ?_ _) | (with_reducible refine Kd.C_drewN ?_ _) | (with_reducible refine Kd.C_drew ?_))); (case side2 => exact (Kd.S_reads' HO_730001.out).2.1); (case side3 => repeat (first | exact (Kd.R_reads' HO_730002.out).2.2 | (with_reducible refine Kd.C_alloc ?_ _) | (with_reducible refine Kd.C_drewN ?_ _) | (with_reducible refine Kd.C_drew ?_))); (case side4 => exact (Kd.R_reads' HO_730002.out).2.1); rintro e w48 ⟨rfl, hb⟩; have n0_ := Aside0.mk (Kd.R_below (by (with_reducible repeat (first | apply Kd.R_alloc | apply Kd.R_drewN | apply Kd.R_drew)); exact HO_6.out) hb); have n1_ := Aside0.mk (Kd.S_below (by (with_reducible repeat (first | apply Kd.S_alloc | apply Kd.S_drewN | apply Kd.S_drew)); exact HO_730001.out) hb); have n2_ := Aside0.mk (Kd.R_below (by (with_reducible repeat (first | apply Kd.R_alloc | apply Kd.R_drewN | apply Kd.R_drew)); exact HO_730002.out) hb); have n3_ := Aside0.mk (blk_below (g := gb729) (o := .cells #[.int .i64 t718, .slice Ao15 t719.length co15, .slice Ao16 t722.length co16, .int .i64 t725, .int .i64 t726, .int .i64 t727, .int .i64 t728] 45 (0, 0)) (by (with_reducible repeat (first | refine blk_drewN ?_ _ | refine blk_drew ?_ | refine blk_alloc ?_ _)); exact BK729.out) hb); have n4_ := Aside0.mk (below_step (by with_reducible repeat (first | exact HB.out | apply below_alloc | apply pw_below_drewN | apply below_drew1 | refine below_set ?_ GE729.out)) hb); clear HO_6; clear HO_730001; clear HO_730002; clear BK729; clear HB; have HO_6 := n0_; have HO_730001 := n1_; have HO_730002 := n2_; have BK729 := n3_; have HB := n4_; clear n0_ n1_ n2_ n3_ n4_; (try clear hb); (try clear hb2); (try clear hk); (try clear hi); have p743 : 0 ≤ (x17_3 : Int) := of_decide_eq_true (by with_reducible assumption); have q743 : x17_3 < (t730.length : Int) := of_decide_eq_true (by with_reducible assumption); obtain ⟨ad743, e743, hx743_0⟩ := Kd.at_int (Kd.R_reads' HO_6.out).2.2 x17_3 p743 q743; cases e743; replace p743 := eq_true p743; replace q743 := eq_true q743; have p744 : 0 ≤ (x16_2 : Int) := of_decide_eq_true (by with_reducible assumption); have q744 : x16_2 < (t730.length : Int) := of_decide_eq_true (by with_reducible assumption); obtain ⟨ad744, e744, hx744_0⟩ := Kd.at_int (Kd.R_reads' HO_6.out).2.2 x16_2 p744 q744; obtain rfl : ad743 = ad744 := (by injection e744); replace p744 := eq_true p744; replace q744 := eq_true q744; have hcz49_0 : w48.cell? ⟨gb729, 0, none⟩ = some (.int .i64 t718) := (blk_cell BK729.out 0).trans rfl; have hcz49_1 : w48.cell? ⟨gb729, 1, none⟩ = some (.slice Ao15 t719.length co15) := (blk_cell BK729.out 1).trans rfl; have hcz49_2 : w48.cell? ⟨gb729, 2, none⟩ = some (.slice Ao16 t722.length co16) := (blk_cell BK729.out 2).trans rfl; have hcz49_3 : w48.cell? ⟨gb729, 3, none⟩ = some (.int .i64 t725) := (blk_cell BK729.out 3).trans rfl; have hcz49_4 : w48.cell? ⟨gb729, 4, none⟩ = some (.int .i64 t726) := (blk_cell BK729.out 4).trans rfl; have hcz49_5 : w48.cell? ⟨gb729, 5, none⟩ = some (.int .i64 t727) := (blk_cell BK729.out 5).trans rfl; have hcz49_6 : w48.cell? ⟨gb729, 6, none⟩ = some (.int .i64 t728) := (blk_cell BK729.out 6).trans rfl; have hfz49_0 := blk_frozen BK729.out 0; have hfz49_1 := blk_frozen BK729.out 1; have hfz49_2 := blk_frozen BK729.out 2; have hfz49_3 := blk_frozen BK729.out 3; have hfz49_4 := blk_frozen BK729.out 4; have hfz49_5 := blk_frozen BK729.out 5; have hfz49_6 := blk_frozen BK729.out 6; have p745 : 0 ≤ (x16_2 : Int) := of_decide_eq_true (by with_reducible assumption); have q745 : x16_2 < (t730.length : Int) := of_decide_eq_true (by with_reducible assumption); obtain ⟨ad745, e745, hx745_0⟩ := Kd.at_int (Kd.R_reads' HO_6.out).2.2 x16_2 p745 q745; obtain rfl : ad743 = ad745 := (by injection e745); replace p745 := eq_true p745; replace q745 := eq_true q745; have p746 : 0 ≤ (x17_3 : Int) := of_decide_eq_true (by with_reducible assumption); have q746 : x17_3 < (t730.length : Int) := of_decide_eq_true (by with_reducible assumption); obtain ⟨ad746, e746, hx746_0⟩ := Kd.at_int (Kd.R_reads' HO_6.out).2.2 x17_3 p746 q746; obtain rfl : ad743 = ad746 := (by injection e746); replace p746 := eq_true p746; replace q746 := eq_true q746)); try go_wp2_with (first | (go_at_call 31; (with_reducible refine (spec_PathDelays.calls k3 t718 _ _ t719 _ _ t722 t725 t726 t727 t728 x16_2 x17_3 t740 t741 true _ ?side1 ?side2 ?side3 ?side4 A32.out).mono ?_); (case side1 => repeat (first | exact (Kd.S_reads' HO_730001.out).2.2 | (with_reducible refine Kd.C_alloc ?_ _) | (with_reducible refine Kd.C_drewN ?_ _) | (with_reducible refine Kd.C_drew ?_))); (case side2 => exact (Kd.S_reads' HO_730001.out).2.1); (case side3 => repeat (first | exact (Kd.R_reads' HO_730002.out).2.2 | (with_reducible refine Kd.C_alloc ?_ _) | (with_reducible refine Kd.C_drewN ?_ _) | (with_reducible refine Kd.C_drew ?_))); (case side4 => exact (Kd.R_reads' HO_730002.out).2.1); rintro e w48 ⟨rfl, hb⟩; have n0_ := Aside0.mk (Kd.R_below (by (with_reducible repeat (first | apply Kd.R_alloc | apply Kd.R_drewN | apply Kd.R_drew)); exact HO_6.out) hb); have n1_ := Aside0.mk (Kd.S_below (by (with_reducible repeat (first | apply Kd.S_alloc | apply Kd.S_drewN | apply Kd.S_drew)); exact HO_730001.out) hb); have n2_ := Aside0.mk (Kd.R_below (by (with_reducible repeat (first | apply Kd.R_alloc | apply Kd.R_drewN | apply Kd.R_drew)); exact HO_730002.out) hb); have n3_ := Aside0.mk (blk_below (g := gb729) (o := .cells #[.int .i64 t718, .slice Ao15 t719.length co15, .slice Ao16 t722.length co16, .int .i64 t725, .int .i64 t726, .int .i64 t727, .int .i64 t728] 45 (0, 0)) (by (with_reducible repeat (first | refine blk_drewN ?_ _ | refine blk_drew ?_ | refine blk_alloc ?_ _)); exact BK729.out) hb); have n4_ := Aside0.mk (below_step (by with_reducible repeat (first | exact HB.out | apply below_alloc | apply pw_below_drewN | apply below_drew1 | refine below_set ?_ GE729.out)) hb); clear HO_6; clear HO_730001; clear HO_730002; clear BK729; clear HB; have HO_6 := n0_; have HO_730001 := n1_; have HO_730002 := n2_; have BK729 := n3_; have HB := n4_; clear n0_ n1_ n2_ n3_ n4_; (try clear hb); (try clear hb2); (try clear hk); (try clear hi); have p743 : 0 ≤ (x17_3 : Int) := of_decide_eq_true (by with_reducible assumption); have q743 : x17_3 < (t730.length : Int) := of_decide_eq_true (by with_reducible assumption); obtain ⟨ad743, e743, hx743_0⟩ := Kd.at_int (Kd.R_reads' HO_6.out).2.2 x17_3 p743 q743; cases e743; replace p743 := eq_true p743; replace q743 := eq_true q743; have p744 : 0 ≤ (x16_2 : Int) := of_decide_eq_true (by with_reducible assumption); have q744 : x16_2 < (t730.length : Int) := of_decide_eq_true (by with_reducible assumption); obtain ⟨ad744, e744, hx744_0⟩ := Kd.at_int (Kd.R_reads' HO_6.out).2.2 x16_2 p744 q744; obtain rfl : ad743 = ad744 := (by injection e744); replace p744 := eq_true p744; replace q744 := eq_true q744; have hcz49_0 : w48.cell? ⟨gb729, 0, none⟩ = some (.int .i64 t718) := (blk_cell BK729.out 0).trans rfl; have hcz49_1 : w48.cell? ⟨gb729, 1, none⟩ = some (.slice Ao15 t719.length co15) := (blk_cell BK729.out 1).trans rfl; have hcz49_2 : w48.cell? ⟨gb729, 2, none⟩ = some (.slice Ao16 t722.length co16) := (blk_cell BK729.out 2).trans rfl; have hcz49_3 : w48.cell? ⟨gb729, 3, none⟩ = some (.int .i64 t725) := (blk_cell BK729.out 3).trans rfl; have hcz49_4 : w48.cell? ⟨gb729, 4, none⟩ = some (.int .i64 t726) := (blk_cell BK729.out 4).trans rfl; have hcz49_5 : w48.cell? ⟨gb729, 5, none⟩ = some (.int .i64 t727) := (blk_cell BK729.out 5).trans rfl; have hcz49_6 : w48.cell? ⟨gb729, 6, none⟩ = some (.int .i64 t728) := (blk_cell BK729.out 6).trans rfl; have hfz49_0 := blk_frozen BK729.out 0; have hfz49_1 := blk_frozen BK729.out 1; have hfz49_2 := blk_frozen BK729.out 2; have hfz49_3 := blk_frozen BK729.out 3; have hfz49_4 := blk_frozen BK729.out 4; have hfz49_5 := blk_frozen BK729.out 5; have hfz49_6 := blk_frozen BK729.out 6; have p745 : 0 ≤ (x16_2 : Int) := of_decide_eq_true (by with_reducible assumption); have q745 : x16_2 < (t730.length : Int) := of_decide_eq_true (by with_reducible assumption); obtain ⟨ad745, e745, hx745_0⟩ := Kd.at_int (Kd.R_reads' HO_6.out).2.2 x16_2 p745 q745; obtain rfl : ad743 = ad745 := (by injection e745); replace p745 := eq_true p745; replace q745 := eq_true q745; have p746 : 0 ≤ (x17_3 : Int) := of_decide_eq_true (by with_reducible assumption); have q746 : x17_3 < (t730.length : Int) := of_decide_eq_true (by with_reducible assumption); obtain ⟨ad746, e746, hx746_0⟩ := Kd.at_int (Kd.R_reads' HO_6.out).2.2 x17_3 p746 q746; obtain rfl : ad743 = ad746 := (by injection e746); replace p746 := eq_true p746; replace q746 := eq_true q746)))
              go_roundg k3
              case measure => have := HJ10.out; have := HK2.out; have := HK3.out; omega
              case rel => exact ⟨(x14_3), (wrap64 ((wrap64 ((wrap64 (t740 + (rd t730 x16_2))) - (rd t730 x17_3))) - t726)), (wrap64 (x17_3 + 1)), (by first | rfl | (simp; done) | (simp [*]; done)), (by first | rfl | (simp; done) | (simp [*]; done)), (by first | rfl | (simp; done) | (simp [*]; done)), H', ⟨by have := HJ10.out; have := HK2.out; have := HK3.out; omega⟩, ⟨by (with_reducible repeat (first | apply Kd.R_alloc | apply Kd.R_drewN | apply Kd.R_drew)); exact HO_6.out⟩, ⟨by (with_reducible repeat (first | apply Kd.S_alloc | apply Kd.S_drewN | apply Kd.S_drew)); exact HO_730001.out⟩, ⟨by (with_reducible repeat (first | apply Kd.R_alloc | apply Kd.R_drewN | apply Kd.R_drew)); exact HO_730002.out⟩, ⟨by (with_reducible repeat (first | refine blk_drewN ?_ _ | refine blk_drew ?_ | refine blk_alloc ?_ _)); exact BK729.out⟩, ⟨by with_reducible repeat (first | exact HB.out | apply below_alloc | apply pw_below_drewN | apply below_drew1 | refine below_set ?_ GE729.out)⟩⟩
             ·rw [if_neg c46] at H
              have c46b0 : decide ((wrap64 ((wrap64 ((wrap64 (t740 + (rd t730 x16_2))) - (rd t730 x17_3))) - t726)) < x15_3) = false := decide_eq_false c46
              clear c46
              have H' := Aside0.mk H
              clear H
              have hcz50_0 : wr.cell? ⟨gb729, 0, none⟩ = some (.int .i64 t718) := (blk_cell BK729.out 0).trans rfl
              have hcz50_1 : wr.cell? ⟨gb729, 1, none⟩ = some (.slice Ao15 t719.length co15) := (blk_cell BK729.out 1).trans rfl
              have hcz50_2 : wr.cell? ⟨gb729, 2, none⟩ = some (.slice Ao16 t722.length co16) := (blk_cell BK729.out 2).trans rfl
              have hcz50_3 : wr.cell? ⟨gb729, 3, none⟩ = some (.int .i64 t725) := (blk_cell BK729.out 3).trans rfl
              have hcz50_4 : wr.cell? ⟨gb729, 4, none⟩ = some (.int .i64 t726) := (blk_cell BK729.out 4).trans rfl
              have hcz50_5 : wr.cell? ⟨gb729, 5, none⟩ = some (.int .i64 t727) := (blk_cell BK729.out 5).trans rfl
              have hcz50_6 : wr.cell? ⟨gb729, 6, none⟩ = some (.int .i64 t728) := (blk_cell BK729.out 6).trans rfl
              have hfz50_0 := blk_frozen BK729.out 0
              have hfz50_1 := blk_frozen BK729.out 1
              have hfz50_2 := blk_frozen BK729.out 2
              have hfz50_3 := blk_frozen BK729.out 3
              have hfz50_4 := blk_frozen BK729.out 4
              have hfz50_5 := blk_frozen BK729.out 5
              have hfz50_6 := blk_frozen BK729.out 6
              go_wp2_with (first | (go_at_call 31; (with_reducible refine (spec_PathDelays.calls k3 t718 _ _ t719 _ _ t722 t725 t726 t727 t728 x16_2 x17_3 t740 t741 true _ ?side1 ?side2 ?side3 ?side4 A32.out).mono ?_); (case side1 => repeat (first | exact (Kd.S_reads' HO_730001.out).2.2 | (with_reducible refine Kd.C_alloc ?_ _) | (with_reducible refine Kd.C_drewN ?_ _) | (with_reducible refine Kd.C_drew ?_))); (case side2 => exact (Kd.S_reads' HO_730001.out).2.1); (case side3 => repeat (first | exact (Kd.R_reads' HO_730002.out).2.2 | (with_reducible refine Kd.C_alloc ?_ _) | (with_reducible refine Kd.C_drewN ?_ _) | (with_reducible refine Kd.C_drew ?_))); (case side4 => exact (Kd.R_reads' HO_730002.out).2.1); rintro e w51 ⟨rfl, hb⟩; have n0_ := Aside0.mk (Kd.R_below (by (with_reducible repeat (first | apply Kd.R_alloc | apply Kd.R_drewN | apply Kd.R_drew)); exact HO_6.out) hb); have n1_ := Aside0.mk (Kd.S_below (by (with_reducible repeat (first | apply Kd.S_alloc | apply Kd.S_drewN | apply Kd.S_drew)); exact HO_730001.out) hb); have n2_ := Aside0.mk (Kd.R_below (by (with_reducible repeat (first | apply Kd.R_alloc | apply Kd.R_drewN | apply Kd.R_drew)); exact HO_730002.out) hb); have n3_ := Aside0.mk (blk_below (g := gb729) (o := .cells #[.int .i64 t718, .slice Ao15 t719.length co15, .slice Ao16 t722.length co16, .int .i64 t725, .int .i64 t726, .int .i64 t727, .int .i64 t728] 45 (0, 0)) (by (with_reducible repeat (first | refine blk_drewN ?_ _ | refine blk_drew ?_ | refine blk_alloc ?_ _)); exact BK729.out) hb); have n4_ := Aside0.mk (below_step (by with_reducible repeat (first | exact HB.out | apply below_alloc | apply pw_below_drewN | apply below_drew1 | refine below_set ?_ GE729.out)) hb); clear HO_6; clear HO_730001; clear HO_730002; clear BK729; clear HB; have HO_6 := n0_; have HO_730001 := n1_; have HO_730002 := n2_; have BK729 := n3_; have HB := n4_; clear n0_ n1_ n2_ n3_ n4_; (try clear hb); (try clear hb2); (try clear hk); (try clear hi); have p743 : 0 ≤ (x17_3 : Int) := of_decide_eq_true (by with_reducible assumption); have q743 : x17_3 < (t730.length : Int) := of_decide_eq_true (by with_reducible assumption); obtain ⟨ad743, e743, hx743_0⟩ := Kd.at_int (Kd.R_reads' HO_6.out).2.2 x17_3 p743 q743; cases e743; replace p743 := eq_true p743; replace q743 := eq_true q743; have p744 : 0 ≤ (x16_2 : Int) := of_decide_eq_true (by with_reducible assumption); have q744 : x16_2 < (t730.length : Int) := of_decide_eq_true (by with_reducible assumption); obtain ⟨ad744, e744, hx744_0⟩ := Kd.at_int (Kd.R_reads' HO_6.out).2.2 x16_2 p744 q744; obtain rfl : ad743 = ad744 := (by injection e744); replace p744 := eq_true p744; replace q744 := eq_true q744; have hcz52_0 : w51.cell? ⟨gb729, 0, none⟩ = some (.int .i64 t718) := (blk_cell BK729.out 0).trans rfl; have hcz52_1 : w51.cell? ⟨gb729, 1, none⟩ = some (.slice Ao15 t719.length co15) := (blk_cell BK729.out 1).trans rfl; have hcz52_2 : w51.cell? ⟨gb729, 2, none⟩ = some (.slice Ao16 t722.length co16) := (blk_cell BK729.out 2).trans rfl; have hcz52_3 : w51.cell? ⟨gb729, 3, none⟩ = some (.int .i64 t725) := (blk_cell BK729.out 3).trans rfl; have hcz52_4 : w51.cell? ⟨gb729, 4, none⟩ = some (.int .i64 t726) := (blk_cell BK729.out 4).trans rfl; have hcz52_5 : w51.cell? ⟨gb729, 5, none⟩ = some (.int .i64 t727) := (blk_cell BK729.out 5).trans rfl; have hcz52_6 : w51.cell? ⟨gb729, 6, none⟩ = some (.int .i64 t728) := (blk_cell BK729.out 6).trans rfl; have hfz52_0 := blk_frozen BK729.out 0; have hfz52_1 := blk_frozen BK729.out 1; have hfz52_2 := blk_frozen BK729.out 2; have hfz52_3 := blk_frozen BK729.out 3; have hfz52_4 := blk_frozen BK729.out 4; have hfz52_5 := blk_frozen BK729.out 5; have hfz52_6 := blk_frozen BK729.out 6; have p745 : 0 ≤ (x16_2 : Int) := of_decide_eq_true (by with_reducible assumption); have q745 : x16_2 < (t730.length : Int) := of_decide_eq_true (by with_reducible assumption); obtain ⟨ad745, e745, hx745_0⟩ := Kd.at_int (Kd.R_reads' HO_6.out).2.2 x16_2 p745 q745; obtain rfl : ad743 = ad745 := (by injection e745); replace p745 := eq_true p745; replace q745 := eq_true q745; have p746 : 0 ≤ (x17_3 : Int) := of_decide_eq_true (by with_reducible assumption); have q746 : x17_3 < (t730.length : Int) := of_decide_eq_true (by with_reducible assumption); obtain ⟨ad746, e746, hx746_0⟩ := Kd.at_int (Kd.R_reads' HO_6.out).2.2 x17_3 p746 q746; obtain rfl : ad743 = ad746 := (by injection e746); replace p746 := eq_true p746; replace q746 := eq_true q746))
              repeat (go_quiet ((go_at_call 31; (with_reducible refine (spec_PathDelays.calls k3 t718 _ _ t719 _ _ t722 t725 t726 t727 t728 x16_2 x17_3 t740 t741 true _ ?side1 ?side2 ?side3 ?side4 A32.out).mono ?_); (case side1 => repeat (first | exact (Kd.S_reads' HO_730001.out).2.2 | (with_reducible refine Kd.C_alloc ?_ _) | (with_reducible refine Kd.C_drewN ?_ _) | (with_reducible refine Kd.C_drew ?_))); (case side2 => exact (Kd.S_reads' HO_730001.out).2.1); (case side3 => repeat (first | exact (Kd.R_reads' HO_730002.out).2.2 | (with_reducible refine Kd.C_alloc ?_ _) | (with_reducible refine Kd.C_drewN ?_ _) | (with_reducible refine Kd.C_drew ?_))); (case side4 => exact (Kd.R_reads' HO_730002.out).2.1); rintro e w51 ⟨rfl, hb⟩; have n0_ := Aside0.mk (Kd.R_below (by (with_reducible repeat (first | apply Kd.R_alloc | apply Kd.R_drewN | apply Kd.R_drew)); exact HO_6.out) hb); have n1_ := Aside0.mk (Kd.S_below (by (with_reducible repeat (first | apply Kd.S_alloc | apply Kd.S_drewN | apply Kd.S_drew)); exact HO_730001.out) hb); have n2_ := Aside0.mk (Kd.R_below (by (with_reducible repeat (first | apply Kd.R_alloc | apply Kd.R_drewN | apply Kd.R_drew)); exact HO_730002.out) hb); have n3_ := Aside0.mk (blk_below (g := gb729) (o := .cells #[.int .i64 t718, .slice Ao15 t719.length co15, .slice Ao16 t722.length co16, .int .i64 t725, .int .i64 t726, .int .i64 t727, .int .i64 t728] 45 (0, 0)) (by (with_reducible repeat (first | refine blk_drewN ?_ _ | refine blk_drew ?_ | refine blk_alloc ?_ _)); exact BK729.out) hb); have n4_ := Aside0.mk (below_step (by with_reducible repeat (first | exact HB.out | apply below_alloc | apply pw_below_drewN | apply below_drew1 | refine below_set ?_ GE729.out)) hb); clear HO_6; clear HO_730001; clear HO_730002; clear BK729; clear HB; have HO_6 := n0_; have HO_730001 := n1_; have HO_730002 := n2_; have BK729 := n3_; have HB := n4_; clear n0_ n1_ n2_ n3_ n4_; (try clear hb); (try clear hb2); (try clear hk); (try clear hi); have p743 : 0 ≤ (x17_3 : Int) := of_decide_eq_true (by with_reducible assumption); have q743 : x17_3 < (t730.length : Int) := of_decide_eq_true (by with_reducible assumption); obtain ⟨ad743, e743, hx743_0⟩ := Kd.at_int (Kd.R_reads' HO_6.out).2.2 x17_3 p743 q743; cases e743; replace p743 := eq_true p743; replace q743 := eq_true q743; have p744 : 0 ≤ (x16_2 : Int) := of_decide_eq_true (by with_reducible assumption); have q744 : x16_2 < (t730.length : Int) := of_decide_eq_true (by with_reducible assumption); obtain ⟨ad744, e744, hx744_0⟩ := Kd.at_int (Kd.R_reads' HO_6.out).2.2 x16_2 p744 q744; obtain rfl : ad743 = ad744 := (by injection e744); replace p744 := eq_true p744; replace q744 := eq_true q744; have hcz52_0 : w51.cell? ⟨gb729, 0, none⟩ = some (.int .i64 t718) := (blk_cell BK729.out 0).trans rfl; have hcz52_1 : w51.cell? ⟨gb729, 1, none⟩ = some (.slice Ao15 t719.length co15) := (blk_cell BK729.out 1).trans rfl; have hcz52_2 : w51.cell? ⟨gb729, 2, none⟩ = some (.slice Ao16 t722.length co16) := (blk_cell BK729.out 2).trans rfl; have hcz52_3 : w51.cell? ⟨gb729, 3, none⟩ = some (.int .i64 t725) := (blk_cell BK729.out 3).trans rfl; have hcz52_4 : w51.cell? ⟨gb729, 4, none⟩ = some (.int .i64 t726) := (blk_cell BK729.out 4).trans rfl; have hcz52_5 : w51.cell? ⟨gb729, 5, none⟩ = some (.int .i64 t727) := (blk_cell BK729.out 5).trans rfl; have hcz52_6 : w51.cell? ⟨gb729, 6, none⟩ = some (.int .i64 t728) := (blk_cell BK729.out 6).trans rfl; have hfz52_0 := blk_frozen BK729.out 0; have hfz52_1 := blk_frozen BK729.out 1; have hfz52_2 := blk_frozen BK729.out 2; have hfz52_3 := blk_frozen BK729.out 3; have hfz52_4 := blk_frozen BK729.out 4; have hfz52_5 := blk_frozen BK729.out 5; have hfz52_6 := blk_frozen BK729.out 6; have p745 : 0 ≤ (x16_2 : Int) := of_decide_eq_true (by with_reducible assumption); have q745 : x16_2 < (t730.length : Int) := of_decide_eq_true (by with_reducible assumption); obtain ⟨ad745, e745, hx745_0⟩ := Kd.at_int (Kd.R_reads' HO_6.out).2.2 x16_2 p745 q745; obtain rfl : ad743 = ad745 := (by injection e745); replace p745 := eq_true p745; replace q745 := eq_true q745; have p746 : 0 ≤ (x17_3 : Int) := of_decide_eq_true (by with_reducible assumption); have q746 : x17_3 < (t730.length : Int) := of_decide_eq_true (by with_reducible assumption); obtain ⟨ad746, e746, hx746_0⟩ := Kd.at_int (Kd.R_reads' HO_6.out).2.2 x17_3 p746 q746; obtain rfl : ad743 = ad746 := (by injection e746); replace p746 := eq_true p746; replace q746 := eq_true q746)); try go_wp2_with (first | (go_at_call 31; (with_reducible refine (spec_PathDelays.calls k3 t718 _ _ t719 _ _ t722 t725 t726 t727 t728 x16_2 x17_3 t740 t741 true _ ?side1 ?side2 ?side3 ?side4 A32.out).mono ?_); (case side1 => repeat (first | exact (Kd.S_reads' HO_730001.out).2.2 | (with_reducible refine Kd.C_alloc ?_ _) | (with_reducible refine Kd.C_drewN ?_ _) | (with_reducible refine Kd.C_drew ?_))); (case side2 => exact (Kd.S_reads' HO_730001.out).2.1); (case side3 => repeat (first | exact (Kd.R_reads' HO_730002.out).2.2 | (with_reducible refine Kd.C_alloc ?_ _) | (with_reducible refine Kd.C_drewN ?_ _) | (with_reducible refine Kd.C_drew ?_))); (case side4 => exact (Kd.R_reads' HO_730002.out).2.1); rintro e w51 ⟨rfl, hb⟩; have n0_ := Aside0.mk (Kd.R_below (by (with_reducible repeat (first | apply Kd.R_alloc | apply Kd.R_drewN | apply Kd.R_drew)); exact HO_6.out) hb); have n1_ := Aside0.mk (Kd.S_below (by (with_reducible repeat (first | apply Kd.S_alloc | apply Kd.S_drewN | apply Kd.S_drew)); exact HO_730001.out) hb); have n2_ := Aside0.mk (Kd.R_below (by (with_reducible repeat (first | apply Kd.R_alloc | apply Kd.R_drewN | apply Kd.R_drew)); exact HO_730002.out) hb); have n3_ := Aside0.mk (blk_below (g := gb729) (o := .cells #[.int .i64 t718, .slice Ao15 t719.length co15, .slice Ao16 t722.length co16, .int .i64 t725, .int .i64 t726, .int .i64 t727, .int .i64 t728] 45 (0, 0)) (by (with_reducible repeat (first | refine blk_drewN ?_ _ | refine blk_drew ?_ | refine blk_alloc ?_ _)); exact BK729.out) hb); have n4_ := Aside0.mk (below_step (by with_reducible repeat (first | exact HB.out | apply below_alloc | apply pw_below_drewN | apply below_drew1 | refine below_set ?_ GE729.out)) hb); clear HO_6; clear HO_730001; clear HO_730002; clear BK729; clear HB; have HO_6 := n0_; have HO_730001 := n1_; have HO_730002 := n2_; have BK729 := n3_; have HB := n4_; clear n0_ n1_ n2_ n3_ n4_; (try clear hb); (try clear hb2); (try clear hk); (try clear hi); have p743 : 0 ≤ (x17_3 : Int) := of_decide_eq_true (by with_reducible assumption); have q743 : x17_3 < (t730.length : Int) := of_decide_eq_true (by with_reducible assumption); obtain ⟨ad743, e743, hx743_0⟩ := Kd.at_int (Kd.R_reads' HO_6.out).2.2 x17_3 p743 q743; cases e743; replace p743 := eq_true p743; replace q743 := eq_true q743; have p744 : 0 ≤ (x16_2 : Int) := of_decide_eq_true (by with_reducible assumption); have q744 : x16_2 < (t730.length : Int) := of_decide_eq_true (by with_reducible assumption); obtain ⟨ad744, e744, hx744_0⟩ := Kd.at_int (Kd.R_reads' HO_6.out).2.2 x16_2 p744 q744; obtain rfl : ad743 = ad744 := (by injection e744); replace p744 := eq_true p744; replace q744 := eq_true q744; have hcz52_0 : w51.cell? ⟨gb729, 0, none⟩ = some (.int .i64 t718) := (blk_cell BK729.out 0).trans rfl; have hcz52_1 : w51.cell? ⟨gb729, 1, none⟩ = some (.slice Ao15 t719.length co15) := (blk_cell BK729.out 1).trans rfl; have hcz52_2 : w51.cell? ⟨gb729, 2, none⟩ = some (.slice Ao16 t722.length co16) := (blk_cell BK729.out 2).trans rfl; have hcz52_3 : w51.cell? ⟨gb729, 3, none⟩ = some (.int .i64 t725) := (blk_cell BK729.out 3).trans rfl; have hcz52_4 : w51.cell? ⟨gb729, 4, none⟩ = some (.int .i64 t726) := (blk_cell BK729.out 4).trans rfl; have hcz52_5 : w51.cell? ⟨gb729, 5, none⟩ = some (.int .i64 t727) := (blk_cell BK729.out 5).trans rfl; have hcz52_6 : w51.cell? ⟨gb729, 6, none⟩ = some (.int .i64 t728) := (blk_cell BK729.out 6).trans rfl; have hfz52_0 := blk_frozen BK729.out 0; have hfz52_1 := blk_frozen BK729.out 1; have hfz52_2 := blk_frozen BK729.out 2; have hfz52_3 := blk_frozen BK729.out 3; have hfz52_4 := blk_frozen BK729.out 4; have hfz52_5 := blk_frozen BK729.out 5; have hfz52_6 := blk_frozen BK729.out 6; have p745 : 0 ≤ (x16_2 : Int) := of_decide_eq_true (by with_reducible assumption); have q745 : x16_2 < (t730.length : Int) := of_decide_eq_true (by with_reducible assumption); obtain ⟨ad745, e745, hx745_0⟩ := Kd.at_int (Kd.R_reads' HO_6.out).2.2 x16_2 p745 q745; obtain rfl : ad743 = ad745 := (by injection e745); replace p745 := eq_true p745; replace q745 := eq_true q745; have p746 : 0 ≤ (x17_3 : Int) := of_decide_eq_true (by with_reducible assumption); have q746 : x17_3 < (t730.length : Int) := of_decide_eq_true (by with_reducible assumption); obtain ⟨ad746, e746, hx746_0⟩ := Kd.at_int (Kd.R_reads' HO_6.out).2.2 x17_3 p746 q746; obtain rfl : ad743 = ad746 := (by injection e746); replace p746 := eq_true p746; replace q746 := eq_true q746)))
              go_roundg k3
              case measure => have := HJ10.out; have := HK2.out; have := HK3.out; omega
              case rel => exact ⟨(x14_3), (x15_3), (wrap64 (x17_3 + 1)), (by first | rfl | (simp; done) | (simp [*]; done)), (by first | rfl | (simp; done) | (simp [*]; done)), (by first | rfl | (simp; done) | (simp [*]; done)), H', ⟨by have := HJ10.out; have := HK2.out; have := HK3.out; omega⟩, ⟨by (with_reducible repeat (first | apply Kd.R_alloc | apply Kd.R_drewN | apply Kd.R_drew)); exact HO_6.out⟩, ⟨by (with_reducible repeat (first | apply Kd.S_alloc | apply Kd.S_drewN | apply Kd.S_drew)); exact HO_730001.out⟩, ⟨by (with_reducible repeat (first | apply Kd.R_alloc | apply Kd.R_drewN | apply Kd.R_drew)); exact HO_730002.out⟩, ⟨by (with_reducible repeat (first | refine blk_drewN ?_ _ | refine blk_drew ?_ | refine blk_alloc ?_ _)); exact BK729.out⟩, ⟨by with_reducible repeat (first | exact HB.out | apply below_alloc | apply pw_below_drewN | apply below_drew1 | refine below_set ?_ GE729.out)⟩⟩
           ·replace c33 := Bool.eq_false_iff.mpr c33
            subst c33
            rw [if_neg (by decide)] at H
            have H' := Aside0.mk H
            clear H
            have hcz53_0 : wr.cell? ⟨gb729, 0, none⟩ = some (.int .i64 t718) := (blk_cell BK729.out 0).trans rfl
            have hcz53_1 : wr.cell? ⟨gb729, 1, none⟩ = some (.slice Ao15 t719.length co15) := (blk_cell BK729.out 1).trans rfl
            have hcz53_2 : wr.cell? ⟨gb729, 2, none⟩ = some (.slice Ao16 t722.length co16) := (blk_cell BK729.out 2).trans rfl
            have hcz53_3 : wr.cell? ⟨gb729, 3, none⟩ = some (.int .i64 t725) := (blk_cell BK729.out 3).trans rfl
            have hcz53_4 : wr.cell? ⟨gb729, 4, none⟩ = some (.int .i64 t726) := (blk_cell BK729.out 4).trans rfl
            have hcz53_5 : wr.cell? ⟨gb729, 5, none⟩ = some (.int .i64 t727) := (blk_cell BK729.out 5).trans rfl
            have hcz53_6 : wr.cell? ⟨gb729, 6, none⟩ = some (.int .i64 t728) := (blk_cell BK729.out 6).trans rfl
            have hfz53_0 := blk_frozen BK729.out 0
            have hfz53_1 := blk_frozen BK729.out 1
            have hfz53_2 := blk_frozen BK729.out 2
            have hfz53_3 := blk_frozen BK729.out 3
            have hfz53_4 := blk_frozen BK729.out 4
            have hfz53_5 := blk_frozen BK729.out 5
            have hfz53_6 := blk_frozen BK729.out 6
            go_wp2_with (first | (go_at_call 31; (with_reducible refine (spec_PathDelays.calls k3 t718 _ _ t719 _ _ t722 t725 t726 t727 t728 x16_2 x17_3 t740 t741 false _ ?side1 ?side2 ?side3 ?side4 A32.out).mono ?_); (case side1 => repeat (first | exact (Kd.S_reads' HO_730001.out).2.2 | (with_reducible refine Kd.C_alloc ?_ _) | (with_reducible refine Kd.C_drewN ?_ _) | (with_reducible refine Kd.C_drew ?_))); (case side2 => exact (Kd.S_reads' HO_730001.out).2.1); (case side3 => repeat (first | exact (Kd.R_reads' HO_730002.out).2.2 | (with_reducible refine Kd.C_alloc ?_ _) | (with_reducible refine Kd.C_drewN ?_ _) | (with_reducible refine Kd.C_drew ?_))); (case side4 => exact (Kd.R_reads' HO_730002.out).2.1); rintro e w54 ⟨rfl, hb⟩; have n0_ := Aside0.mk (Kd.R_below (by (with_reducible repeat (first | apply Kd.R_alloc | apply Kd.R_drewN | apply Kd.R_drew)); exact HO_6.out) hb); have n1_ := Aside0.mk (Kd.S_below (by (with_reducible repeat (first | apply Kd.S_alloc | apply Kd.S_drewN | apply Kd.S_drew)); exact HO_730001.out) hb); have n2_ := Aside0.mk (Kd.R_below (by (with_reducible repeat (first | apply Kd.R_alloc | apply Kd.R_drewN | apply Kd.R_drew)); exact HO_730002.out) hb); have n3_ := Aside0.mk (blk_below (g := gb729) (o := .cells #[.int .i64 t718, .slice Ao15 t719.length co15, .slice Ao16 t722.length co16, .int .i64 t725, .int .i64 t726, .int .i64 t727, .int .i64 t728] 45 (0, 0)) (by (with_reducible repeat (first | refine blk_drewN ?_ _ | refine blk_drew ?_ | refine blk_alloc ?_ _)); exact BK729.out) hb); have n4_ := Aside0.mk (below_step (by with_reducible repeat (first | exact HB.out | apply below_alloc | apply pw_below_drewN | apply below_drew1 | refine below_set ?_ GE729.out)) hb); clear HO_6; clear HO_730001; clear HO_730002; clear BK729; clear HB; have HO_6 := n0_; have HO_730001 := n1_; have HO_730002 := n2_; have BK729 := n3_; have HB := n4_; clear n0_ n1_ n2_ n3_ n4_; (try clear hb); (try clear hb2); (try clear hk); (try clear hi)))
            repeat (go_quiet ((go_at_call 31; (with_reducible refine (spec_PathDelays.calls k3 t718 _ _ t719 _ _ t722 t725 t726 t727 t728 x16_2 x17_3 t740 t741 false _ ?side1 ?side2 ?side3 ?side4 A32.out).mono ?_); (case side1 => repeat (first | exact (Kd.S_reads' HO_730001.out).2.2 | (with_reducible refine Kd.C_alloc ?_ _) | (with_reducible refine Kd.C_drewN ?_ _) | (with_reducible refine Kd.C_drew ?_))); (case side2 => exact (Kd.S_reads' HO_730001.out).2.1); (case side3 => repeat (first | exact (Kd.R_reads' HO_730002.out).2.2 | (with_reducible refine Kd.C_alloc ?_ _) | (with_reducible refine Kd.C_drewN ?_ _) | (with_reducible refine Kd.C_drew ?_))); (case side4 => exact (Kd.R_reads' HO_730002.out).2.1); rintro e w54 ⟨rfl, hb⟩; have n0_ := Aside0.mk (Kd.R_below (by (with_reducible repeat (first | apply Kd.R_alloc | apply Kd.R_drewN | apply Kd.R_drew)); exact HO_6.out) hb); have n1_ := Aside0.mk (Kd.S_below (by (with_reducible repeat (first | apply Kd.S_alloc | apply Kd.S_drewN | apply Kd.S_drew)); exact HO_730001.out) hb); have n2_ := Aside0.mk (Kd.R_below (by (with_reducible repeat (first | apply Kd.R_alloc | apply Kd.R_drewN | apply Kd.R_drew)); exact HO_730002.out) hb); have n3_ := Aside0.mk (blk_below (g := gb729) (o := .cells #[.int .i64 t718, .slice Ao15 t719.length co15, .slice Ao16 t722.length co16, .int .i64 t725, .int .i64 t726, .int .i64 t727, .int .i64 t728] 45 (0, 0)) (by (with_reducible repeat (first | refine blk_drewN ?_ _ | refine blk_drew ?_ | refine blk_alloc ?_ _)); exact BK729.out) hb); have n4_ := Aside0.mk (below_step (by with_reducible repeat (first | exact HB.out | apply below_alloc | apply pw_below_drewN | apply below_drew1 | refine below_set ?_ GE729.out)) hb); clear HO_6; clear HO_730001; clear HO_730002; clear BK729; clear HB; have HO_6 := n0_; have HO_730001 := n1_; have HO_730002 := n2_; have BK729 := n3_; have HB := n4_; clear n0_ n1_ n2_ n3_ n4_; (try clear hb); (try clear hb2); (try clear hk); (try clear hi))); try go_wp2_with (first | (go_at_call 31; (with_reducible refine (spec_PathDelays.calls k3 t718 _ _ t719 _ _ t722 t725 t726 t727 t728 x16_2 x17_3 t740 t741 false _ ?side1 ?side2 ?side3 ?side4 A32.out).mono ?_); (case side1 => repeat (first | exact (Kd.S_reads' HO_730001.out).2.2 | (with_reducible refine Kd.C_alloc ?_ _) | (with_reducible refine Kd.C_drewN ?_ _) | (with_reducible refine Kd.C_drew ?_))); (case side2 => exact (Kd.S_reads' HO_730001.out).2.1); (case side3 => repeat (first | exact (Kd.R_reads' HO_730002.out).2.2 | (with_reducible refine Kd.C_alloc ?_ _) | (with_reducible refine Kd.C_drewN ?_ _) | (with_reducible refine Kd.C_drew ?_))); (case side4 => exact (Kd.R_reads' HO_730002.out).2.1); rintro e w54 ⟨rfl, hb⟩; have n0_ := Aside0.mk (Kd.R_below (by (with_reducible repeat (first | apply Kd.R_alloc | apply Kd.R_drewN | apply Kd.R_drew)); exact HO_6.out) hb); have n1_ := Aside0.mk (Kd.S_below (by (with_reducible repeat (first | apply Kd.S_alloc | apply Kd.S_drewN | apply Kd.S_drew)); exact HO_730001.out) hb); have n2_ := Aside0.mk (Kd.R_below (by (with_reducible repeat (first | apply Kd.R_alloc | apply Kd.R_drewN | apply Kd.R_drew)); exact HO_730002.out) hb); have n3_ := Aside0.mk (blk_below (g := gb729) (o := .cells #[.int .i64 t718, .slice Ao15 t719.length co15, .slice Ao16 t722.length co16, .int .i64 t725, .int .i64 t726, .int .i64 t727, .int .i64 t728] 45 (0, 0)) (by (with_reducible repeat (first | refine blk_drewN ?_ _ | refine blk_drew ?_ | refine blk_alloc ?_ _)); exact BK729.out) hb); have n4_ := Aside0.mk (below_step (by with_reducible repeat (first | exact HB.out | apply below_alloc | apply pw_below_drewN | apply below_drew1 | refine below_set ?_ GE729.out)) hb); clear HO_6; clear HO_730001; clear HO_730002; clear BK729; clear HB; have HO_6 := n0_; have HO_730001 := n1_; have HO_730002 := n2_; have BK729 := n3_; have HB := n4_; clear n0_ n1_ n2_ n3_ n4_; (try clear hb); (try clear hb2); (try clear hk); (try clear hi))))
            go_roundg k3
            case measure => have := HJ10.out; have := HK2.out; have := HK3.out; omega
            case rel => exact ⟨(x14_3), (x15_3), (wrap64 (x17_3 + 1)), (by first | rfl | (simp; done) | (simp [*]; done)), (by first | rfl | (simp; done) | (simp [*]; done)), (by first | rfl | (simp; done) | (simp [*]; done)), H', ⟨by have := HJ10.out; have := HK2.out; have := HK3.out; omega⟩, ⟨by (with_reducible repeat (first | apply Kd.R_alloc | apply Kd.R_drewN | apply Kd.R_drew)); exact HO_6.out⟩, ⟨by (with_reducible repeat (first | apply Kd.S_alloc | apply Kd.S_drewN | apply Kd.S_drew)); exact HO_730001.out⟩, ⟨by (with_reducible repeat (first | apply Kd.R_alloc | apply Kd.R_drewN | apply Kd.R_drew)); exact HO_730002.out⟩, ⟨by (with_reducible repeat (first | refine blk_drewN ?_ _ | refine blk_drew ?_ | refine blk_alloc ?_ _)); exact BK729.out⟩, ⟨by with_reducible repeat (first | exact HB.out | apply below_alloc | apply pw_below_drewN | apply below_drew1 | refine below_set ?_ GE729.out)⟩⟩
          ·rw [if_neg c31] at H
           have c31b0 : decide (x17_3 < t718) = false := decide_eq_false c31
           clear c31
           have H' := Aside0.mk H
           clear H
           have hcz55_0 : wr.cell? ⟨gb729, 0, none⟩ = some (.int .i64 t718) := (blk_cell BK729.out 0).trans rfl
           have hcz55_1 : wr.cell? ⟨gb729, 1, none⟩ = some (.slice Ao15 t719.length co15) := (blk_cell BK729.out 1).trans rfl
           have hcz55_2 : wr.cell? ⟨gb729, 2, none⟩ = some (.slice Ao16 t722.length co16) := (blk_cell BK729.out 2).trans rfl
           have hcz55_3 : wr.cell? ⟨gb729, 3, none⟩ = some (.int .i64 t725) := (blk_cell BK729.out 3).trans rfl
           have hcz55_4 : wr.cell? ⟨gb729, 4, none⟩ = some (.int .i64 t726) := (blk_cell BK729.out 4).trans rfl
           have hcz55_5 : wr.cell? ⟨gb729, 5, none⟩ = some (.int .i64 t727) := (blk_cell BK729.out 5).trans rfl
           have hcz55_6 : wr.cell? ⟨gb729, 6, none⟩ = some (.int .i64 t728) := (blk_cell BK729.out 6).trans rfl
           have hfz55_0 := blk_frozen BK729.out 0
           have hfz55_1 := blk_frozen BK729.out 1
           have hfz55_2 := blk_frozen BK729.out 2
           have hfz55_3 := blk_frozen BK729.out 3
           have hfz55_4 := blk_frozen BK729.out 4
           have hfz55_5 := blk_frozen BK729.out 5
           have hfz55_6 := blk_frozen BK729.out 6
           go_wp2
           repeat (go_quiet (fail); try go_wp2)
           go_roundg k3
           case measure => have := HJ10.out; have := HK2.out; have := HK3.out; omega
           case rel => exact ⟨(x14_3), (x15_3), (wrap64 (x16_2 + 1)), (by first | rfl | (simp; done) | (simp [*]; done)), (by first | rfl | (simp; done) | (simp [*]; done)), (by first | rfl | (simp; done) | (simp [*]; done)), H', ⟨by have := HJ10.out; have := HK2.out; have := HK3.out; omega⟩, ⟨by (with_reducible repeat (first | apply Kd.R_alloc | apply Kd.R_drewN | apply Kd.R_drew)); exact HO_6.out⟩, ⟨by (with_reducible repeat (first | apply Kd.S_alloc | apply Kd.S_drewN | apply Kd.S_drew)); exact HO_730001.out⟩, ⟨by (with_reducible repeat (first | apply Kd.R_alloc | apply Kd.R_drewN | apply Kd.R_drew)); exact HO_730002.out⟩, ⟨by (with_reducible repeat (first | refine blk_drewN ?_ _ | refine blk_drew ?_ | refine blk_alloc ?_ _)); exact BK729.out⟩, ⟨by with_reducible repeat (first | exact HB.out | apply below_alloc | apply pw_below_drewN | apply below_drew1 | refine below_set ?_ GE729.out)⟩⟩
       ·rw [if_neg c29] at H
        have c29b0 : decide (x16_2 < t718) = false := decide_eq_false c29
        clear c29
        have HC56 := Aside0.mk H
        clear H
        have hcz57_0 : wr.cell? ⟨gb729, 0, none⟩ = some (.int .i64 t718) := (blk_cell BK729.out 0).trans rfl
        have hcz57_1 : wr.cell? ⟨gb729, 1, none⟩ = some (.slice Ao15 t719.length co15) := (blk_cell BK729.out 1).trans rfl
        have hcz57_2 : wr.cell? ⟨gb729, 2, none⟩ = some (.slice Ao16 t722.length co16) := (blk_cell BK729.out 2).trans rfl
        have hcz57_3 : wr.cell? ⟨gb729, 3, none⟩ = some (.int .i64 t725) := (blk_cell BK729.out 3).trans rfl
        have hcz57_4 : wr.cell? ⟨gb729, 4, none⟩ = some (.int .i64 t726) := (blk_cell BK729.out 4).trans rfl
        have hcz57_5 : wr.cell? ⟨gb729, 5, none⟩ = some (.int .i64 t727) := (blk_cell BK729.out 5).trans rfl
        have hcz57_6 : wr.cell? ⟨gb729, 6, none⟩ = some (.int .i64 t728) := (blk_cell BK729.out 6).trans rfl
        have hfz57_0 := blk_frozen BK729.out 0
        have hfz57_1 := blk_frozen BK729.out 1
        have hfz57_2 := blk_frozen BK729.out 2
        have hfz57_3 := blk_frozen BK729.out 3
        have hfz57_4 := blk_frozen BK729.out 4
        have hfz57_5 := blk_frozen BK729.out 5
        have hfz57_6 := blk_frozen BK729.out 6
        go_upto_region 27 with (fail)
        repeat (go_quiet (fail); go_upto_region 27 with (fail))
        go_cut [148] (fun v148 wc => ∃ (kq : Nat) (x148_55 : Bool), v148 = .bool x148_55 ∧ Aside0 (laws_FnRooms.j3 kq t730 t736 t738 x148_55 t718 t719 t722 t725 t726 t727 t728 = some r) ∧ Aside0 (kq ≤ k2) ∧ Aside0 (Kd.R (Kd.int .i64) 2 wc w.heap.size (fun k_ => some k_ ≠ ((.slice Ao16 t722.length co16) : Value).ownBlock) (.slice Ao19 t730.length co19) t730) ∧ Aside0 (Kd.S k56 56 wc w.heap.size (fun k_ => some k_ ≠ ((.slice Ao19 t730.length co19) : Value).ownBlock ∧ some k_ ≠ ((.slice Ao16 t722.length co16) : Value).ownBlock) (.slice Ao15 t719.length co15) t719) ∧ Aside0 (Kd.R (Kd.int .i64) 2 wc w.heap.size (fun k_ => some k_ ≠ ((.slice Ao19 t730.length co19) : Value).ownBlock) (.slice Ao16 t722.length co16) t722) ∧ Aside0 (wc.heap[gb729]? = some (.cells #[.int .i64 t718, (.slice Ao15 t719.length co15), (.slice Ao16 t722.length co16), .int .i64 t725, .int .i64 t726, .int .i64 t727, .int .i64 t728] 45 (0, 0))) ∧ Aside0 (Below w.heap.size w wc))
        case first =>
         have H := HC56.out
         clear HC56
         by_cases c58 : t734 = x14_2
         ·rw [if_pos c58] at H
          have c58b0 : (t734 == x14_2) = true := beq_iff_eq.mpr c58
          have c58b1 : (t734 != x14_2) = false := bne_eq_false_iff_eq.mpr c58
          clear c58
          (first | rw [c58b0] | (simp only [i64_w, i32_w]; rw [c58b0]) | skip)
          by_cases c59 : t736 = x15_2
          ·rw [if_pos c59] at H
           have c59b0 : (t736 == x15_2) = true := beq_iff_eq.mpr c59
           have c59b1 : (t736 != x15_2) = false := bne_eq_false_iff_eq.mpr c59
           clear c59
           replace H := Option.bind_eq_some_iff.mp H
           obtain ⟨t747, A600, H⟩ := H
           try dsimp only at H
           have A60 := Aside0.mk A600
           clear A600
           by_cases c61 : t734 ≥ 0
           ·rw [if_pos c61] at H
            have c61b0 : decide (0 ≤ t734) = true := decide_eq_true c61
            clear c61
            have H' := Aside0.mk H
            clear H
            have hcz62_0 : wr.cell? ⟨gb729, 0, none⟩ = some (.int .i64 t718) := (blk_cell BK729.out 0).trans rfl
            have hcz62_1 : wr.cell? ⟨gb729, 1, none⟩ = some (.slice Ao15 t719.length co15) := (blk_cell BK729.out 1).trans rfl
            have hcz62_2 : wr.cell? ⟨gb729, 2, none⟩ = some (.slice Ao16 t722.length co16) := (blk_cell BK729.out 2).trans rfl
            have hcz62_3 : wr.cell? ⟨gb729, 3, none⟩ = some (.int .i64 t725) := (blk_cell BK729.out 3).trans rfl
            have hcz62_4 : wr.cell? ⟨gb729, 4, none⟩ = some (.int .i64 t726) := (blk_cell BK729.out 4).trans rfl
            have hcz62_5 : wr.cell? ⟨gb729, 5, none⟩ = some (.int .i64 t727) := (blk_cell BK729.out 5).trans rfl
            have hcz62_6 : wr.cell? ⟨gb729, 6, none⟩ = some (.int .i64 t728) := (blk_cell BK729.out 6).trans rfl
            have hfz62_0 := blk_frozen BK729.out 0
            have hfz62_1 := blk_frozen BK729.out 1
            have hfz62_2 := blk_frozen BK729.out 2
            have hfz62_3 := blk_frozen BK729.out 3
            have hfz62_4 := blk_frozen BK729.out 4
            have hfz62_5 := blk_frozen BK729.out 5
            have hfz62_6 := blk_frozen BK729.out 6
            go_wp2_with (first | (go_at_call 32; (with_reducible refine (impl_Works.calls k2 t718 _ _ t719 _ _ t722 t725 t726 t727 t728 (wrap64 (1 + t733)) _ _ t730 t747 _ ?side1 ?side2 ?side3 ?side4 ?side5 ?side6 A60.out).mono ?_); (case side1 => repeat (first | exact (Kd.S_reads' HO_730001.out).2.2 | (with_reducible refine Kd.C_alloc ?_ _) | (with_reducible refine Kd.C_drewN ?_ _) | (with_reducible refine Kd.C_drew ?_))); (case side2 => exact (Kd.S_reads' HO_730001.out).2.1); (case side3 => repeat (first | exact (Kd.R_reads' HO_730002.out).2.2 | (with_reducible refine Kd.C_alloc ?_ _) | (with_reducible refine Kd.C_drewN ?_ _) | (with_reducible refine Kd.C_drew ?_))); (case side4 => exact (Kd.R_reads' HO_730002.out).2.1); (case side5 => repeat (first | exact (Kd.R_reads' HO_6.out).2.2 | (with_reducible refine Kd.C_alloc ?_ _) | (with_reducible refine Kd.C_drewN ?_ _) | (with_reducible refine Kd.C_drew ?_))); (case side6 => exact (Kd.R_reads' HO_6.out).2.1); rintro e w63 ⟨rfl, hb⟩; have n0_ := Aside0.mk (Kd.R_below (by (with_reducible repeat (first | apply Kd.R_alloc | apply Kd.R_drewN | apply Kd.R_drew)); exact HO_6.out) hb); have n1_ := Aside0.mk (Kd.S_below (by (with_reducible repeat (first | apply Kd.S_alloc | apply Kd.S_drewN | apply Kd.S_drew)); exact HO_730001.out) hb); have n2_ := Aside0.mk (Kd.R_below (by (with_reducible repeat (first | apply Kd.R_alloc | apply Kd.R_drewN | apply Kd.R_drew)); exact HO_730002.out) hb); have n3_ := Aside0.mk (blk_below (g := gb729) (o := .cells #[.int .i64 t718, .slice Ao15 t719.length co15, .slice Ao16 t722.length co16, .int .i64 t725, .int .i64 t726, .int .i64 t727, .int .i64 t728] 45 (0, 0)) (by (with_reducible repeat (first | refine blk_drewN ?_ _ | refine blk_drew ?_ | refine blk_alloc ?_ _)); exact BK729.out) hb); have n4_ := Aside0.mk (below_step (by with_reducible repeat (first | exact HB.out | apply below_alloc | apply pw_below_drewN | apply below_drew1 | refine below_set ?_ GE729.out)) hb); clear HO_6; clear HO_730001; clear HO_730002; clear BK729; clear HB; have HO_6 := n0_; have HO_730001 := n1_; have HO_730002 := n2_; have BK729 := n3_; have HB := n4_; clear n0_ n1_ n2_ n3_ n4_; (try clear hb); (try clear hb2); (try clear hk); (try clear hi)))
            repeat (go_quiet ((go_at_call 32; (with_reducible refine (impl_Works.calls k2 t718 _ _ t719 _ _ t722 t725 t726 t727 t728 (wrap64 (1 + t733)) _ _ t730 t747 _ ?side1 ?side2 ?side3 ?side4 ?side5 ?side6 A60.out).mono ?_); (case side1 => repeat (first | exact (Kd.S_reads' HO_730001.out).2.2 | (with_reducible refine Kd.C_alloc ?_ _) | (with_reducible refine Kd.C_drewN ?_ _) | (with_reducible refine Kd.C_drew ?_))); (case side2 => exact (Kd.S_reads' HO_730001.out).2.1); (case side3 => repeat (first | exact (Kd.R_reads' HO_730002.out).2.2 | (with_reducible refine Kd.C_alloc ?_ _) | (with_reducible refine Kd.C_drewN ?_ _) | (with_reducible refine Kd.C_drew ?_))); (case side4 => exact (Kd.R_reads' HO_730002.out).2.1); (case side5 => repeat (first | exact (Kd.R_reads' HO_6.out).2.2 | (with_reducible refine Kd.C_alloc ?_ _) | (with_reducible refine Kd.C_drewN ?_ _) | (with_reducible refine Kd.C_drew ?_))); (case side6 => exact (Kd.R_reads' HO_6.out).2.1); rintro e w63 ⟨rfl, hb⟩; have n0_ := Aside0.mk (Kd.R_below (by (with_reducible repeat (first | apply Kd.R_alloc | apply Kd.R_drewN | apply Kd.R_drew)); exact HO_6.out) hb); have n1_ := Aside0.mk (Kd.S_below (by (with_reducible repeat (first | apply Kd.S_alloc | apply Kd.S_drewN | apply Kd.S_drew)); exact HO_730001.out) hb); have n2_ := Aside0.mk (Kd.R_below (by (with_reducible repeat (first | apply Kd.R_alloc | apply Kd.R_drewN | apply Kd.R_drew)); exact HO_730002.out) hb); have n3_ := Aside0.mk (blk_below (g := gb729) (o := .cells #[.int .i64 t718, .slice Ao15 t719.length co15, .slice Ao16 t722.length co16, .int .i64 t725, .int .i64 t726, .int .i64 t727, .int .i64 t728] 45 (0, 0)) (by (with_reducible repeat (first | refine blk_drewN ?_ _ | refine blk_drew ?_ | refine blk_alloc ?_ _)); exact BK729.out) hb); have n4_ := Aside0.mk (below_step (by with_reducible repeat (first | exact HB.out | apply below_alloc | apply pw_below_drewN | apply below_drew1 | refine below_set ?_ GE729.out)) hb); clear HO_6; clear HO_730001; clear HO_730002; clear BK729; clear HB; have HO_6 := n0_; have HO_730001 := n1_; have HO_730002 := n2_; have BK729 := n3_; have HB := n4_; clear n0_ n1_ n2_ n3_ n4_; (try clear hb); (try clear hb2); (try clear hk); (try clear hi))); try go_wp2_with (first | (go_at_call 32; (with_reducible refine (impl_Works.calls k2 t718 _ _ t719 _ _ t722 t725 t726 t727 t728 (wrap64 (1 + t733)) _ _ t730 t747 _ ?side1 ?side2 ?side3 ?side4 ?side5 ?side6 A60.out).mono ?_); (case side1 => repeat (first | exact (Kd.S_reads' HO_730001.out).2.2 | (with_reducible refine Kd.C_alloc ?_ _) | (with_reducible refine Kd.C_drewN ?_ _) | (with_reducible refine Kd.C_drew ?_))); (case side2 => exact (Kd.S_reads' HO_730001.out).2.1); (case side3 => repeat (first | exact (Kd.R_reads' HO_730002.out).2.2 | (with_reducible refine Kd.C_alloc ?_ _) | (with_reducible refine Kd.C_drewN ?_ _) | (with_reducible refine Kd.C_drew ?_))); (case side4 => exact (Kd.R_reads' HO_730002.out).2.1); (case side5 => repeat (first | exact (Kd.R_reads' HO_6.out).2.2 | (with_reducible refine Kd.C_alloc ?_ _) | (with_reducible refine Kd.C_drewN ?_ _) | (with_reducible refine Kd.C_drew ?_))); (case side6 => exact (Kd.R_reads' HO_6.out).2.1); rintro e w63 ⟨rfl, hb⟩; have n0_ := Aside0.mk (Kd.R_below (by (with_reducible repeat (first | apply Kd.R_alloc | apply Kd.R_drewN | apply Kd.R_drew)); exact HO_6.out) hb); have n1_ := Aside0.mk (Kd.S_below (by (with_reducible repeat (first | apply Kd.S_alloc | apply Kd.S_drewN | apply Kd.S_drew)); exact HO_730001.out) hb); have n2_ := Aside0.mk (Kd.R_below (by (with_reducible repeat (first | apply Kd.R_alloc | apply Kd.R_drewN | apply Kd.R_drew)); exact HO_730002.out) hb); have n3_ := Aside0.mk (blk_below (g := gb729) (o := .cells #[.int .i64 t718, .slice Ao15 t719.length co15, .slice Ao16 t722.length co16, .int .i64 t725, .int .i64 t726, .int .i64 t727, .int .i64 t728] 45 (0, 0)) (by (with_reducible repeat (first | refine blk_drewN ?_ _ | refine blk_drew ?_ | refine blk_alloc ?_ _)); exact BK729.out) hb); have n4_ := Aside0.mk (below_step (by with_reducible repeat (first | exact HB.out | apply below_alloc | apply pw_below_drewN | apply below_drew1 | refine below_set ?_ GE729.out)) hb); clear HO_6; clear HO_730001; clear HO_730002; clear BK729; clear HB; have HO_6 := n0_; have HO_730001 := n1_; have HO_730002 := n2_; have BK729 := n3_; have HB := n4_; clear n0_ n1_ n2_ n3_ n4_; (try clear hb); (try clear hb2); (try clear hk); (try clear hi))))
            go_meet
            case rel => exact ⟨_, ((t747 != (decide (t736 ≥ 0)))), (by first | rfl | (simp; done) | (simp [*]; done)), H', ⟨by have := HJ10.out; have := HK2.out; first | omega | exact Nat.le_refl _⟩, ⟨by (with_reducible repeat (first | apply Kd.R_alloc | apply Kd.R_drewN | apply Kd.R_drew)); exact HO_6.out⟩, ⟨by (with_reducible repeat (first | apply Kd.S_alloc | apply Kd.S_drewN | apply Kd.S_drew)); exact HO_730001.out⟩, ⟨by (with_reducible repeat (first | apply Kd.R_alloc | apply Kd.R_drewN | apply Kd.R_drew)); exact HO_730002.out⟩, ⟨by (with_reducible repeat (first | refine blk_drewN ?_ _ | refine blk_drew ?_ | refine blk_alloc ?_ _)); exact BK729.out⟩, ⟨by with_reducible repeat (first | exact HB.out | apply below_alloc | apply pw_below_drewN | apply below_drew1 | refine below_set ?_ GE729.out)⟩⟩
           ·rw [if_neg c61] at H
            have c61b0 : decide (0 ≤ t734) = false := decide_eq_false c61
            clear c61
            have H' := Aside0.mk H
            clear H
            have hcz64_0 : wr.cell? ⟨gb729, 0, none⟩ = some (.int .i64 t718) := (blk_cell BK729.out 0).trans rfl
            have hcz64_1 : wr.cell? ⟨gb729, 1, none⟩ = some (.slice Ao15 t719.length co15) := (blk_cell BK729.out 1).trans rfl
            have hcz64_2 : wr.cell? ⟨gb729, 2, none⟩ = some (.slice Ao16 t722.length co16) := (blk_cell BK729.out 2).trans rfl
            have hcz64_3 : wr.cell? ⟨gb729, 3, none⟩ = some (.int .i64 t725) := (blk_cell BK729.out 3).trans rfl
            have hcz64_4 : wr.cell? ⟨gb729, 4, none⟩ = some (.int .i64 t726) := (blk_cell BK729.out 4).trans rfl
            have hcz64_5 : wr.cell? ⟨gb729, 5, none⟩ = some (.int .i64 t727) := (blk_cell BK729.out 5).trans rfl
            have hcz64_6 : wr.cell? ⟨gb729, 6, none⟩ = some (.int .i64 t728) := (blk_cell BK729.out 6).trans rfl
            have hfz64_0 := blk_frozen BK729.out 0
            have hfz64_1 := blk_frozen BK729.out 1
            have hfz64_2 := blk_frozen BK729.out 2
            have hfz64_3 := blk_frozen BK729.out 3
            have hfz64_4 := blk_frozen BK729.out 4
            have hfz64_5 := blk_frozen BK729.out 5
            have hfz64_6 := blk_frozen BK729.out 6
            go_wp2_with (first | (go_at_call 32; (with_reducible refine (impl_Works.calls k2 t718 _ _ t719 _ _ t722 t725 t726 t727 t728 (wrap64 (1 + t733)) _ _ t730 t747 _ ?side1 ?side2 ?side3 ?side4 ?side5 ?side6 A60.out).mono ?_); (case side1 => repeat (first | exact (Kd.S_reads' HO_730001.out).2.2 | (with_reducible refine Kd.C_alloc ?_ _) | (with_reducible refine Kd.C_drewN ?_ _) | (with_reducible refine Kd.C_drew ?_))); (case side2 => exact (Kd.S_reads' HO_730001.out).2.1); (case side3 => repeat (first | exact (Kd.R_reads' HO_730002.out).2.2 | (with_reducible refine Kd.C_alloc ?_ _) | (with_reducible refine Kd.C_drewN ?_ _) | (with_reducible refine Kd.C_drew ?_))); (case side4 => exact (Kd.R_reads' HO_730002.out).2.1); (case side5 => repeat (first | exact (Kd.R_reads' HO_6.out).2.2 | (with_reducible refine Kd.C_alloc ?_ _) | (with_reducible refine Kd.C_drewN ?_ _) | (with_reducible refine Kd.C_drew ?_))); (case side6 => exact (Kd.R_reads' HO_6.out).2.1); rintro e w65 ⟨rfl, hb⟩; have n0_ := Aside0.mk (Kd.R_below (by (with_reducible repeat (first | apply Kd.R_alloc | apply Kd.R_drewN | apply Kd.R_drew)); exact HO_6.out) hb); have n1_ := Aside0.mk (Kd.S_below (by (with_reducible repeat (first | apply Kd.S_alloc | apply Kd.S_drewN | apply Kd.S_drew)); exact HO_730001.out) hb); have n2_ := Aside0.mk (Kd.R_below (by (with_reducible repeat (first | apply Kd.R_alloc | apply Kd.R_drewN | apply Kd.R_drew)); exact HO_730002.out) hb); have n3_ := Aside0.mk (blk_below (g := gb729) (o := .cells #[.int .i64 t718, .slice Ao15 t719.length co15, .slice Ao16 t722.length co16, .int .i64 t725, .int .i64 t726, .int .i64 t727, .int .i64 t728] 45 (0, 0)) (by (with_reducible repeat (first | refine blk_drewN ?_ _ | refine blk_drew ?_ | refine blk_alloc ?_ _)); exact BK729.out) hb); have n4_ := Aside0.mk (below_step (by with_reducible repeat (first | exact HB.out | apply below_alloc | apply pw_below_drewN | apply below_drew1 | refine below_set ?_ GE729.out)) hb); clear HO_6; clear HO_730001; clear HO_730002; clear BK729; clear HB; have HO_6 := n0_; have HO_730001 := n1_; have HO_730002 := n2_; have BK729 := n3_; have HB := n4_; clear n0_ n1_ n2_ n3_ n4_; (try clear hb); (try clear hb2); (try clear hk); (try clear hi)))
            repeat (go_quiet ((go_at_call 32; (with_reducible refine (impl_Works.calls k2 t718 _ _ t719 _ _ t722 t725 t726 t727 t728 (wrap64 (1 + t733)) _ _ t730 t747 _ ?side1 ?side2 ?side3 ?side4 ?side5 ?side6 A60.out).mono ?_); (case side1 => repeat (first | exact (Kd.S_reads' HO_730001.out).2.2 | (with_reducible refine Kd.C_alloc ?_ _) | (with_reducible refine Kd.C_drewN ?_ _) | (with_reducible refine Kd.C_drew ?_))); (case side2 => exact (Kd.S_reads' HO_730001.out).2.1); (case side3 => repeat (first | exact (Kd.R_reads' HO_730002.out).2.2 | (with_reducible refine Kd.C_alloc ?_ _) | (with_reducible refine Kd.C_drewN ?_ _) | (with_reducible refine Kd.C_drew ?_))); (case side4 => exact (Kd.R_reads' HO_730002.out).2.1); (case side5 => repeat (first | exact (Kd.R_reads' HO_6.out).2.2 | (with_reducible refine Kd.C_alloc ?_ _) | (with_reducible refine Kd.C_drewN ?_ _) | (with_reducible refine Kd.C_drew ?_))); (case side6 => exact (Kd.R_reads' HO_6.out).2.1); rintro e w65 ⟨rfl, hb⟩; have n0_ := Aside0.mk (Kd.R_below (by (with_reducible repeat (first | apply Kd.R_alloc | apply Kd.R_drewN | apply Kd.R_drew)); exact HO_6.out) hb); have n1_ := Aside0.mk (Kd.S_below (by (with_reducible repeat (first | apply Kd.S_alloc | apply Kd.S_drewN | apply Kd.S_drew)); exact HO_730001.out) hb); have n2_ := Aside0.mk (Kd.R_below (by (with_reducible repeat (first | apply Kd.R_alloc | apply Kd.R_drewN | apply Kd.R_drew)); exact HO_730002.out) hb); have n3_ := Aside0.mk (blk_below (g := gb729) (o := .cells #[.int .i64 t718, .slice Ao15 t719.length co15, .slice Ao16 t722.length co16, .int .i64 t725, .int .i64 t726, .int .i64 t727, .int .i64 t728] 45 (0, 0)) (by (with_reducible repeat (first | refine blk_drewN ?_ _ | refine blk_drew ?_ | refine blk_alloc ?_ _)); exact BK729.out) hb); have n4_ := Aside0.mk (below_step (by with_reducible repeat (first | exact HB.out | apply below_alloc | apply pw_below_drewN | apply below_drew1 | refine below_set ?_ GE729.out)) hb); clear HO_6; clear HO_730001; clear HO_730002; clear BK729; clear HB; have HO_6 := n0_; have HO_730001 := n1_; have HO_730002 := n2_; have BK729 := n3_; have HB := n4_; clear n0_ n1_ n2_ n3_ n4_; (try clear hb); (try clear hb2); (try clear hk); (try clear hi))); try go_wp2_with (first | (go_at_call 32; (with_reducible refine (impl_Works.calls k2 t718 _ _ t719 _ _ t722 t725 t726 t727 t728 (wrap64 (1 + t733)) _ _ t730 t747 _ ?side1 ?side2 ?side3 ?side4 ?side5 ?side6 A60.out).mono ?_); (case side1 => repeat (first | exact (Kd.S_reads' HO_730001.out).2.2 | (with_reducible refine Kd.C_alloc ?_ _) | (with_reducible refine Kd.C_drewN ?_ _) | (with_reducible refine Kd.C_drew ?_))); (case side2 => exact (Kd.S_reads' HO_730001.out).2.1); (case side3 => repeat (first | exact (Kd.R_reads' HO_730002.out).2.2 | (with_reducible refine Kd.C_alloc ?_ _) | (with_reducible refine Kd.C_drewN ?_ _) | (with_reducible refine Kd.C_drew ?_))); (case side4 => exact (Kd.R_reads' HO_730002.out).2.1); (case side5 => repeat (first | exact (Kd.R_reads' HO_6.out).2.2 | (with_reducible refine Kd.C_alloc ?_ _) | (with_reducible refine Kd.C_drewN ?_ _) | (with_reducible refine Kd.C_drew ?_))); (case side6 => exact (Kd.R_reads' HO_6.out).2.1); rintro e w65 ⟨rfl, hb⟩; have n0_ := Aside0.mk (Kd.R_below (by (with_reducible repeat (first | apply Kd.R_alloc | apply Kd.R_drewN | apply Kd.R_drew)); exact HO_6.out) hb); have n1_ := Aside0.mk (Kd.S_below (by (with_reducible repeat (first | apply Kd.S_alloc | apply Kd.S_drewN | apply Kd.S_drew)); exact HO_730001.out) hb); have n2_ := Aside0.mk (Kd.R_below (by (with_reducible repeat (first | apply Kd.R_alloc | apply Kd.R_drewN | apply Kd.R_drew)); exact HO_730002.out) hb); have n3_ := Aside0.mk (blk_below (g := gb729) (o := .cells #[.int .i64 t718, .slice Ao15 t719.length co15, .slice Ao16 t722.length co16, .int .i64 t725, .int .i64 t726, .int .i64 t727, .int .i64 t728] 45 (0, 0)) (by (with_reducible repeat (first | refine blk_drewN ?_ _ | refine blk_drew ?_ | refine blk_alloc ?_ _)); exact BK729.out) hb); have n4_ := Aside0.mk (below_step (by with_reducible repeat (first | exact HB.out | apply below_alloc | apply pw_below_drewN | apply below_drew1 | refine below_set ?_ GE729.out)) hb); clear HO_6; clear HO_730001; clear HO_730002; clear BK729; clear HB; have HO_6 := n0_; have HO_730001 := n1_; have HO_730002 := n2_; have BK729 := n3_; have HB := n4_; clear n0_ n1_ n2_ n3_ n4_; (try clear hb); (try clear hb2); (try clear hk); (try clear hi))))
            go_meet
            case rel => exact ⟨_, ((t747 != false)), (by first | rfl | (simp; done) | (simp [*]; done)), H', ⟨by have := HJ10.out; have := HK2.out; first | omega | exact Nat.le_refl _⟩, ⟨by (with_reducible repeat (first | apply Kd.R_alloc | apply Kd.R_drewN | apply Kd.R_drew)); exact HO_6.out⟩, ⟨by (with_reducible repeat (first | apply Kd.S_alloc | apply Kd.S_drewN | apply Kd.S_drew)); exact HO_730001.out⟩, ⟨by (with_reducible repeat (first | apply Kd.R_alloc | apply Kd.R_drewN | apply Kd.R_drew)); exact HO_730002.out⟩, ⟨by (with_reducible repeat (first | refine blk_drewN ?_ _ | refine blk_drew ?_ | refine blk_alloc ?_ _)); exact BK729.out⟩, ⟨by with_reducible repeat (first | exact HB.out | apply below_alloc | apply pw_below_drewN | apply below_drew1 | refine below_set ?_ GE729.out)⟩⟩
          ·rw [if_neg c59] at H
           have c59b0 : (t736 == x15_2) = false := beq_eq_false_iff_ne.mpr c59
           have c59b1 : (t736 != x15_2) = true := bne_iff_ne.mpr c59
           have H' := Aside0.mk H
           clear H
           go_wp2
           repeat (go_quiet (fail); try go_wp2)
           go_meet
           case rel => exact ⟨_, (true), (by first | rfl | (simp; done) | (simp [*]; done)), H', ⟨by have := HJ10.out; have := HK2.out; first | omega | exact Nat.le_refl _⟩, ⟨by (with_reducible repeat (first | apply Kd.R_alloc | apply Kd.R_drewN | apply Kd.R_drew)); exact HO_6.out⟩, ⟨by (with_reducible repeat (first | apply Kd.S_alloc | apply Kd.S_drewN | apply Kd.S_drew)); exact HO_730001.out⟩, ⟨by (with_reducible repeat (first | apply Kd.R_alloc | apply Kd.R_drewN | apply Kd.R_drew)); exact HO_730002.out⟩, ⟨by (with_reducible repeat (first | refine blk_drewN ?_ _ | refine blk_drew ?_ | refine blk_alloc ?_ _)); exact BK729.out⟩, ⟨by with_reducible repeat (first | exact HB.out | apply below_alloc | apply pw_below_drewN | apply below_drew1 | refine below_set ?_ GE729.out)⟩⟩
         ·rw [if_neg c58] at H
          have c58b0 : (t734 == x14_2) = false := beq_eq_false_iff_ne.mpr c58
          have c58b1 : (t734 != x14_2) = true := bne_iff_ne.mpr c58
          (first | rw [c58b0] | (simp only [i64_w, i32_w]; rw [c58b0]) | skip)
          have H' := Aside0.mk H
          clear H
          go_wp2
          repeat (go_quiet (fail); try go_wp2)
          go_meet
          case rel => exact ⟨_, (true), (by first | rfl | (simp; done) | (simp [*]; done)), H', ⟨by have := HJ10.out; have := HK2.out; first | omega | exact Nat.le_refl _⟩, ⟨by (with_reducible repeat (first | apply Kd.R_alloc | apply Kd.R_drewN | apply Kd.R_drew)); exact HO_6.out⟩, ⟨by (with_reducible repeat (first | apply Kd.S_alloc | apply Kd.S_drewN | apply Kd.S_drew)); exact HO_730001.out⟩, ⟨by (with_reducible repeat (first | apply Kd.R_alloc | apply Kd.R_drewN | apply Kd.R_drew)); exact HO_730002.out⟩, ⟨by (with_reducible repeat (first | refine blk_drewN ?_ _ | refine blk_drew ?_ | refine blk_alloc ?_ _)); exact BK729.out⟩, ⟨by with_reducible repeat (first | exact HB.out | apply below_alloc | apply pw_below_drewN | apply below_drew1 | refine below_set ?_ GE729.out)⟩⟩
        case rest =>
         clear HC56
         try clear c1
         try clear c2
         try clear p2
         try clear c3
         try clear c4
         try clear c5
         try clear c6
         try clear p6
         try clear c7
         try clear p7
         try clear q7
         try clear hx7
         try clear c25
         try clear c26
         try clear c27
         try clear c28
         try clear c29
         try clear c29b0
         try clear c31
         try clear c31b0
         try clear c33
         try clear c34
         try clear c34b0
         try clear c35
         try clear c35b0
         try clear c36
         try clear c36b0
         try clear c37
         try clear c37b0
         try clear c38
         try clear c38b0
         try clear c39
         try clear c39b0
         try clear c46
         try clear c46b0
         try clear c58
         try clear c58b0
         try clear c58b1
         try clear c59
         try clear c59b0
         try clear c59b1
         try clear c61
         try clear c61b0
         try clear p64
         try clear hcz14_0
         try clear hcz14_1
         try clear hcz14_2
         try clear hcz14_3
         try clear hcz14_4
         try clear hcz14_5
         try clear hcz14_6
         try clear hcz18_0
         try clear hcz18_1
         try clear hcz18_2
         try clear hcz18_3
         try clear hcz18_4
         try clear hcz18_5
         try clear hcz18_6
         try clear hcz21_0
         try clear hcz21_1
         try clear hcz21_2
         try clear hcz21_3
         try clear hcz21_4
         try clear hcz21_5
         try clear hcz21_6
         try clear hcz23_0
         try clear hcz23_1
         try clear hcz23_2
         try clear hcz23_3
         try clear hcz23_4
         try clear hcz23_5
         try clear hcz23_6
         try clear hcz30_0
         try clear hcz30_1
         try clear hcz30_2
         try clear hcz30_3
         try clear hcz30_4
         try clear hcz30_5
         try clear hcz30_6
         try clear hcz40_0
         try clear hcz40_1
         try clear hcz40_2
         try clear hcz40_3
         try clear hcz40_4
         try clear hcz40_5
         try clear hcz40_6
         try clear hcz42_0
         try clear hcz42_1
         try clear hcz42_2
         try clear hcz42_3
         try clear hcz42_4
         try clear hcz42_5
         try clear hcz42_6
         try clear hcz43_0
         try clear hcz43_1
         try clear hcz43_2
         try clear hcz43_3
         try clear hcz43_4
         try clear hcz43_5
         try clear hcz43_6
         try clear hcz45_0
         try clear hcz45_1
         try clear hcz45_2
         try clear hcz45_3
         try clear hcz45_4
         try clear hcz45_5
         try clear hcz45_6
         try clear hcz47_0
         try clear hcz47_1
         try clear hcz47_2
         try clear hcz47_3
         try clear hcz47_4
         try clear hcz47_5
         try clear hcz47_6
         try clear hcz49_0
         try clear hcz49_1
         try clear hcz49_2
         try clear hcz49_3
         try clear hcz49_4
         try clear hcz49_5
         try clear hcz49_6
         try clear hcz50_0
         try clear hcz50_1
         try clear hcz50_2
         try clear hcz50_3
         try clear hcz50_4
         try clear hcz50_5
         try clear hcz50_6
         try clear hcz52_0
         try clear hcz52_1
         try clear hcz52_2
         try clear hcz52_3
         try clear hcz52_4
         try clear hcz52_5
         try clear hcz52_6
         try clear hcz53_0
         try clear hcz53_1
         try clear hcz53_2
         try clear hcz53_3
         try clear hcz53_4
         try clear hcz53_5
         try clear hcz53_6
         try clear hcz55_0
         try clear hcz55_1
         try clear hcz55_2
         try clear hcz55_3
         try clear hcz55_4
         try clear hcz55_5
         try clear hcz55_6
         try clear hcz57_0
         try clear hcz57_1
         try clear hcz57_2
         try clear hcz57_3
         try clear hcz57_4
         try clear hcz57_5
         try clear hcz57_6
         try clear hcz62_0
         try clear hcz62_1
         try clear hcz62_2
         try clear hcz62_3
         try clear hcz62_4
         try clear hcz62_5
         try clear hcz62_6
         try clear hcz64_0
         try clear hcz64_1
         try clear hcz64_2
         try clear hcz64_3
         try clear hcz64_4
         try clear hcz64_5
         try clear hcz64_6
         try clear hfz14_0
         try clear hfz14_1
         try clear hfz14_2
         try clear hfz14_3
         try clear hfz14_4
         try clear hfz14_5
         try clear hfz14_6
         try clear hfz18_0
         try clear hfz18_1
         try clear hfz18_2
         try clear hfz18_3
         try clear hfz18_4
         try clear hfz18_5
         try clear hfz18_6
         try clear hfz21_0
         try clear hfz21_1
         try clear hfz21_2
         try clear hfz21_3
         try clear hfz21_4
         try clear hfz21_5
         try clear hfz21_6
         try clear hfz23_0
         try clear hfz23_1
         try clear hfz23_2
         try clear hfz23_3
         try clear hfz23_4
         try clear hfz23_5
         try clear hfz23_6
         try clear hfz30_0
         try clear hfz30_1
         try clear hfz30_2
         try clear hfz30_3
         try clear hfz30_4
         try clear hfz30_5
         try clear hfz30_6
         try clear hfz40_0
         try clear hfz40_1
         try clear hfz40_2
         try clear hfz40_3
         try clear hfz40_4
         try clear hfz40_5
         try clear hfz40_6
         try clear hfz42_0
         try clear hfz42_1
         try clear hfz42_2
         try clear hfz42_3
         try clear hfz42_4
         try clear hfz42_5
         try clear hfz42_6
         try clear hfz43_0
         try clear hfz43_1
         try clear hfz43_2
         try clear hfz43_3
         try clear hfz43_4
         try clear hfz43_5
         try clear hfz43_6
         try clear hfz45_0
         try clear hfz45_1
         try clear hfz45_2
         try clear hfz45_3
         try clear hfz45_4
         try clear hfz45_5
         try clear hfz45_6
         try clear hfz47_0
         try clear hfz47_1
         try clear hfz47_2
         try clear hfz47_3
         try clear hfz47_4
         try clear hfz47_5
         try clear hfz47_6
         try clear hfz49_0
         try clear hfz49_1
         try clear hfz49_2
         try clear hfz49_3
         try clear hfz49_4
         try clear hfz49_5
         try clear hfz49_6
         try clear hfz50_0
         try clear hfz50_1
         try clear hfz50_2
         try clear hfz50_3
         try clear hfz50_4
         try clear hfz50_5
         try clear hfz50_6
         try clear hfz52_0
         try clear hfz52_1
         try clear hfz52_2
         try clear hfz52_3
         try clear hfz52_4
         try clear hfz52_5
         try clear hfz52_6
         try clear hfz53_0
         try clear hfz53_1
         try clear hfz53_2
         try clear hfz53_3
         try clear hfz53_4
         try clear hfz53_5
         try clear hfz53_6
         try clear hfz55_0
         try clear hfz55_1
         try clear hfz55_2
         try clear hfz55_3
         try clear hfz55_4
         try clear hfz55_5
         try clear hfz55_6
         try clear hfz57_0
         try clear hfz57_1
         try clear hfz57_2
         try clear hfz57_3
         try clear hfz57_4
         try clear hfz57_5
         try clear hfz57_6
         try clear hfz62_0
         try clear hfz62_1
         try clear hfz62_2
         try clear hfz62_3
         try clear hfz62_4
         try clear hfz62_5
         try clear hfz62_6
         try clear hfz64_0
         try clear hfz64_1
         try clear hfz64_2
         try clear hfz64_3
         try clear hfz64_4
         try clear hfz64_5
         try clear hfz64_6
         try clear hx743_0
         try clear hx744_0
         try clear hx745_0
         try clear hx746_0
         try clear p2
         try clear p6
         try clear p743
         try clear p744
         try clear p745
         try clear p746
         try clear q743
         try clear q744
         try clear q745
         try clear q746
         obtain ⟨kq, x148_55, rfl, HA, HJ55, HO_6, HO_730001, HO_730002, BK729, HB⟩ := hcut
         cases kq with
         | zero => exact absurd HA.out (by simp [laws_FnRooms.j3])
         | succ kj55 =>
          have H := HA.out
          clear HA
          simp only [laws_FnRooms.j3] at H
          by_cases c66 : x148_55 = true
          ·subst c66
           rw [if_pos rfl] at H
           obtain rfl := Option.some.inj H
           go_wp2
           repeat (go_quiet (fail); try go_wp2)
           go_ret
           exact ⟨by first | rfl | (simp [errW_none, errW_some] <;> rfl) | (simp [*, errW_none, errW_some] <;> rfl), by with_reducible repeat (first | exact HB.out | apply below_alloc | apply pw_below_drewN | apply below_drew1 | refine below_set ?_ GE729.out)⟩
          ·replace c66 := Bool.eq_false_iff.mpr c66
           subst c66
           rw [if_neg (by decide)] at H
           replace H := Option.bind_eq_some_iff.mp H
           obtain ⟨t748, A670, H⟩ := H
           try dsimp only at H
           have A67 := Aside0.mk A670
           clear A670
           by_cases c68 : (t748 == (decide (t736 ≥ 0))) = true
           ·rw [if_pos c68] at H
            have c68b0 : (t748 == (decide (t736 ≥ 0))) = true := c68
            (try (have c68b1 : decide (t748 = (decide (t736 ≥ 0))) = true := by simpa using c68))
            (try (have c68b2 : (t748 == (decide (t736 ≥ 0))) = true := by simpa using c68))
            clear c68
            by_cases c69 : t738 > 1
            ·rw [if_pos c69] at H
             have c69b0 : decide (1 < t738) = true := decide_eq_true c69
             clear c69
             replace H := Option.bind_eq_some_iff.mp H
             obtain ⟨t749, A700, H⟩ := H
             try dsimp only at H
             have A70 := Aside0.mk A700
             clear A700
             obtain rfl := Option.some.inj H
             have hcz71_0 : wc.cell? ⟨gb729, 0, none⟩ = some (.int .i64 t718) := (blk_cell BK729.out 0).trans rfl
             have hcz71_1 : wc.cell? ⟨gb729, 1, none⟩ = some (.slice Ao15 t719.length co15) := (blk_cell BK729.out 1).trans rfl
             have hcz71_2 : wc.cell? ⟨gb729, 2, none⟩ = some (.slice Ao16 t722.length co16) := (blk_cell BK729.out 2).trans rfl
             have hcz71_3 : wc.cell? ⟨gb729, 3, none⟩ = some (.int .i64 t725) := (blk_cell BK729.out 3).trans rfl
             have hcz71_4 : wc.cell? ⟨gb729, 4, none⟩ = some (.int .i64 t726) := (blk_cell BK729.out 4).trans rfl
             have hcz71_5 : wc.cell? ⟨gb729, 5, none⟩ = some (.int .i64 t727) := (blk_cell BK729.out 5).trans rfl
             have hcz71_6 : wc.cell? ⟨gb729, 6, none⟩ = some (.int .i64 t728) := (blk_cell BK729.out 6).trans rfl
             have hfz71_0 := blk_frozen BK729.out 0
             have hfz71_1 := blk_frozen BK729.out 1
             have hfz71_2 := blk_frozen BK729.out 2
             have hfz71_3 := blk_frozen BK729.out 3
             have hfz71_4 := blk_frozen BK729.out 4
             have hfz71_5 := blk_frozen BK729.out 5
             have hfz71_6 := blk_frozen BK729.out 6
             go_wp2_with (first | (go_at_call 32; (with_reducible refine (impl_Works.calls kj55 t718 _ _ t719 _ _ t722 t725 t726 t727 t728 t738 _ _ t730 t748 _ ?side1 ?side2 ?side3 ?side4 ?side5 ?side6 A67.out).mono ?_); (case side1 => repeat (first | exact (Kd.S_reads' HO_730001.out).2.2 | (with_reducible refine Kd.C_alloc ?_ _) | (with_reducible refine Kd.C_drewN ?_ _) | (with_reducible refine Kd.C_drew ?_))); (case side2 => exact (Kd.S_reads' HO_730001.out).2.1); (case side3 => repeat (first | exact (Kd.R_reads' HO_730002.out).2.2 | (with_reducible refine Kd.C_alloc ?_ _) | (with_reducible refine Kd.C_drewN ?_ _) | (with_reducible refine Kd.C_drew ?_))); (case side4 => exact (Kd.R_reads' HO_730002.out).2.1); (case side5 => repeat (first | exact (Kd.R_reads' HO_6.out).2.2 | (with_reducible refine Kd.C_alloc ?_ _) | (with_reducible refine Kd.C_drewN ?_ _) | (with_reducible refine Kd.C_drew ?_))); (case side6 => exact (Kd.R_reads' HO_6.out).2.1); rintro e w72 ⟨rfl, hb⟩; have n0_ := Aside0.mk (Kd.R_below (by (with_reducible repeat (first | apply Kd.R_alloc | apply Kd.R_drewN | apply Kd.R_drew)); exact HO_6.out) hb); have n1_ := Aside0.mk (Kd.S_below (by (with_reducible repeat (first | apply Kd.S_alloc | apply Kd.S_drewN | apply Kd.S_drew)); exact HO_730001.out) hb); have n2_ := Aside0.mk (Kd.R_below (by (with_reducible repeat (first | apply Kd.R_alloc | apply Kd.R_drewN | apply Kd.R_drew)); exact HO_730002.out) hb); have n3_ := Aside0.mk (blk_below (g := gb729) (o := .cells #[.int .i64 t718, .slice Ao15 t719.length co15, .slice Ao16 t722.length co16, .int .i64 t725, .int .i64 t726, .int .i64 t727, .int .i64 t728] 45 (0, 0)) (by (with_reducible repeat (first | refine blk_drewN ?_ _ | refine blk_drew ?_ | refine blk_alloc ?_ _)); exact BK729.out) hb); have n4_ := Aside0.mk (below_step (by with_reducible repeat (first | exact HB.out | apply below_alloc | apply pw_below_drewN | apply below_drew1 | refine below_set ?_ GE729.out)) hb); clear HO_6; clear HO_730001; clear HO_730002; clear BK729; clear HB; have HO_6 := n0_; have HO_730001 := n1_; have HO_730002 := n2_; have BK729 := n3_; have HB := n4_; clear n0_ n1_ n2_ n3_ n4_; (try clear hb); (try clear hb2); (try clear hk); (try clear hi); have hcz73_0 : w72.cell? ⟨gb729, 0, none⟩ = some (.int .i64 t718) := (blk_cell BK729.out 0).trans rfl; have hcz73_1 : w72.cell? ⟨gb729, 1, none⟩ = some (.slice Ao15 t719.length co15) := (blk_cell BK729.out 1).trans rfl; have hcz73_2 : w72.cell? ⟨gb729, 2, none⟩ = some (.slice Ao16 t722.length co16) := (blk_cell BK729.out 2).trans rfl; have hcz73_3 : w72.cell? ⟨gb729, 3, none⟩ = some (.int .i64 t725) := (blk_cell BK729.out 3).trans rfl; have hcz73_4 : w72.cell? ⟨gb729, 4, none⟩ = some (.int .i64 t726) := (blk_cell BK729.out 4).trans rfl; have hcz73_5 : w72.cell? ⟨gb729, 5, none⟩ = some (.int .i64 t727) := (blk_cell BK729.out 5).trans rfl; have hcz73_6 : w72.cell? ⟨gb729, 6, none⟩ = some (.int .i64 t728) := (blk_cell BK729.out 6).trans rfl; have hfz73_0 := blk_frozen BK729.out 0; have hfz73_1 := blk_frozen BK729.out 1; have hfz73_2 := blk_frozen BK729.out 2; have hfz73_3 := blk_frozen BK729.out 3; have hfz73_4 := blk_frozen BK729.out 4; have hfz73_5 := blk_frozen BK729.out 5; have hfz73_6 := blk_frozen BK729.out 6) | (go_at_call 32; (with_reducible refine (impl_Works.calls kj55 t718 _ _ t719 _ _ t722 t725 t726 t727 t728 (wrap64 (t738 - 1)) _ _ t730 t749 _ ?side1 ?side2 ?side3 ?side4 ?side5 ?side6 A70.out).mono ?_); (case side1 => repeat (first | exact (Kd.S_reads' HO_730001.out).2.2 | (with_reducible refine Kd.C_alloc ?_ _) | (with_reducible refine Kd.C_drewN ?_ _) | (with_reducible refine Kd.C_drew ?_))); (case side2 => exact (Kd.S_reads' HO_730001.out).2.1); (case side3 => repeat (first | exact (Kd.R_reads' HO_730002.out).2.2 | (with_reducible refine Kd.C_alloc ?_ _) | (with_reducible refine Kd.C_drewN ?_ _) | (with_reducible refine Kd.C_drew ?_))); (case side4 => exact (Kd.R_reads' HO_730002.out).2.1); (case side5 => repeat (first | exact (Kd.R_reads' HO_6.out).2.2 | (with_reducible refine Kd.C_alloc ?_ _) | (with_reducible refine Kd.C_drewN ?_ _) | (with_reducible refine Kd.C_drew ?_))); (case side6 => exact (Kd.R_reads' HO_6.out).2.1); rintro e w74 ⟨rfl, hb⟩; have n0_ := Aside0.mk (Kd.R_below (by (with_reducible repeat (first | apply Kd.R_alloc | apply Kd.R_drewN | apply Kd.R_drew)); exact HO_6.out) hb); have n1_ := Aside0.mk (Kd.S_below (by (with_reducible repeat (first | apply Kd.S_alloc | apply Kd.S_drewN | apply Kd.S_drew)); exact HO_730001.out) hb); have n2_ := Aside0.mk (Kd.R_below (by (with_reducible repeat (first | apply Kd.R_alloc | apply Kd.R_drewN | apply Kd.R_drew)); exact HO_730002.out) hb); have n3_ := Aside0.mk (blk_below (g := gb729) (o := .cells #[.int .i64 t718, .slice Ao15 t719.length co15, .slice Ao16 t722.length co16, .int .i64 t725, .int .i64 t726, .int .i64 t727, .int .i64 t728] 45 (0, 0)) (by (with_reducible repeat (first | refine blk_drewN ?_ _ | refine blk_drew ?_ | refine blk_alloc ?_ _)); exact BK729.out) hb); have n4_ := Aside0.mk (below_step (by with_reducible repeat (first | exact HB.out | apply below_alloc | apply pw_below_drewN | apply below_drew1 | refine below_set ?_ GE729.out)) hb); clear HO_6; clear HO_730001; clear HO_730002; clear BK729; clear HB; have HO_6 := n0_; have HO_730001 := n1_; have HO_730002 := n2_; have BK729 := n3_; have HB := n4_; clear n0_ n1_ n2_ n3_ n4_; (try clear hb); (try clear hb2); (try clear hk); (try clear hi)))
             repeat (go_quiet (first | (go_at_call 32; (with_reducible refine (impl_Works.calls kj55 t718 _ _ t719 _ _ t722 t725 t726 t727 t728 t738 _ _ t730 t748 _ ?side1 ?side2 ?side3 ?side4 ?side5 ?side6 A67.out).mono ?_); (case side1 => repeat (first | exact (Kd.S_reads' HO_730001.out).2.2 | (with_reducible refine Kd.C_alloc ?_ _) | (with_reducible refine Kd.C_drewN ?_ _) | (with_reducible refine Kd.C_drew ?_))); (case side2 => exact (Kd.S_reads' HO_730001.out).2.1); (case side3 => repeat (first | exact (Kd.R_reads' HO_730002.out).2.2 | (with_reducible refine Kd.C_alloc ?_ _) | (with_reducible refine Kd.C_drewN ?_ _) | (with_reducible refine Kd.C_drew ?_))); (case side4 => exact (Kd.R_reads' HO_730002.out).2.1); (case side5 => repeat (first | exact (Kd.R_reads' HO_6.out).2.2 | (with_reducible refine Kd.C_alloc ?_ _) | (with_reducible refine Kd.C_drewN ?_ _) | (with_reducible refine Kd.C_drew ?_))); (case side6 => exact (Kd.R_reads' HO_6.out).2.1); rintro e w72 ⟨rfl, hb⟩; have n0_ := Aside0.mk (Kd.R_below (by (with_reducible repeat (first | apply Kd.R_alloc | apply Kd.R_drewN | apply Kd.R_drew)); exact HO_6.out) hb); have n1_ := Aside0.mk (Kd.S_below (by (with_reducible repeat (first | apply Kd.S_alloc | apply Kd.S_drewN | apply Kd.S_drew)); exact HO_730001.out) hb); have n2_ := Aside0.mk (Kd.R_below (by (with_reducible repeat (first | apply Kd.R_alloc | apply Kd.R_drewN | apply Kd.R_drew)); exact HO_730002.out) hb); have n3_ := Aside0.mk (blk_below (g := gb729) (o := .cells #[.int .i64 t718, .slice Ao15 t719.length co15, .slice Ao16 t722.length co16, .int .i64 t725, .int .i64 t726, .int .i64 t727, .int .i64 t728] 45 (0, 0)) (by (with_reducible repeat (first | refine blk_drewN ?_ _ | refine blk_drew ?_ | refine blk_alloc ?_ _)); exact BK729.out) hb); have n4_ := Aside0.mk (below_step (by with_reducible repeat (first | exact HB.out | apply below_alloc | apply pw_below_drewN | apply below_drew1 | refine below_set ?_ GE729.out)) hb); clear HO_6; clear HO_730001; clear HO_730002; clear BK729; clear HB; have HO_6 := n0_; have HO_730001 := n1_; have HO_730002 := n2_; have BK729 := n3_; have HB := n4_; clear n0_ n1_ n2_ n3_ n4_; (try clear hb); (try clear hb2); (try clear hk); (try clear hi); have hcz73_0 : w72.cell? ⟨gb729, 0, none⟩ = some (.int .i64 t718) := (blk_cell BK729.out 0).trans rfl; have hcz73_1 : w72.cell? ⟨gb729, 1, none⟩ = some (.slice Ao15 t719.length co15) := (blk_cell BK729.out 1).trans rfl; have hcz73_2 : w72.cell? ⟨gb729, 2, none⟩ = some (.slice Ao16 t722.length co16) := (blk_cell BK729.out 2).trans rfl; have hcz73_3 : w72.cell? ⟨gb729, 3, none⟩ = some (.int .i64 t725) := (blk_cell BK729.out 3).trans rfl; have hcz73_4 : w72.cell? ⟨gb729, 4, none⟩ = some (.int .i64 t726) := (blk_cell BK729.out 4).trans rfl; have hcz73_5 : w72.cell? ⟨gb729, 5, none⟩ = some (.int .i64 t727) := (blk_cell BK729.out 5).trans rfl; have hcz73_6 : w72.cell? ⟨gb729, 6, none⟩ = some (.int .i64 t728) := (blk_cell BK729.out 6).trans rfl; have hfz73_0 := blk_frozen BK729.out 0; have hfz73_1 := blk_frozen BK729.out 1; have hfz73_2 := blk_frozen BK729.out 2; have hfz73_3 := blk_frozen BK729.out 3; have hfz73_4 := blk_frozen BK729.out 4; have hfz73_5 := blk_frozen BK729.out 5; have hfz73_6 := blk_frozen BK729.out 6) | (go_at_call 32; (with_reducible refine (impl_Works.calls kj55 t718 _ _ t719 _ _ t722 t725 t726 t727 t728 (wrap64 (t738 - 1)) _ _ t730 t749 _ ?side1 ?side2 ?side3 ?side4 ?side5 ?side6 A70.out).mono ?_); (case side1 => repeat (first | exact (Kd.S_reads' HO_730001.out).2.2 | (with_reducible refine Kd.C_alloc ?_ _) | (with_reducible refine Kd.C_drewN ?_ _) | (with_reducible refine Kd.C_drew ?_))); (case side2 => exact (Kd.S_reads' HO_730001.out).2.1); (case side3 => repeat (first | exact (Kd.R_reads' HO_730002.out).2.2 | (with_reducible refine Kd.C_alloc ?_ _) | (with_reducible refine Kd.C_drewN ?_ _) | (with_reducible refine Kd.C_drew ?_))); (case side4 => exact (Kd.R_reads' HO_730002.out).2.1); (case side5 => repeat (first | exact (Kd.R_reads' HO_6.out).2.2 | (with_reducible refine Kd.C_alloc ?_ _) | (with_reducible refine Kd.C_drewN ?_ _) | (with_reducible refine Kd.C_drew ?_))); (case side6 => exact (Kd.R_reads' HO_6.out).2.1); rintro e w74 ⟨rfl, hb⟩; have n0_ := Aside0.mk (Kd.R_below (by (with_reducible repeat (first | apply Kd.R_alloc | apply Kd.R_drewN | apply Kd.R_drew)); exact HO_6.out) hb); have n1_ := Aside0.mk (Kd.S_below (by (with_reducible repeat (first | apply Kd.S_alloc | apply Kd.S_drewN | apply Kd.S_drew)); exact HO_730001.out) hb); have n2_ := Aside0.mk (Kd.R_below (by (with_reducible repeat (first | apply Kd.R_alloc | apply Kd.R_drewN | apply Kd.R_drew)); exact HO_730002.out) hb); have n3_ := Aside0.mk (blk_below (g := gb729) (o := .cells #[.int .i64 t718, .slice Ao15 t719.length co15, .slice Ao16 t722.length co16, .int .i64 t725, .int .i64 t726, .int .i64 t727, .int .i64 t728] 45 (0, 0)) (by (with_reducible repeat (first | refine blk_drewN ?_ _ | refine blk_drew ?_ | refine blk_alloc ?_ _)); exact BK729.out) hb); have n4_ := Aside0.mk (below_step (by with_reducible repeat (first | exact HB.out | apply below_alloc | apply pw_below_drewN | apply below_drew1 | refine below_set ?_ GE729.out)) hb); clear HO_6; clear HO_730001; clear HO_730002; clear BK729; clear HB; have HO_6 := n0_; have HO_730001 := n1_; have HO_730002 := n2_; have BK729 := n3_; have HB := n4_; clear n0_ n1_ n2_ n3_ n4_; (try clear hb); (try clear hb2); (try clear hk); (try clear hi))); try go_wp2_with (first | (go_at_call 32; (with_reducible refine (impl_Works.calls kj55 t718 _ _ t719 _ _ t722 t725 t726 t727 t728 t738 _ _ t730 t748 _ ?side1 ?side2 ?side3 ?side4 ?side5 ?side6 A67.out).mono ?_); (case side1 => repeat (first | exact (Kd.S_reads' HO_730001.out).2.2 | (with_reducible refine Kd.C_alloc ?_ _) | (with_reducible refine Kd.C_drewN ?_ _) | (with_reducible refine Kd.C_drew ?_))); (case side2 => exact (Kd.S_reads' HO_730001.out).2.1); (case side3 => repeat (first | exact (Kd.R_reads' HO_730002.out).2.2 | (with_reducible refine Kd.C_alloc ?_ _) | (with_reducible refine Kd.C_drewN ?_ _) | (with_reducible refine Kd.C_drew ?_))); (case side4 => exact (Kd.R_reads' HO_730002.out).2.1); (case side5 => repeat (first | exact (Kd.R_reads' HO_6.out).2.2 | (with_reducible refine Kd.C_alloc ?_ _) | (with_reducible refine Kd.C_drewN ?_ _) | (with_reducible refine Kd.C_drew ?_))); (case side6 => exact (Kd.R_reads' HO_6.out).2.1); rintro e w72 ⟨rfl, hb⟩; have n0_ := Aside0.mk (Kd.R_below (by (with_reducible repeat (first | apply Kd.R_alloc | apply Kd.R_drewN | apply Kd.R_drew)); exact HO_6.out) hb); have n1_ := Aside0.mk (Kd.S_below (by (with_reducible repeat (first | apply Kd.S_alloc | apply Kd.S_drewN | apply Kd.S_drew)); exact HO_730001.out) hb); have n2_ := Aside0.mk (Kd.R_below (by (with_reducible repeat (first | apply Kd.R_alloc | apply Kd.R_drewN | apply Kd.R_drew)); exact HO_730002.out) hb); have n3_ := Aside0.mk (blk_below (g := gb729) (o := .cells #[.int .i64 t718, .slice Ao15 t719.length co15, .slice Ao16 t722.length co16, .int .i64 t725, .int .i64 t726, .int .i64 t727, .int .i64 t728] 45 (0, 0)) (by (with_reducible repeat (first | refine blk_drewN ?_ _ | refine blk_drew ?_ | refine blk_alloc ?_ _)); exact BK729.out) hb); have n4_ := Aside0.mk (below_step (by with_reducible repeat (first | exact HB.out | apply below_alloc | apply pw_below_drewN | apply below_drew1 | refine below_set ?_ GE729.out)) hb); clear HO_6; clear HO_730001; clear HO_730002; clear BK729; clear HB; have HO_6 := n0_; have HO_730001 := n1_; have HO_730002 := n2_; have BK729 := n3_; have HB := n4_; clear n0_ n1_ n2_ n3_ n4_; (try clear hb); (try clear hb2); (try clear hk); (try clear hi); have hcz73_0 : w72.cell? ⟨gb729, 0, none⟩ = some (.int .i64 t718) := (blk_cell BK729.out 0).trans rfl; have hcz73_1 : w72.cell? ⟨gb729, 1, none⟩ = some (.slice Ao15 t719.length co15) := (blk_cell BK729.out 1).trans rfl; have hcz73_2 : w72.cell? ⟨gb729, 2, none⟩ = some (.slice Ao16 t722.length co16) := (blk_cell BK729.out 2).trans rfl; have hcz73_3 : w72.cell? ⟨gb729, 3, none⟩ = some (.int .i64 t725) := (blk_cell BK729.out 3).trans rfl; have hcz73_4 : w72.cell? ⟨gb729, 4, none⟩ = some (.int .i64 t726) := (blk_cell BK729.out 4).trans rfl; have hcz73_5 : w72.cell? ⟨gb729, 5, none⟩ = some (.int .i64 t727) := (blk_cell BK729.out 5).trans rfl; have hcz73_6 : w72.cell? ⟨gb729, 6, none⟩ = some (.int .i64 t728) := (blk_cell BK729.out 6).trans rfl; have hfz73_0 := blk_frozen BK729.out 0; have hfz73_1 := blk_frozen BK729.out 1; have hfz73_2 := blk_frozen BK729.out 2; have hfz73_3 := blk_frozen BK729.out 3; have hfz73_4 := blk_frozen BK729.out 4; have hfz73_5 := blk_frozen BK729.out 5; have hfz73_6 := blk_frozen BK729.out 6) | (go_at_call 32; (with_reducible refine (impl_Works.calls kj55 t718 _ _ t719 _ _ t722 t725 t726 t727 t728 (wrap64 (t738 - 1)) _ _ t730 t749 _ ?side1 ?side2 ?side3 ?side4 ?side5 ?side6 A70.out).mono ?_); (case side1 => repeat (first | exact (Kd.S_reads' HO_730001.out).2.2 | (with_reducible refine Kd.C_alloc ?_ _) | (with_reducible refine Kd.C_drewN ?_ _) | (with_reducible refine Kd.C_drew ?_))); (case side2 => exact (Kd.S_reads' HO_730001.out).2.1); (case side3 => repeat (first | exact (Kd.R_reads' HO_730002.out).2.2 | (with_reducible refine Kd.C_alloc ?_ _) | (with_reducible refine Kd.C_drewN ?_ _) | (with_reducible refine Kd.C_drew ?_))); (case side4 => exact (Kd.R_reads' HO_730002.out).2.1); (case side5 => repeat (first | exact (Kd.R_reads' HO_6.out).2.2 | (with_reducible refine Kd.C_alloc ?_ _) | (with_reducible refine Kd.C_drewN ?_ _) | (with_reducible refine Kd.C_drew ?_))); (case side6 => exact (Kd.R_reads' HO_6.out).2.1); rintro e w74 ⟨rfl, hb⟩; have n0_ := Aside0.mk (Kd.R_below (by (with_reducible repeat (first | apply Kd.R_alloc | apply Kd.R_drewN | apply Kd.R_drew)); exact HO_6.out) hb); have n1_ := Aside0.mk (Kd.S_below (by (with_reducible repeat (first | apply Kd.S_alloc | apply Kd.S_drewN | apply Kd.S_drew)); exact HO_730001.out) hb); have n2_ := Aside0.mk (Kd.R_below (by (with_reducible repeat (first | apply Kd.R_alloc | apply Kd.R_drewN | apply Kd.R_drew)); exact HO_730002.out) hb); have n3_ := Aside0.mk (blk_below (g := gb729) (o := .cells #[.int .i64 t718, .slice Ao15 t719.length co15, .slice Ao16 t722.length co16, .int .i64 t725, .int .i64 t726, .int .i64 t727, .int .i64 t728] 45 (0, 0)) (by (with_reducible repeat (first | refine blk_drewN ?_ _ | refine blk_drew ?_ | refine blk_alloc ?_ _)); exact BK729.out) hb); have n4_ := Aside0.mk (below_step (by with_reducible repeat (first | exact HB.out | apply below_alloc | apply pw_below_drewN | apply below_drew1 | refine below_set ?_ GE729.out)) hb); clear HO_6; clear HO_730001; clear HO_730002; clear BK729; clear HB; have HO_6 := n0_; have HO_730001 := n1_; have HO_730002 := n2_; have BK729 := n3_; have HB := n4_; clear n0_ n1_ n2_ n3_ n4_; (try clear hb); (try clear hb2); (try clear hk); (try clear hi))))
             go_ret
             exact ⟨by first | rfl | (simp [errW_none, errW_some] <;> rfl) | (simp [*, errW_none, errW_some] <;> rfl), by with_reducible repeat (first | exact HB.out | apply below_alloc | apply pw_below_drewN | apply below_drew1 | refine below_set ?_ GE729.out)⟩
            ·rw [if_neg c69] at H
             have c69b0 : decide (1 < t738) = false := decide_eq_false c69
             clear c69
             obtain rfl := Option.some.inj H
             have hcz75_0 : wc.cell? ⟨gb729, 0, none⟩ = some (.int .i64 t718) := (blk_cell BK729.out 0).trans rfl
             have hcz75_1 : wc.cell? ⟨gb729, 1, none⟩ = some (.slice Ao15 t719.length co15) := (blk_cell BK729.out 1).trans rfl
             have hcz75_2 : wc.cell? ⟨gb729, 2, none⟩ = some (.slice Ao16 t722.length co16) := (blk_cell BK729.out 2).trans rfl
             have hcz75_3 : wc.cell? ⟨gb729, 3, none⟩ = some (.int .i64 t725) := (blk_cell BK729.out 3).trans rfl
             have hcz75_4 : wc.cell? ⟨gb729, 4, none⟩ = some (.int .i64 t726) := (blk_cell BK729.out 4).trans rfl
             have hcz75_5 : wc.cell? ⟨gb729, 5, none⟩ = some (.int .i64 t727) := (blk_cell BK729.out 5).trans rfl
             have hcz75_6 : wc.cell? ⟨gb729, 6, none⟩ = some (.int .i64 t728) := (blk_cell BK729.out 6).trans rfl
             have hfz75_0 := blk_frozen BK729.out 0
             have hfz75_1 := blk_frozen BK729.out 1
             have hfz75_2 := blk_frozen BK729.out 2
             have hfz75_3 := blk_frozen BK729.out 3
             have hfz75_4 := blk_frozen BK729.out 4
             have hfz75_5 := blk_frozen BK729.out 5
             have hfz75_6 := blk_frozen BK729.out 6
             go_wp2_with (first | (go_at_call 32; (with_reducible refine (impl_Works.calls kj55 t718 _ _ t719 _ _ t722 t725 t726 t727 t728 t738 _ _ t730 t748 _ ?side1 ?side2 ?side3 ?side4 ?side5 ?side6 A67.out).mono ?_); (case side1 => repeat (first | exact (Kd.S_reads' HO_730001.out).2.2 | (with_reducible refine Kd.C_alloc ?_ _) | (with_reducible refine Kd.C_drewN ?_ _) | (with_reducible refine Kd.C_drew ?_))); (case side2 => exact (Kd.S_reads' HO_730001.out).2.1); (case side3 => repeat (first | exact (Kd.R_reads' HO_730002.out).2.2 | (with_reducible refine Kd.C_alloc ?_ _) | (with_reducible refine Kd.C_drewN ?_ _) | (with_reducible refine Kd.C_drew ?_))); (case side4 => exact (Kd.R_reads' HO_730002.out).2.1); (case side5 => repeat (first | exact (Kd.R_reads' HO_6.out).2.2 | (with_reducible refine Kd.C_alloc ?_ _) | (with_reducible refine Kd.C_drewN ?_ _) | (with_reducible refine Kd.C_drew ?_))); (case side6 => exact (Kd.R_reads' HO_6.out).2.1); rintro e w76 ⟨rfl, hb⟩; have n0_ := Aside0.mk (Kd.R_below (by (with_reducible repeat (first | apply Kd.R_alloc | apply Kd.R_drewN | apply Kd.R_drew)); exact HO_6.out) hb); have n1_ := Aside0.mk (Kd.S_below (by (with_reducible repeat (first | apply Kd.S_alloc | apply Kd.S_drewN | apply Kd.S_drew)); exact HO_730001.out) hb); have n2_ := Aside0.mk (Kd.R_below (by (with_reducible repeat (first | apply Kd.R_alloc | apply Kd.R_drewN | apply Kd.R_drew)); exact HO_730002.out) hb); have n3_ := Aside0.mk (blk_below (g := gb729) (o := .cells #[.int .i64 t718, .slice Ao15 t719.length co15, .slice Ao16 t722.length co16, .int .i64 t725, .int .i64 t726, .int .i64 t727, .int .i64 t728] 45 (0, 0)) (by (with_reducible repeat (first | refine blk_drewN ?_ _ | refine blk_drew ?_ | refine blk_alloc ?_ _)); exact BK729.out) hb); have n4_ := Aside0.mk (below_step (by with_reducible repeat (first | exact HB.out | apply below_alloc | apply pw_below_drewN | apply below_drew1 | refine below_set ?_ GE729.out)) hb); clear HO_6; clear HO_730001; clear HO_730002; clear BK729; clear HB; have HO_6 := n0_; have HO_730001 := n1_; have HO_730002 := n2_; have BK729 := n3_; have HB := n4_; clear n0_ n1_ n2_ n3_ n4_; (try clear hb); (try clear hb2); (try clear hk); (try clear hi)))
             repeat (go_quiet ((go_at_call 32; (with_reducible refine (impl_Works.calls kj55 t718 _ _ t719 _ _ t722 t725 t726 t727 t728 t738 _ _ t730 t748 _ ?side1 ?side2 ?side3 ?side4 ?side5 ?side6 A67.out).mono ?_); (case side1 => repeat (first | exact (Kd.S_reads' HO_730001.out).2.2 | (with_reducible refine Kd.C_alloc ?_ _) | (with_reducible refine Kd.C_drewN ?_ _) | (with_reducible refine Kd.C_drew ?_))); (case side2 => exact (Kd.S_reads' HO_730001.out).2.1); (case side3 => repeat (first | exact (Kd.R_reads' HO_730002.out).2.2 | (with_reducible refine Kd.C_alloc ?_ _) | (with_reducible refine Kd.C_drewN ?_ _) | (with_reducible refine Kd.C_drew ?_))); (case side4 => exact (Kd.R_reads' HO_730002.out).2.1); (case side5 => repeat (first | exact (Kd.R_reads' HO_6.out).2.2 | (with_reducible refine Kd.C_alloc ?_ _) | (with_reducible refine Kd.C_drewN ?_ _) | (with_reducible refine Kd.C_drew ?_))); (case side6 => exact (Kd.R_reads' HO_6.out).2.1); rintro e w76 ⟨rfl, hb⟩; have n0_ := Aside0.mk (Kd.R_below (by (with_reducible repeat (first | apply Kd.R_alloc | apply Kd.R_drewN | apply Kd.R_drew)); exact HO_6.out) hb); have n1_ := Aside0.mk (Kd.S_below (by (with_reducible repeat (first | apply Kd.S_alloc | apply Kd.S_drewN | apply Kd.S_drew)); exact HO_730001.out) hb); have n2_ := Aside0.mk (Kd.R_below (by (with_reducible repeat (first | apply Kd.R_alloc | apply Kd.R_drewN | apply Kd.R_drew)); exact HO_730002.out) hb); have n3_ := Aside0.mk (blk_below (g := gb729) (o := .cells #[.int .i64 t718, .slice Ao15 t719.length co15, .slice Ao16 t722.length co16, .int .i64 t725, .int .i64 t726, .int .i64 t727, .int .i64 t728] 45 (0, 0)) (by (with_reducible repeat (first | refine blk_drewN ?_ _ | refine blk_drew ?_ | refine blk_alloc ?_ _)); exact BK729.out) hb); have n4_ := Aside0.mk (below_step (by with_reducible repeat (first | exact HB.out | apply below_alloc | apply pw_below_drewN | apply below_drew1 | refine below_set ?_ GE729.out)) hb); clear HO_6; clear HO_730001; clear HO_730002; clear BK729; clear HB; have HO_6 := n0_; have HO_730001 := n1_; have HO_730002 := n2_; have BK729 := n3_; have HB := n4_; clear n0_ n1_ n2_ n3_ n4_; (try clear hb); (try clear hb2); (try clear hk); (try clear hi))); try go_wp2_with (first | (go_at_call 32; (with_reducible refine (impl_Works.calls kj55 t718 _ _ t719 _ _ t722 t725 t726 t727 t728 t738 _ _ t730 t748 _ ?side1 ?side2 ?side3 ?side4 ?side5 ?side6 A67.out).mono ?_); (case side1 => repeat (first | exact (Kd.S_reads' HO_730001.out).2.2 | (with_reducible refine Kd.C_alloc ?_ _) | (with_reducible refine Kd.C_drewN ?_ _) | (with_reducible refine Kd.C_drew ?_))); (case side2 => exact (Kd.S_reads' HO_730001.out).2.1); (case side3 => repeat (first | exact (Kd.R_reads' HO_730002.out).2.2 | (with_reducible refine Kd.C_alloc ?_ _) | (with_reducible refine Kd.C_drewN ?_ _) | (with_reducible refine Kd.C_drew ?_))); (case side4 => exact (Kd.R_reads' HO_730002.out).2.1); (case side5 => repeat (first | exact (Kd.R_reads' HO_6.out).2.2 | (with_reducible refine Kd.C_alloc ?_ _) | (with_reducible refine Kd.C_drewN ?_ _) | (with_reducible refine Kd.C_drew ?_))); (case side6 => exact (Kd.R_reads' HO_6.out).2.1); rintro e w76 ⟨rfl, hb⟩; have n0_ := Aside0.mk (Kd.R_below (by (with_reducible repeat (first | apply Kd.R_alloc | apply Kd.R_drewN | apply Kd.R_drew)); exact HO_6.out) hb); have n1_ := Aside0.mk (Kd.S_below (by (with_reducible repeat (first | apply Kd.S_alloc | apply Kd.S_drewN | apply Kd.S_drew)); exact HO_730001.out) hb); have n2_ := Aside0.mk (Kd.R_below (by (with_reducible repeat (first | apply Kd.R_alloc | apply Kd.R_drewN | apply Kd.R_drew)); exact HO_730002.out) hb); have n3_ := Aside0.mk (blk_below (g := gb729) (o := .cells #[.int .i64 t718, .slice Ao15 t719.length co15, .slice Ao16 t722.length co16, .int .i64 t725, .int .i64 t726, .int .i64 t727, .int .i64 t728] 45 (0, 0)) (by (with_reducible repeat (first | refine blk_drewN ?_ _ | refine blk_drew ?_ | refine blk_alloc ?_ _)); exact BK729.out) hb); have n4_ := Aside0.mk (below_step (by with_reducible repeat (first | exact HB.out | apply below_alloc | apply pw_below_drewN | apply below_drew1 | refine below_set ?_ GE729.out)) hb); clear HO_6; clear HO_730001; clear HO_730002; clear BK729; clear HB; have HO_6 := n0_; have HO_730001 := n1_; have HO_730002 := n2_; have BK729 := n3_; have HB := n4_; clear n0_ n1_ n2_ n3_ n4_; (try clear hb); (try clear hb2); (try clear hk); (try clear hi))))
             go_ret
             exact ⟨by first | rfl | (simp [errW_none, errW_some] <;> rfl) | (simp [*, errW_none, errW_some] <;> rfl), by with_reducible repeat (first | exact HB.out | apply below_alloc | apply pw_below_drewN | apply below_drew1 | refine below_set ?_ GE729.out)⟩
           ·rw [if_neg c68] at H
            have c68b0 : (t748 == (decide (t736 ≥ 0))) = false := by simpa using c68
            (try (have c68b1 : decide (t748 = (decide (t736 ≥ 0))) = false := by simpa using c68))
            (try (have c68b2 : (t748 == (decide (t736 ≥ 0))) = false := by simpa using c68))
            (try (have c68b3 : ¬ (t748 = (decide (t736 ≥ 0))) := by simpa using c68))
            clear c68
            obtain rfl := Option.some.inj H
            have hcz77_0 : wc.cell? ⟨gb729, 0, none⟩ = some (.int .i64 t718) := (blk_cell BK729.out 0).trans rfl
            have hcz77_1 : wc.cell? ⟨gb729, 1, none⟩ = some (.slice Ao15 t719.length co15) := (blk_cell BK729.out 1).trans rfl
            have hcz77_2 : wc.cell? ⟨gb729, 2, none⟩ = some (.slice Ao16 t722.length co16) := (blk_cell BK729.out 2).trans rfl
            have hcz77_3 : wc.cell? ⟨gb729, 3, none⟩ = some (.int .i64 t725) := (blk_cell BK729.out 3).trans rfl
            have hcz77_4 : wc.cell? ⟨gb729, 4, none⟩ = some (.int .i64 t726) := (blk_cell BK729.out 4).trans rfl
            have hcz77_5 : wc.cell? ⟨gb729, 5, none⟩ = some (.int .i64 t727) := (blk_cell BK729.out 5).trans rfl
            have hcz77_6 : wc.cell? ⟨gb729, 6, none⟩ = some (.int .i64 t728) := (blk_cell BK729.out 6).trans rfl
            have hfz77_0 := blk_frozen BK729.out 0
            have hfz77_1 := blk_frozen BK729.out 1
            have hfz77_2 := blk_frozen BK729.out 2
            have hfz77_3 := blk_frozen BK729.out 3
            have hfz77_4 := blk_frozen BK729.out 4
            have hfz77_5 := blk_frozen BK729.out 5
            have hfz77_6 := blk_frozen BK729.out 6
            go_wp2_with (first | (go_at_call 32; (with_reducible refine (impl_Works.calls kj55 t718 _ _ t719 _ _ t722 t725 t726 t727 t728 t738 _ _ t730 t748 _ ?side1 ?side2 ?side3 ?side4 ?side5 ?side6 A67.out).mono ?_); (case side1 => repeat (first | exact (Kd.S_reads' HO_730001.out).2.2 | (with_reducible refine Kd.C_alloc ?_ _) | (with_reducible refine Kd.C_drewN ?_ _) | (with_reducible refine Kd.C_drew ?_))); (case side2 => exact (Kd.S_reads' HO_730001.out).2.1); (case side3 => repeat (first | exact (Kd.R_reads' HO_730002.out).2.2 | (with_reducible refine Kd.C_alloc ?_ _) | (with_reducible refine Kd.C_drewN ?_ _) | (with_reducible refine Kd.C_drew ?_))); (case side4 => exact (Kd.R_reads' HO_730002.out).2.1); (case side5 => repeat (first | exact (Kd.R_reads' HO_6.out).2.2 | (with_reducible refine Kd.C_alloc ?_ _) | (with_reducible refine Kd.C_drewN ?_ _) | (with_reducible refine Kd.C_drew ?_))); (case side6 => exact (Kd.R_reads' HO_6.out).2.1); rintro e w78 ⟨rfl, hb⟩; have n0_ := Aside0.mk (Kd.R_below (by (with_reducible repeat (first | apply Kd.R_alloc | apply Kd.R_drewN | apply Kd.R_drew)); exact HO_6.out) hb); have n1_ := Aside0.mk (Kd.S_below (by (with_reducible repeat (first | apply Kd.S_alloc | apply Kd.S_drewN | apply Kd.S_drew)); exact HO_730001.out) hb); have n2_ := Aside0.mk (Kd.R_below (by (with_reducible repeat (first | apply Kd.R_alloc | apply Kd.R_drewN | apply Kd.R_drew)); exact HO_730002.out) hb); have n3_ := Aside0.mk (blk_below (g := gb729) (o := .cells #[.int .i64 t718, .slice Ao15 t719.length co15, .slice Ao16 t722.length co16, .int .i64 t725, .int .i64 t726, .int .i64 t727, .int .i64 t728] 45 (0, 0)) (by (with_reducible repeat (first | refine blk_drewN ?_ _ | refine blk_drew ?_ | refine blk_alloc ?_ _)); exact BK729.out) hb); have n4_ := Aside0.mk (below_step (by with_reducible repeat (first | exact HB.out | apply below_alloc | apply pw_below_drewN | apply below_drew1 | refine below_set ?_ GE729.out)) hb); clear HO_6; clear HO_730001; clear HO_730002; clear BK729; clear HB; have HO_6 := n0_; have HO_730001 := n1_; have HO_730002 := n2_; have BK729 := n3_; have HB := n4_; clear n0_ n1_ n2_ n3_ n4_; (try clear hb); (try clear hb2); (try clear hk); (try clear hi)))
            repeat (go_quiet ((go_at_call 32; (with_reducible refine (impl_Works.calls kj55 t718 _ _ t719 _ _ t722 t725 t726 t727 t728 t738 _ _ t730 t748 _ ?side1 ?side2 ?side3 ?side4 ?side5 ?side6 A67.out).mono ?_); (case side1 => repeat (first | exact (Kd.S_reads' HO_730001.out).2.2 | (with_reducible refine Kd.C_alloc ?_ _) | (with_reducible refine Kd.C_drewN ?_ _) | (with_reducible refine Kd.C_drew ?_))); (case side2 => exact (Kd.S_reads' HO_730001.out).2.1); (case side3 => repeat (first | exact (Kd.R_reads' HO_730002.out).2.2 | (with_reducible refine Kd.C_alloc ?_ _) | (with_reducible refine Kd.C_drewN ?_ _) | (with_reducible refine Kd.C_drew ?_))); (case side4 => exact (Kd.R_reads' HO_730002.out).2.1); (case side5 => repeat (first | exact (Kd.R_reads' HO_6.out).2.2 | (with_reducible refine Kd.C_alloc ?_ _) | (with_reducible refine Kd.C_drewN ?_ _) | (with_reducible refine Kd.C_drew ?_))); (case side6 => exact (Kd.R_reads' HO_6.out).2.1); rintro e w78 ⟨rfl, hb⟩; have n0_ := Aside0.mk (Kd.R_below (by (with_reducible repeat (first | apply Kd.R_alloc | apply Kd.R_drewN | apply Kd.R_drew)); exact HO_6.out) hb); have n1_ := Aside0.mk (Kd.S_below (by (with_reducible repeat (first | apply Kd.S_alloc | apply Kd.S_drewN | apply Kd.S_drew)); exact HO_730001.out) hb); have n2_ := Aside0.mk (Kd.R_below (by (with_reducible repeat (first | apply Kd.R_alloc | apply Kd.R_drewN | apply Kd.R_drew)); exact HO_730002.out) hb); have n3_ := Aside0.mk (blk_below (g := gb729) (o := .cells #[.int .i64 t718, .slice Ao15 t719.length co15, .slice Ao16 t722.length co16, .int .i64 t725, .int .i64 t726, .int .i64 t727, .int .i64 t728] 45 (0, 0)) (by (with_reducible repeat (first | refine blk_drewN ?_ _ | refine blk_drew ?_ | refine blk_alloc ?_ _)); exact BK729.out) hb); have n4_ := Aside0.mk (below_step (by with_reducible repeat (first | exact HB.out | apply below_alloc | apply pw_below_drewN | apply below_drew1 | refine below_set ?_ GE729.out)) hb); clear HO_6; clear HO_730001; clear HO_730002; clear BK729; clear HB; have HO_6 := n0_; have HO_730001 := n1_; have HO_730002 := n2_; have BK729 := n3_; have HB := n4_; clear n0_ n1_ n2_ n3_ n4_; (try clear hb); (try clear hb2); (try clear hk); (try clear hi))); try go_wp2_with (first | (go_at_call 32; (with_reducible refine (impl_Works.calls kj55 t718 _ _ t719 _ _ t722 t725 t726 t727 t728 t738 _ _ t730 t748 _ ?side1 ?side2 ?side3 ?side4 ?side5 ?side6 A67.out).mono ?_); (case side1 => repeat (first | exact (Kd.S_reads' HO_730001.out).2.2 | (with_reducible refine Kd.C_alloc ?_ _) | (with_reducible refine Kd.C_drewN ?_ _) | (with_reducible refine Kd.C_drew ?_))); (case side2 => exact (Kd.S_reads' HO_730001.out).2.1); (case side3 => repeat (first | exact (Kd.R_reads' HO_730002.out).2.2 | (with_reducible refine Kd.C_alloc ?_ _) | (with_reducible refine Kd.C_drewN ?_ _) | (with_reducible refine Kd.C_drew ?_))); (case side4 => exact (Kd.R_reads' HO_730002.out).2.1); (case side5 => repeat (first | exact (Kd.R_reads' HO_6.out).2.2 | (with_reducible refine Kd.C_alloc ?_ _) | (with_reducible refine Kd.C_drewN ?_ _) | (with_reducible refine Kd.C_drew ?_))); (case side6 => exact (Kd.R_reads' HO_6.out).2.1); rintro e w78 ⟨rfl, hb⟩; have n0_ := Aside0.mk (Kd.R_below (by (with_reducible repeat (first | apply Kd.R_alloc | apply Kd.R_drewN | apply Kd.R_drew)); exact HO_6.out) hb); have n1_ := Aside0.mk (Kd.S_below (by (with_reducible repeat (first | apply Kd.S_alloc | apply Kd.S_drewN | apply Kd.S_drew)); exact HO_730001.out) hb); have n2_ := Aside0.mk (Kd.R_below (by (with_reducible repeat (first | apply Kd.R_alloc | apply Kd.R_drewN | apply Kd.R_drew)); exact HO_730002.out) hb); have n3_ := Aside0.mk (blk_below (g := gb729) (o := .cells #[.int .i64 t718, .slice Ao15 t719.length co15, .slice Ao16 t722.length co16, .int .i64 t725, .int .i64 t726, .int .i64 t727, .int .i64 t728] 45 (0, 0)) (by (with_reducible repeat (first | refine blk_drewN ?_ _ | refine blk_drew ?_ | refine blk_alloc ?_ _)); exact BK729.out) hb); have n4_ := Aside0.mk (below_step (by with_reducible repeat (first | exact HB.out | apply below_alloc | apply pw_below_drewN | apply below_drew1 | refine below_set ?_ GE729.out)) hb); clear HO_6; clear HO_730001; clear HO_730002; clear BK729; clear HB; have HO_6 := n0_; have HO_730001 := n1_; have HO_730002 := n2_; have BK729 := n3_; have HB := n4_; clear n0_ n1_ n2_ n3_ n4_; (try clear hb); (try clear hb2); (try clear hk); (try clear hi))))
            go_ret
            exact ⟨by first | rfl | (simp [errW_none, errW_some] <;> rfl) | (simp [*, errW_none, errW_some] <;> rfl), by with_reducible repeat (first | exact HB.out | apply below_alloc | apply pw_below_drewN | apply below_drew1 | refine below_set ?_ GE729.out)⟩

/-- THE ONE PURE STATEMENT of laws_FnRooms: yours. -/
def laws_FnRooms.Pure : Prop := ∀ (l0 : List Int) (l1 : List Int), l0.length ≤ maxLen → l0.length * 1 ≤ 140737488351232 → (∀ x ∈ l0, (Lit.int .u8 x).wf = true) → l1.length ≤ maxLen → l1.length * 1 ≤ 140737488351232 → (∀ x ∈ l1, (Lit.int .u8 x).wf = true) → ∃ k, laws_FnRooms.f k l0 l1 = some true
theorem laws_FnRooms.walk (P : laws_FnRooms.Pure) (a0 : Option Addr) (len0 cap0 : Nat) (z0 : List Int) (a1 : Option Addr) (len1 cap1 : Nat) (z1 : List Int) (w : World) (w0 : (a0 = none ∧ len0 = 0 ∧ cap0 = 0 ∧ z0 = []) ∨ ∃ x, a0 = some x ∧ len0 ≤ cap0 ∧ cap0 ≤ maxLen ∧ z0.length = cap0 ∧ (∀ i, i < z0.length → w.cell? (x.add i) = some (.int .u8 (z0.getD i 0))) ∧ ∀ n ∈ z0, (Lit.int .u8 n).wf = true) (y0 : len0 * 1 ≤ 140737488351232) (w1 : (a1 = none ∧ len1 = 0 ∧ cap1 = 0 ∧ z1 = []) ∨ ∃ x, a1 = some x ∧ len1 ≤ cap1 ∧ cap1 ≤ maxLen ∧ z1.length = cap1 ∧ (∀ i, i < z1.length → w.cell? (x.add i) = some (.int .u8 (z1.getD i 0))) ∧ ∀ n ∈ z1, (Lit.int .u8 n).wf = true) (y1 : len1 * 1 ≤ 140737488351232) :
  Calls Try.prog 7 #[.slice a0 len0 cap0, .slice a1 len1 cap1] w fun e w' => e = .returned (.bool true) ∧ Below w.heap.size w w' := by
 obtain ⟨l0, rfl, hr0, hm0, hw0, hc0⟩ := ReadsInt.ofRowC w0
 obtain ⟨l1, rfl, hr1, hm1, hw1, hc1⟩ := ReadsInt.ofRowC w1
 obtain ⟨k, h⟩ := P l0 l1 hm0 y0 hw0 hm1 y1 hw1
 refine (laws_FnRooms.calls k _ _ l0 _ _ l1 true w (Kd.C_of_reads (d := (0 : Int)) (h1 := fun _ => rfl) hr0) hc0 (Kd.C_of_reads (d := (0 : Int)) (h1 := fun _ => rfl) hr1) hc1 h).mono ?_
 rintro e w' ⟨rfl, hd⟩
 exact ⟨rfl, hd⟩

end Go.Proofs.Ytahjcmmgdcedpaa.Pa
