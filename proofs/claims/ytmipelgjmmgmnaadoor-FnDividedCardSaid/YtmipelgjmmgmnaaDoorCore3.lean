-- Written for this claim by a program of this session.
import Derived.Test.YtmipelgjmmgmnaaDoorPax0
import Derived.Test.YtmipelgjmmgmnaaDoorCore1
import Derived.Test.YtmipelgjmmgmnaaDoorCore2
namespace Go.Proofs.YtmipelgjmmgmnaaDoor.Pa
open Go.RowKit Go.Proofs.YtmipelgjmmgmnaaDoorW.PrintWords Go.Proofs.YtmipelgjmmgmnaaDoorW.PrintLast Go.Proofs.YtmipelgjmmgmnaaDoorW.PrintMore
attribute [local go_sem] max2_int min2_int max_two min_two max_three min_three max_four min_four   -- for this text's walks alone
set_option linter.unusedVariables false
set_option linter.unusedSimpArgs false

/-! ### laws_FnDivided: function 14 -/
mutual
def laws_FnDivided.j0 : Nat → ByteArray → Int → Int → ByteArray → Int → ByteArray → Bool → Option (Bool)
 | 0, _, _, _, _, _, _, _ => none
 | k + 1, x5, x6, x7, x10, x16, x17, x109 => if x109 = true then (some false) else (laws_FnDivided.l0 k x5 x6 x7 x10 x16 x17 0 0 0)
def laws_FnDivided.l0 : Nat → ByteArray → Int → Int → ByteArray → Int → ByteArray → Int → Int → Int → Option (Bool)
 | 0, _, _, _, _, _, _, _, _, _ => none
 | k + 1, x5, x6, x7, x10, x16, x17, x19, x20, x21 => if x21 < (x5.size : Int) then ((laws_b10Ups.f k x5 (wrap64 (x21 + 1))).bind fun t440 => (if t440 > 0 then (if x6 = 0 then (none) else (laws_FnDivided.j2 k x5 x6 x7 x10 x16 x17 x19 x20 x21 48 (decide ((Int.tmod (wrap64 (t440 - 1)) x6) < x7)))) else (laws_FnDivided.j2 k x5 x6 x7 x10 x16 x17 x19 x20 x21 48 false))) else (if x16 = 0 then (none) else (some (x20 == (wrap64 (Int.tdiv (wrap64 ((wrap64 (x19 + x16)) - 1)) x16)))))
def laws_FnDivided.j2 : Nat → ByteArray → Int → Int → ByteArray → Int → ByteArray → Int → Int → Int → Int → Bool → Option (Bool)
 | 0, _, _, _, _, _, _, _, _, _, _, _ => none
 | k + 1, x5, x6, x7, x10, x16, x17, x19, x20, x21, x23, x129 => if x129 = true then (laws_FnDivided.j3 k x5 x6 x7 x10 x16 x17 x19 x20 x21 49) else (laws_FnDivided.j3 k x5 x6 x7 x10 x16 x17 x19 x20 x21 x23)
def laws_FnDivided.j3 : Nat → ByteArray → Int → Int → ByteArray → Int → ByteArray → Int → Int → Int → Int → Option (Bool)
 | 0, _, _, _, _, _, _, _, _, _, _ => none
 | k + 1, x5, x6, x7, x10, x16, x17, x19, x20, x21, x23 => if 0 ≤ x21 then (if x21 < (x10.size : Int) then (if (bt x10 x21) = x23 then (if x21 = 0 then (if x21 < (x5.size : Int) then (if (bt x5 x21) = 49 then (laws_FnDivided.j4 k x5 x6 x7 x10 x16 x17 x19 x20 x21 true) else (if x21 > 0 then (if 0 ≤ (wrap64 (x21 - 1)) then (if (wrap64 (x21 - 1)) < (x5.size : Int) then (laws_FnDivided.j4 k x5 x6 x7 x10 x16 x17 x19 x20 x21 ((bt x5 x21) != (bt x5 (wrap64 (x21 - 1))))) else (none)) else (none)) else (laws_FnDivided.j4 k x5 x6 x7 x10 x16 x17 x19 x20 x21 false))) else (none)) else (if x21 > 0 then (if x21 < (x5.size : Int) then (if 0 ≤ (wrap64 (x21 - 1)) then (if (wrap64 (x21 - 1)) < (x5.size : Int) then (laws_FnDivided.j4 k x5 x6 x7 x10 x16 x17 x19 x20 x21 ((bt x5 x21) != (bt x5 (wrap64 (x21 - 1))))) else (none)) else (none)) else (none)) else (laws_FnDivided.j4 k x5 x6 x7 x10 x16 x17 x19 x20 x21 false))) else (some false)) else (none)) else (none)
def laws_FnDivided.j4 : Nat → ByteArray → Int → Int → ByteArray → Int → ByteArray → Int → Int → Int → Bool → Option (Bool)
 | 0, _, _, _, _, _, _, _, _, _, _ => none
 | k + 1, x5, x6, x7, x10, x16, x17, x19, x20, x21, x156 => if x156 = true then (if x21 = 0 then (if 0 ≤ x21 then (if x21 < (x17.size : Int) then (if (bt x17 x21) = 49 then (laws_FnDivided.l0 k x5 x6 x7 x10 x16 x17 (wrap64 (x19 + 1)) (wrap64 (x20 + 1)) (wrap64 (x21 + 1))) else (if x21 > 0 then (if 0 ≤ (wrap64 (x21 - 1)) then (if (wrap64 (x21 - 1)) < (x17.size : Int) then (if (bt x17 x21) = (bt x17 (wrap64 (x21 - 1))) then (laws_FnDivided.l0 k x5 x6 x7 x10 x16 x17 (wrap64 (x19 + 1)) x20 (wrap64 (x21 + 1))) else (laws_FnDivided.l0 k x5 x6 x7 x10 x16 x17 (wrap64 (x19 + 1)) (wrap64 (x20 + 1)) (wrap64 (x21 + 1)))) else (none)) else (none)) else (laws_FnDivided.l0 k x5 x6 x7 x10 x16 x17 (wrap64 (x19 + 1)) x20 (wrap64 (x21 + 1))))) else (none)) else (none)) else (if x21 > 0 then (if 0 ≤ x21 then (if x21 < (x17.size : Int) then (if 0 ≤ (wrap64 (x21 - 1)) then (if (wrap64 (x21 - 1)) < (x17.size : Int) then (if (bt x17 x21) = (bt x17 (wrap64 (x21 - 1))) then (laws_FnDivided.l0 k x5 x6 x7 x10 x16 x17 (wrap64 (x19 + 1)) x20 (wrap64 (x21 + 1))) else (laws_FnDivided.l0 k x5 x6 x7 x10 x16 x17 (wrap64 (x19 + 1)) (wrap64 (x20 + 1)) (wrap64 (x21 + 1)))) else (none)) else (none)) else (none)) else (none)) else (laws_FnDivided.l0 k x5 x6 x7 x10 x16 x17 (wrap64 (x19 + 1)) x20 (wrap64 (x21 + 1))))) else (if x21 = 0 then (if 0 ≤ x21 then (if x21 < (x17.size : Int) then (if (bt x17 x21) = 49 then (laws_FnDivided.l0 k x5 x6 x7 x10 x16 x17 x19 (wrap64 (x20 + 1)) (wrap64 (x21 + 1))) else (if x21 > 0 then (if 0 ≤ (wrap64 (x21 - 1)) then (if (wrap64 (x21 - 1)) < (x17.size : Int) then (if (bt x17 x21) = (bt x17 (wrap64 (x21 - 1))) then (laws_FnDivided.l0 k x5 x6 x7 x10 x16 x17 x19 x20 (wrap64 (x21 + 1))) else (laws_FnDivided.l0 k x5 x6 x7 x10 x16 x17 x19 (wrap64 (x20 + 1)) (wrap64 (x21 + 1)))) else (none)) else (none)) else (laws_FnDivided.l0 k x5 x6 x7 x10 x16 x17 x19 x20 (wrap64 (x21 + 1))))) else (none)) else (none)) else (if x21 > 0 then (if 0 ≤ x21 then (if x21 < (x17.size : Int) then (if 0 ≤ (wrap64 (x21 - 1)) then (if (wrap64 (x21 - 1)) < (x17.size : Int) then (if (bt x17 x21) = (bt x17 (wrap64 (x21 - 1))) then (laws_FnDivided.l0 k x5 x6 x7 x10 x16 x17 x19 x20 (wrap64 (x21 + 1))) else (laws_FnDivided.l0 k x5 x6 x7 x10 x16 x17 x19 (wrap64 (x20 + 1)) (wrap64 (x21 + 1)))) else (none)) else (none)) else (none)) else (none)) else (laws_FnDivided.l0 k x5 x6 x7 x10 x16 x17 x19 x20 (wrap64 (x21 + 1)))))
end
def laws_FnDivided.f (k : Nat) (l0 : List Int) (l1 : List Int) : Option (Bool) := (laws_b10Long.f l0 l1).bind fun t420 => (if t420 = true then (some true) else ((spec_B10Wave.f k l0).bind fun t421 => ((laws_b10At.f l1 0 6).bind fun t422 => ((laws_b10At.f l1 1 (wrap64 ((wrap64 (1 + t422)) + 1))).bind fun t423 => ((laws_b10At.f l1 2 4).bind fun t425 => ((impl_DivideWave.f (wrap64 (1 + t422)) t423 t421).bind fun bt427 => ((impl_DivideWave.f (wrap64 (1 + t425)) 1 bt427.1).bind fun bt429 => ((impl_DivideChain.f (([(⟨wrap64 (1 + t422), t423⟩ : S32), (⟨wrap64 (1 + t425), 1⟩ : S32)] : List (S32))) t421).bind fun bt434 => ((laws_b10At.f l1 3 5).bind fun t436 => ((impl_ToggleWave.f (wrap64 (1 + t436)) t421).bind fun bt437 => (if bt427.2 = true then (if bt429.2 = true then (if bt434.2 = true then (if bt437.2 = true then (if bt429.1.toList = bt434.1.toList then (if (bt427.1.size : Int) = (t421.size : Int) then (if (bt437.1.size : Int) = (t421.size : Int) then ((impl_ValidDivider.f (wrap64 (1 + t422)) t423).bind fun t439 => (laws_FnDivided.j0 k t421 (wrap64 (1 + t422)) t423 bt427.1 (wrap64 (1 + t436)) bt437.1 (!t439))) else (laws_FnDivided.j0 k t421 (wrap64 (1 + t422)) t423 bt427.1 (wrap64 (1 + t436)) bt437.1 true)) else (laws_FnDivided.j0 k t421 (wrap64 (1 + t422)) t423 bt427.1 (wrap64 (1 + t436)) bt437.1 true)) else (laws_FnDivided.j0 k t421 (wrap64 (1 + t422)) t423 bt427.1 (wrap64 (1 + t436)) bt437.1 true)) else (laws_FnDivided.j0 k t421 (wrap64 (1 + t422)) t423 bt427.1 (wrap64 (1 + t436)) bt437.1 true)) else (laws_FnDivided.j0 k t421 (wrap64 (1 + t422)) t423 bt427.1 (wrap64 (1 + t436)) bt437.1 true)) else (laws_FnDivided.j0 k t421 (wrap64 (1 + t422)) t423 bt427.1 (wrap64 (1 + t436)) bt437.1 true)) else (laws_FnDivided.j0 k t421 (wrap64 (1 + t422)) t423 bt427.1 (wrap64 (1 + t436)) bt437.1 true))))))))))))
theorem laws_FnDivided.mono_l : ∀ k, (∀ y0 y1 y2 y3 y4 y5 y6, LeO (laws_FnDivided.j0 k y0 y1 y2 y3 y4 y5 y6) (laws_FnDivided.j0 (k + 1) y0 y1 y2 y3 y4 y5 y6)) ∧ (∀ y0 y1 y2 y3 y4 y5 y6 y7 y8, LeO (laws_FnDivided.l0 k y0 y1 y2 y3 y4 y5 y6 y7 y8) (laws_FnDivided.l0 (k + 1) y0 y1 y2 y3 y4 y5 y6 y7 y8)) ∧ (∀ y0 y1 y2 y3 y4 y5 y6 y7 y8 y9 y10, LeO (laws_FnDivided.j2 k y0 y1 y2 y3 y4 y5 y6 y7 y8 y9 y10) (laws_FnDivided.j2 (k + 1) y0 y1 y2 y3 y4 y5 y6 y7 y8 y9 y10)) ∧ (∀ y0 y1 y2 y3 y4 y5 y6 y7 y8 y9, LeO (laws_FnDivided.j3 k y0 y1 y2 y3 y4 y5 y6 y7 y8 y9) (laws_FnDivided.j3 (k + 1) y0 y1 y2 y3 y4 y5 y6 y7 y8 y9)) ∧ (∀ y0 y1 y2 y3 y4 y5 y6 y7 y8 y9, LeO (laws_FnDivided.j4 k y0 y1 y2 y3 y4 y5 y6 y7 y8 y9) (laws_FnDivided.j4 (k + 1) y0 y1 y2 y3 y4 y5 y6 y7 y8 y9))
 | 0 => ⟨fun _ _ _ _ _ _ _ r h => by simp [laws_FnDivided.j0] at h, fun _ _ _ _ _ _ _ _ _ r h => by simp [laws_FnDivided.l0] at h, fun _ _ _ _ _ _ _ _ _ _ _ r h => by simp [laws_FnDivided.j2] at h, fun _ _ _ _ _ _ _ _ _ _ r h => by simp [laws_FnDivided.j3] at h, fun _ _ _ _ _ _ _ _ _ _ r h => by simp [laws_FnDivided.j4] at h⟩
 | k + 1 => by
  obtain ⟨ih0, ih1, ih2, ih3, ih4⟩ := laws_FnDivided.mono_l k
  refine ⟨?_, ?_, ?_, ?_, ?_⟩
  ·intro y0 y1 y2 y3 y4 y5 y6
   unfold laws_FnDivided.j0
   repeat' first
   | (with_reducible exact ih0 _ _ _ _ _ _ _)
   | (with_reducible exact ih1 _ _ _ _ _ _ _ _ _)
   | (with_reducible exact ih2 _ _ _ _ _ _ _ _ _ _ _)
   | (with_reducible exact ih3 _ _ _ _ _ _ _ _ _ _)
   | (with_reducible exact ih4 _ _ _ _ _ _ _ _ _ _)
   | (with_reducible exact laws_b10Ups.mono _ _ _)
   | (with_reducible exact spec_B10Wave.mono _ _)
   | (with_reducible exact LeO.refl _)
   | (with_reducible exact LeO.none _)
   | (with_reducible refine LeO.ite ?_ ?_)
   | (with_reducible refine LeO.bind ?_ (fun _ => ?_))
   | exact ih0 _ _ _ _ _ _ _
   | exact ih1 _ _ _ _ _ _ _ _ _
   | exact ih2 _ _ _ _ _ _ _ _ _ _ _
   | exact ih3 _ _ _ _ _ _ _ _ _ _
   | exact ih4 _ _ _ _ _ _ _ _ _ _
   | exact laws_b10Ups.mono _ _ _
   | exact spec_B10Wave.mono _ _
   | exact LeO.none _
   | refine LeO.ite ?_ ?_
   | refine LeO.bind ?_ (fun _ => ?_)
  ·intro y0 y1 y2 y3 y4 y5 y6 y7 y8
   unfold laws_FnDivided.l0
   repeat' first
   | (with_reducible exact ih0 _ _ _ _ _ _ _)
   | (with_reducible exact ih1 _ _ _ _ _ _ _ _ _)
   | (with_reducible exact ih2 _ _ _ _ _ _ _ _ _ _ _)
   | (with_reducible exact ih3 _ _ _ _ _ _ _ _ _ _)
   | (with_reducible exact ih4 _ _ _ _ _ _ _ _ _ _)
   | (with_reducible exact laws_b10Ups.mono _ _ _)
   | (with_reducible exact spec_B10Wave.mono _ _)
   | (with_reducible exact LeO.refl _)
   | (with_reducible exact LeO.none _)
   | (with_reducible refine LeO.ite ?_ ?_)
   | (with_reducible refine LeO.bind ?_ (fun _ => ?_))
   | exact ih0 _ _ _ _ _ _ _
   | exact ih1 _ _ _ _ _ _ _ _ _
   | exact ih2 _ _ _ _ _ _ _ _ _ _ _
   | exact ih3 _ _ _ _ _ _ _ _ _ _
   | exact ih4 _ _ _ _ _ _ _ _ _ _
   | exact laws_b10Ups.mono _ _ _
   | exact spec_B10Wave.mono _ _
   | exact LeO.none _
   | refine LeO.ite ?_ ?_
   | refine LeO.bind ?_ (fun _ => ?_)
  ·intro y0 y1 y2 y3 y4 y5 y6 y7 y8 y9 y10
   unfold laws_FnDivided.j2
   repeat' first
   | (with_reducible exact ih0 _ _ _ _ _ _ _)
   | (with_reducible exact ih1 _ _ _ _ _ _ _ _ _)
   | (with_reducible exact ih2 _ _ _ _ _ _ _ _ _ _ _)
   | (with_reducible exact ih3 _ _ _ _ _ _ _ _ _ _)
   | (with_reducible exact ih4 _ _ _ _ _ _ _ _ _ _)
   | (with_reducible exact laws_b10Ups.mono _ _ _)
   | (with_reducible exact spec_B10Wave.mono _ _)
   | (with_reducible exact LeO.refl _)
   | (with_reducible exact LeO.none _)
   | (with_reducible refine LeO.ite ?_ ?_)
   | (with_reducible refine LeO.bind ?_ (fun _ => ?_))
   | exact ih0 _ _ _ _ _ _ _
   | exact ih1 _ _ _ _ _ _ _ _ _
   | exact ih2 _ _ _ _ _ _ _ _ _ _ _
   | exact ih3 _ _ _ _ _ _ _ _ _ _
   | exact ih4 _ _ _ _ _ _ _ _ _ _
   | exact laws_b10Ups.mono _ _ _
   | exact spec_B10Wave.mono _ _
   | exact LeO.none _
   | refine LeO.ite ?_ ?_
   | refine LeO.bind ?_ (fun _ => ?_)
  ·intro y0 y1 y2 y3 y4 y5 y6 y7 y8 y9
   unfold laws_FnDivided.j3
   repeat' first
   | (with_reducible exact ih0 _ _ _ _ _ _ _)
   | (with_reducible exact ih1 _ _ _ _ _ _ _ _ _)
   | (with_reducible exact ih2 _ _ _ _ _ _ _ _ _ _ _)
   | (with_reducible exact ih3 _ _ _ _ _ _ _ _ _ _)
   | (with_reducible exact ih4 _ _ _ _ _ _ _ _ _ _)
   | (with_reducible exact laws_b10Ups.mono _ _ _)
   | (with_reducible exact spec_B10Wave.mono _ _)
   | (with_reducible exact LeO.refl _)
   | (with_reducible exact LeO.none _)
   | (with_reducible refine LeO.ite ?_ ?_)
   | (with_reducible refine LeO.bind ?_ (fun _ => ?_))
   | exact ih0 _ _ _ _ _ _ _
   | exact ih1 _ _ _ _ _ _ _ _ _
   | exact ih2 _ _ _ _ _ _ _ _ _ _ _
   | exact ih3 _ _ _ _ _ _ _ _ _ _
   | exact ih4 _ _ _ _ _ _ _ _ _ _
   | exact laws_b10Ups.mono _ _ _
   | exact spec_B10Wave.mono _ _
   | exact LeO.none _
   | refine LeO.ite ?_ ?_
   | refine LeO.bind ?_ (fun _ => ?_)
  ·intro y0 y1 y2 y3 y4 y5 y6 y7 y8 y9
   unfold laws_FnDivided.j4
   repeat' first
   | (with_reducible exact ih0 _ _ _ _ _ _ _)
   | (with_reducible exact ih1 _ _ _ _ _ _ _ _ _)
   | (with_reducible exact ih2 _ _ _ _ _ _ _ _ _ _ _)
   | (with_reducible exact ih3 _ _ _ _ _ _ _ _ _ _)
   | (with_reducible exact ih4 _ _ _ _ _ _ _ _ _ _)
   | (with_reducible exact laws_b10Ups.mono _ _ _)
   | (with_reducible exact spec_B10Wave.mono _ _)
   | (with_reducible exact LeO.refl _)
   | (with_reducible exact LeO.none _)
   | (with_reducible refine LeO.ite ?_ ?_)
   | (with_reducible refine LeO.bind ?_ (fun _ => ?_))
   | exact ih0 _ _ _ _ _ _ _
   | exact ih1 _ _ _ _ _ _ _ _ _
   | exact ih2 _ _ _ _ _ _ _ _ _ _ _
   | exact ih3 _ _ _ _ _ _ _ _ _ _
   | exact ih4 _ _ _ _ _ _ _ _ _ _
   | exact laws_b10Ups.mono _ _ _
   | exact spec_B10Wave.mono _ _
   | exact LeO.none _
   | refine LeO.ite ?_ ?_
   | refine LeO.bind ?_ (fun _ => ?_)
theorem laws_FnDivided.mono : ∀ a0 a1 k, LeO (laws_FnDivided.f k a0 a1) (laws_FnDivided.f (k + 1) a0 a1) := by
 intro a0 a1 k
 obtain ⟨ih0, ih1, ih2, ih3, ih4⟩ := laws_FnDivided.mono_l k
 unfold laws_FnDivided.f
 repeat' first
   | (with_reducible exact ih0 _ _ _ _ _ _ _)
   | (with_reducible exact ih1 _ _ _ _ _ _ _ _ _)
   | (with_reducible exact ih2 _ _ _ _ _ _ _ _ _ _ _)
   | (with_reducible exact ih3 _ _ _ _ _ _ _ _ _ _)
   | (with_reducible exact ih4 _ _ _ _ _ _ _ _ _ _)
   | (with_reducible exact laws_b10Ups.mono _ _ _)
   | (with_reducible exact spec_B10Wave.mono _ _)
   | (with_reducible exact LeO.refl _)
   | (with_reducible exact LeO.none _)
   | (with_reducible refine LeO.ite ?_ ?_)
   | (with_reducible refine LeO.bind ?_ (fun _ => ?_))
   | exact ih0 _ _ _ _ _ _ _
   | exact ih1 _ _ _ _ _ _ _ _ _
   | exact ih2 _ _ _ _ _ _ _ _ _ _ _
   | exact ih3 _ _ _ _ _ _ _ _ _ _
   | exact ih4 _ _ _ _ _ _ _ _ _ _
   | exact laws_b10Ups.mono _ _ _
   | exact spec_B10Wave.mono _ _
   | exact LeO.none _
   | refine LeO.ite ?_ ?_
   | refine LeO.bind ?_ (fun _ => ?_)
set_option maxHeartbeats 8000000 in
set_option maxRecDepth 100000 in
theorem laws_FnDivided.calls (k : Nat) (A0 : Option Addr) (c0 : Nat) (l0 : List Int) (A1 : Option Addr) (c1 : Nat) (l1 : List Int) (r : Bool) (w : World) (hr0 : Kd.C (Kd.int .u8) w A0 l0.length l0) (hc0 : l0.length ≤ c0) (hr1 : Kd.C (Kd.int .u8) w A1 l1.length l1) (hc1 : l1.length ≤ c1) (h : laws_FnDivided.f k l0 l1 = some r) :
  Calls Tryd.prog 14 #[.slice A0 l0.length c0, .slice A1 l1.length c1] w fun e w' => e = .returned (.bool r) ∧ Below w.heap.size w w' := by
 have hu32 := Tryd.underlying32
 have HR0 := Aside0.mk hr0
 have HC0 := Aside0.mk hc0
 clear hr0 hc0
 have HR1 := Aside0.mk hr1
 have HC1 := Aside0.mk hc1
 clear hr1 hc1
 have HB := Aside0.mk (Below.refl w.heap.size w)
 have H : ((laws_b10Long.f l0 l1).bind fun t420 => (if t420 = true then (some true) else ((spec_B10Wave.f k l0).bind fun t421 => ((laws_b10At.f l1 0 6).bind fun t422 => ((laws_b10At.f l1 1 (wrap64 ((wrap64 (1 + t422)) + 1))).bind fun t423 => ((laws_b10At.f l1 2 4).bind fun t425 => ((impl_DivideWave.f (wrap64 (1 + t422)) t423 t421).bind fun bt427 => ((impl_DivideWave.f (wrap64 (1 + t425)) 1 bt427.1).bind fun bt429 => ((impl_DivideChain.f (([(⟨wrap64 (1 + t422), t423⟩ : S32), (⟨wrap64 (1 + t425), 1⟩ : S32)] : List (S32))) t421).bind fun bt434 => ((laws_b10At.f l1 3 5).bind fun t436 => ((impl_ToggleWave.f (wrap64 (1 + t436)) t421).bind fun bt437 => (if bt427.2 = true then (if bt429.2 = true then (if bt434.2 = true then (if bt437.2 = true then (if bt429.1.toList = bt434.1.toList then (if (bt427.1.size : Int) = (t421.size : Int) then (if (bt437.1.size : Int) = (t421.size : Int) then ((impl_ValidDivider.f (wrap64 (1 + t422)) t423).bind fun t439 => (laws_FnDivided.j0 k t421 (wrap64 (1 + t422)) t423 bt427.1 (wrap64 (1 + t436)) bt437.1 (!t439))) else (laws_FnDivided.j0 k t421 (wrap64 (1 + t422)) t423 bt427.1 (wrap64 (1 + t436)) bt437.1 true)) else (laws_FnDivided.j0 k t421 (wrap64 (1 + t422)) t423 bt427.1 (wrap64 (1 + t436)) bt437.1 true)) else (laws_FnDivided.j0 k t421 (wrap64 (1 + t422)) t423 bt427.1 (wrap64 (1 + t436)) bt437.1 true)) else (laws_FnDivided.j0 k t421 (wrap64 (1 + t422)) t423 bt427.1 (wrap64 (1 + t436)) bt437.1 true)) else (laws_FnDivided.j0 k t421 (wrap64 (1 + t422)) t423 bt427.1 (wrap64 (1 + t436)) bt437.1 true)) else (laws_FnDivided.j0 k t421 (wrap64 (1 + t422)) t423 bt427.1 (wrap64 (1 + t436)) bt437.1 true)) else (laws_FnDivided.j0 k t421 (wrap64 (1 + t422)) t423 bt427.1 (wrap64 (1 + t436)) bt437.1 true))))))))))))) = some r := h
 clear h
 replace H := Option.bind_eq_some_iff.mp H
 obtain ⟨t420, A30, H⟩ := H
 replace H : (if t420 = true then (some true) else ((spec_B10Wave.f k l0).bind fun t421 => ((laws_b10At.f l1 0 6).bind fun t422 => ((laws_b10At.f l1 1 (wrap64 ((wrap64 (1 + t422)) + 1))).bind fun t423 => ((laws_b10At.f l1 2 4).bind fun t425 => ((impl_DivideWave.f (wrap64 (1 + t422)) t423 t421).bind fun bt427 => ((impl_DivideWave.f (wrap64 (1 + t425)) 1 bt427.1).bind fun bt429 => ((impl_DivideChain.f (([(⟨wrap64 (1 + t422), t423⟩ : S32), (⟨wrap64 (1 + t425), 1⟩ : S32)] : List (S32))) t421).bind fun bt434 => ((laws_b10At.f l1 3 5).bind fun t436 => ((impl_ToggleWave.f (wrap64 (1 + t436)) t421).bind fun bt437 => (if bt427.2 = true then (if bt429.2 = true then (if bt434.2 = true then (if bt437.2 = true then (if bt429.1.toList = bt434.1.toList then (if (bt427.1.size : Int) = (t421.size : Int) then (if (bt437.1.size : Int) = (t421.size : Int) then ((impl_ValidDivider.f (wrap64 (1 + t422)) t423).bind fun t439 => (laws_FnDivided.j0 k t421 (wrap64 (1 + t422)) t423 bt427.1 (wrap64 (1 + t436)) bt437.1 (!t439))) else (laws_FnDivided.j0 k t421 (wrap64 (1 + t422)) t423 bt427.1 (wrap64 (1 + t436)) bt437.1 true)) else (laws_FnDivided.j0 k t421 (wrap64 (1 + t422)) t423 bt427.1 (wrap64 (1 + t436)) bt437.1 true)) else (laws_FnDivided.j0 k t421 (wrap64 (1 + t422)) t423 bt427.1 (wrap64 (1 + t436)) bt437.1 true)) else (laws_FnDivided.j0 k t421 (wrap64 (1 + t422)) t423 bt427.1 (wrap64 (1 + t436)) bt437.1 true)) else (laws_FnDivided.j0 k t421 (wrap64 (1 + t422)) t423 bt427.1 (wrap64 (1 + t436)) bt437.1 true)) else (laws_FnDivided.j0 k t421 (wrap64 (1 + t422)) t423 bt427.1 (wrap64 (1 + t436)) bt437.1 true)) else (laws_FnDivided.j0 k t421 (wrap64 (1 + t422)) t423 bt427.1 (wrap64 (1 + t436)) bt437.1 true)))))))))))) = some r := H
 have A3 := Aside0.mk A30
 clear A30
 by_cases c4 : t420 = true
 ·subst c4
  have H1 : (some true) = some r := by rw [if_pos rfl] at H; exact H
  clear H
  have H := H1
  clear H1
  obtain rfl := Option.some.inj H
  go_enter Tryd.func14, Tryd.ntmps14
  go_wp2_with (first | (go_at_call 46; (with_reducible refine (laws_b10Long.calls _ _ l0 _ _ l1 true _ ?side1 ?side2 ?side3 ?side4 A3.out).mono ?_); (case side1 => repeat (first | exact HR0.out | (with_reducible refine Kd.C_alloc ?_ _) | (with_reducible refine Kd.C_drewN ?_ _) | (with_reducible refine Kd.C_drew ?_))); (case side2 => exact HC0.out); (case side3 => repeat (first | exact HR1.out | (with_reducible refine Kd.C_alloc ?_ _) | (with_reducible refine Kd.C_drewN ?_ _) | (with_reducible refine Kd.C_drew ?_))); (case side4 => exact HC1.out); rintro e w' ⟨rfl, ⟨nd, rfl⟩⟩; (try first | exact ⟨rfl, _, World.drewN_drewN _ _ _⟩ | exact ⟨rfl, _, Eq.trans (World.drewN_drewN _ _ _) (congrArg (World.drewN _) (Nat.add_assoc _ _ _))⟩)))
  repeat (go_quiet (first | (go_at_call 46; (with_reducible refine (laws_b10Long.calls _ _ l0 _ _ l1 true _ ?side1 ?side2 ?side3 ?side4 A3.out).mono ?_); (case side1 => repeat (first | exact HR0.out | (with_reducible refine Kd.C_alloc ?_ _) | (with_reducible refine Kd.C_drewN ?_ _) | (with_reducible refine Kd.C_drew ?_))); (case side2 => exact HC0.out); (case side3 => repeat (first | exact HR1.out | (with_reducible refine Kd.C_alloc ?_ _) | (with_reducible refine Kd.C_drewN ?_ _) | (with_reducible refine Kd.C_drew ?_))); (case side4 => exact HC1.out); rintro e w' ⟨rfl, ⟨nd, rfl⟩⟩; (try first | exact ⟨rfl, _, World.drewN_drewN _ _ _⟩ | exact ⟨rfl, _, Eq.trans (World.drewN_drewN _ _ _) (congrArg (World.drewN _) (Nat.add_assoc _ _ _))⟩))); try go_wp2_with (first | (go_at_call 46; (with_reducible refine (laws_b10Long.calls _ _ l0 _ _ l1 true _ ?side1 ?side2 ?side3 ?side4 A3.out).mono ?_); (case side1 => repeat (first | exact HR0.out | (with_reducible refine Kd.C_alloc ?_ _) | (with_reducible refine Kd.C_drewN ?_ _) | (with_reducible refine Kd.C_drew ?_))); (case side2 => exact HC0.out); (case side3 => repeat (first | exact HR1.out | (with_reducible refine Kd.C_alloc ?_ _) | (with_reducible refine Kd.C_drewN ?_ _) | (with_reducible refine Kd.C_drew ?_))); (case side4 => exact HC1.out); rintro e w' ⟨rfl, ⟨nd, rfl⟩⟩; (try first | exact ⟨rfl, _, World.drewN_drewN _ _ _⟩ | exact ⟨rfl, _, Eq.trans (World.drewN_drewN _ _ _) (congrArg (World.drewN _) (Nat.add_assoc _ _ _))⟩))))
  go_ret
  exact ⟨by first | rfl | (simp [errW_none, errW_some] <;> rfl) | (simp [*, errW_none, errW_some] <;> rfl), by repeat (first | (with_reducible first | exact HB.out | apply below_alloc | apply pw_below_drewN | apply below_drew1) | exact HB.out)⟩
 ·replace c4 := Bool.eq_false_iff.mpr c4
  subst c4
  have H1 : ((spec_B10Wave.f k l0).bind fun t421 => ((laws_b10At.f l1 0 6).bind fun t422 => ((laws_b10At.f l1 1 (wrap64 ((wrap64 (1 + t422)) + 1))).bind fun t423 => ((laws_b10At.f l1 2 4).bind fun t425 => ((impl_DivideWave.f (wrap64 (1 + t422)) t423 t421).bind fun bt427 => ((impl_DivideWave.f (wrap64 (1 + t425)) 1 bt427.1).bind fun bt429 => ((impl_DivideChain.f (([(⟨wrap64 (1 + t422), t423⟩ : S32), (⟨wrap64 (1 + t425), 1⟩ : S32)] : List (S32))) t421).bind fun bt434 => ((laws_b10At.f l1 3 5).bind fun t436 => ((impl_ToggleWave.f (wrap64 (1 + t436)) t421).bind fun bt437 => (if bt427.2 = true then (if bt429.2 = true then (if bt434.2 = true then (if bt437.2 = true then (if bt429.1.toList = bt434.1.toList then (if (bt427.1.size : Int) = (t421.size : Int) then (if (bt437.1.size : Int) = (t421.size : Int) then ((impl_ValidDivider.f (wrap64 (1 + t422)) t423).bind fun t439 => (laws_FnDivided.j0 k t421 (wrap64 (1 + t422)) t423 bt427.1 (wrap64 (1 + t436)) bt437.1 (!t439))) else (laws_FnDivided.j0 k t421 (wrap64 (1 + t422)) t423 bt427.1 (wrap64 (1 + t436)) bt437.1 true)) else (laws_FnDivided.j0 k t421 (wrap64 (1 + t422)) t423 bt427.1 (wrap64 (1 + t436)) bt437.1 true)) else (laws_FnDivided.j0 k t421 (wrap64 (1 + t422)) t423 bt427.1 (wrap64 (1 + t436)) bt437.1 true)) else (laws_FnDivided.j0 k t421 (wrap64 (1 + t422)) t423 bt427.1 (wrap64 (1 + t436)) bt437.1 true)) else (laws_FnDivided.j0 k t421 (wrap64 (1 + t422)) t423 bt427.1 (wrap64 (1 + t436)) bt437.1 true)) else (laws_FnDivided.j0 k t421 (wrap64 (1 + t422)) t423 bt427.1 (wrap64 (1 + t436)) bt437.1 true)) else (laws_FnDivided.j0 k t421 (wrap64 (1 + t422)) t423 bt427.1 (wrap64 (1 + t436)) bt437.1 true))))))))))) = some r := by rw [if_neg (show ¬ (false = true) by decide)] at H; exact H
  clear H
  have H := H1
  clear H1
  replace H := Option.bind_eq_some_iff.mp H
  obtain ⟨t421, A50, H⟩ := H
  replace H : ((laws_b10At.f l1 0 6).bind fun t422 => ((laws_b10At.f l1 1 (wrap64 ((wrap64 (1 + t422)) + 1))).bind fun t423 => ((laws_b10At.f l1 2 4).bind fun t425 => ((impl_DivideWave.f (wrap64 (1 + t422)) t423 t421).bind fun bt427 => ((impl_DivideWave.f (wrap64 (1 + t425)) 1 bt427.1).bind fun bt429 => ((impl_DivideChain.f (([(⟨wrap64 (1 + t422), t423⟩ : S32), (⟨wrap64 (1 + t425), 1⟩ : S32)] : List (S32))) t421).bind fun bt434 => ((laws_b10At.f l1 3 5).bind fun t436 => ((impl_ToggleWave.f (wrap64 (1 + t436)) t421).bind fun bt437 => (if bt427.2 = true then (if bt429.2 = true then (if bt434.2 = true then (if bt437.2 = true then (if bt429.1.toList = bt434.1.toList then (if (bt427.1.size : Int) = (t421.size : Int) then (if (bt437.1.size : Int) = (t421.size : Int) then ((impl_ValidDivider.f (wrap64 (1 + t422)) t423).bind fun t439 => (laws_FnDivided.j0 k t421 (wrap64 (1 + t422)) t423 bt427.1 (wrap64 (1 + t436)) bt437.1 (!t439))) else (laws_FnDivided.j0 k t421 (wrap64 (1 + t422)) t423 bt427.1 (wrap64 (1 + t436)) bt437.1 true)) else (laws_FnDivided.j0 k t421 (wrap64 (1 + t422)) t423 bt427.1 (wrap64 (1 + t436)) bt437.1 true)) else (laws_FnDivided.j0 k t421 (wrap64 (1 + t422)) t423 bt427.1 (wrap64 (1 + t436)) bt437.1 true)) else (laws_FnDivided.j0 k t421 (wrap64 (1 + t422)) t423 bt427.1 (wrap64 (1 + t436)) bt437.1 true)) else (laws_FnDivided.j0 k t421 (wrap64 (1 + t422)) t423 bt427.1 (wrap64 (1 + t436)) bt437.1 true)) else (laws_FnDivided.j0 k t421 (wrap64 (1 + t422)) t423 bt427.1 (wrap64 (1 + t436)) bt437.1 true)) else (laws_FnDivided.j0 k t421 (wrap64 (1 + t422)) t423 bt427.1 (wrap64 (1 + t436)) bt437.1 true)))))))))) = some r := H
  have A5 := Aside0.mk A50
  clear A50
  replace H := Option.bind_eq_some_iff.mp H
  obtain ⟨t422, A60, H⟩ := H
  replace H : ((laws_b10At.f l1 1 (wrap64 ((wrap64 (1 + t422)) + 1))).bind fun t423 => ((laws_b10At.f l1 2 4).bind fun t425 => ((impl_DivideWave.f (wrap64 (1 + t422)) t423 t421).bind fun bt427 => ((impl_DivideWave.f (wrap64 (1 + t425)) 1 bt427.1).bind fun bt429 => ((impl_DivideChain.f (([(⟨wrap64 (1 + t422), t423⟩ : S32), (⟨wrap64 (1 + t425), 1⟩ : S32)] : List (S32))) t421).bind fun bt434 => ((laws_b10At.f l1 3 5).bind fun t436 => ((impl_ToggleWave.f (wrap64 (1 + t436)) t421).bind fun bt437 => (if bt427.2 = true then (if bt429.2 = true then (if bt434.2 = true then (if bt437.2 = true then (if bt429.1.toList = bt434.1.toList then (if (bt427.1.size : Int) = (t421.size : Int) then (if (bt437.1.size : Int) = (t421.size : Int) then ((impl_ValidDivider.f (wrap64 (1 + t422)) t423).bind fun t439 => (laws_FnDivided.j0 k t421 (wrap64 (1 + t422)) t423 bt427.1 (wrap64 (1 + t436)) bt437.1 (!t439))) else (laws_FnDivided.j0 k t421 (wrap64 (1 + t422)) t423 bt427.1 (wrap64 (1 + t436)) bt437.1 true)) else (laws_FnDivided.j0 k t421 (wrap64 (1 + t422)) t423 bt427.1 (wrap64 (1 + t436)) bt437.1 true)) else (laws_FnDivided.j0 k t421 (wrap64 (1 + t422)) t423 bt427.1 (wrap64 (1 + t436)) bt437.1 true)) else (laws_FnDivided.j0 k t421 (wrap64 (1 + t422)) t423 bt427.1 (wrap64 (1 + t436)) bt437.1 true)) else (laws_FnDivided.j0 k t421 (wrap64 (1 + t422)) t423 bt427.1 (wrap64 (1 + t436)) bt437.1 true)) else (laws_FnDivided.j0 k t421 (wrap64 (1 + t422)) t423 bt427.1 (wrap64 (1 + t436)) bt437.1 true)) else (laws_FnDivided.j0 k t421 (wrap64 (1 + t422)) t423 bt427.1 (wrap64 (1 + t436)) bt437.1 true))))))))) = some r := H
  have A6 := Aside0.mk A60
  clear A60
  replace H := Option.bind_eq_some_iff.mp H
  obtain ⟨t423, A70, H⟩ := H
  replace H : ((laws_b10At.f l1 2 4).bind fun t425 => ((impl_DivideWave.f (wrap64 (1 + t422)) t423 t421).bind fun bt427 => ((impl_DivideWave.f (wrap64 (1 + t425)) 1 bt427.1).bind fun bt429 => ((impl_DivideChain.f (([(⟨wrap64 (1 + t422), t423⟩ : S32), (⟨wrap64 (1 + t425), 1⟩ : S32)] : List (S32))) t421).bind fun bt434 => ((laws_b10At.f l1 3 5).bind fun t436 => ((impl_ToggleWave.f (wrap64 (1 + t436)) t421).bind fun bt437 => (if bt427.2 = true then (if bt429.2 = true then (if bt434.2 = true then (if bt437.2 = true then (if bt429.1.toList = bt434.1.toList then (if (bt427.1.size : Int) = (t421.size : Int) then (if (bt437.1.size : Int) = (t421.size : Int) then ((impl_ValidDivider.f (wrap64 (1 + t422)) t423).bind fun t439 => (laws_FnDivided.j0 k t421 (wrap64 (1 + t422)) t423 bt427.1 (wrap64 (1 + t436)) bt437.1 (!t439))) else (laws_FnDivided.j0 k t421 (wrap64 (1 + t422)) t423 bt427.1 (wrap64 (1 + t436)) bt437.1 true)) else (laws_FnDivided.j0 k t421 (wrap64 (1 + t422)) t423 bt427.1 (wrap64 (1 + t436)) bt437.1 true)) else (laws_FnDivided.j0 k t421 (wrap64 (1 + t422)) t423 bt427.1 (wrap64 (1 + t436)) bt437.1 true)) else (laws_FnDivided.j0 k t421 (wrap64 (1 + t422)) t423 bt427.1 (wrap64 (1 + t436)) bt437.1 true)) else (laws_FnDivided.j0 k t421 (wrap64 (1 + t422)) t423 bt427.1 (wrap64 (1 + t436)) bt437.1 true)) else (laws_FnDivided.j0 k t421 (wrap64 (1 + t422)) t423 bt427.1 (wrap64 (1 + t436)) bt437.1 true)) else (laws_FnDivided.j0 k t421 (wrap64 (1 + t422)) t423 bt427.1 (wrap64 (1 + t436)) bt437.1 true)))))))) = some r := H
  have A7 := Aside0.mk A70
  clear A70
  replace H := Option.bind_eq_some_iff.mp H
  obtain ⟨t425, A80, H⟩ := H
  replace H : ((impl_DivideWave.f (wrap64 (1 + t422)) t423 t421).bind fun bt427 => ((impl_DivideWave.f (wrap64 (1 + t425)) 1 bt427.1).bind fun bt429 => ((impl_DivideChain.f (([(⟨wrap64 (1 + t422), t423⟩ : S32), (⟨wrap64 (1 + t425), 1⟩ : S32)] : List (S32))) t421).bind fun bt434 => ((laws_b10At.f l1 3 5).bind fun t436 => ((impl_ToggleWave.f (wrap64 (1 + t436)) t421).bind fun bt437 => (if bt427.2 = true then (if bt429.2 = true then (if bt434.2 = true then (if bt437.2 = true then (if bt429.1.toList = bt434.1.toList then (if (bt427.1.size : Int) = (t421.size : Int) then (if (bt437.1.size : Int) = (t421.size : Int) then ((impl_ValidDivider.f (wrap64 (1 + t422)) t423).bind fun t439 => (laws_FnDivided.j0 k t421 (wrap64 (1 + t422)) t423 bt427.1 (wrap64 (1 + t436)) bt437.1 (!t439))) else (laws_FnDivided.j0 k t421 (wrap64 (1 + t422)) t423 bt427.1 (wrap64 (1 + t436)) bt437.1 true)) else (laws_FnDivided.j0 k t421 (wrap64 (1 + t422)) t423 bt427.1 (wrap64 (1 + t436)) bt437.1 true)) else (laws_FnDivided.j0 k t421 (wrap64 (1 + t422)) t423 bt427.1 (wrap64 (1 + t436)) bt437.1 true)) else (laws_FnDivided.j0 k t421 (wrap64 (1 + t422)) t423 bt427.1 (wrap64 (1 + t436)) bt437.1 true)) else (laws_FnDivided.j0 k t421 (wrap64 (1 + t422)) t423 bt427.1 (wrap64 (1 + t436)) bt437.1 true)) else (laws_FnDivided.j0 k t421 (wrap64 (1 + t422)) t423 bt427.1 (wrap64 (1 + t436)) bt437.1 true)) else (laws_FnDivided.j0 k t421 (wrap64 (1 + t422)) t423 bt427.1 (wrap64 (1 + t436)) bt437.1 true))))))) = some r := H
  have A8 := Aside0.mk A80
  clear A80
  replace H := Option.bind_eq_some_iff.mp H
  obtain ⟨⟨t427, t428⟩, A90, H⟩ := H
  replace H : ((impl_DivideWave.f (wrap64 (1 + t425)) 1 t427).bind fun bt429 => ((impl_DivideChain.f (([(⟨wrap64 (1 + t422), t423⟩ : S32), (⟨wrap64 (1 + t425), 1⟩ : S32)] : List (S32))) t421).bind fun bt434 => ((laws_b10At.f l1 3 5).bind fun t436 => ((impl_ToggleWave.f (wrap64 (1 + t436)) t421).bind fun bt437 => (if t428 = true then (if bt429.2 = true then (if bt434.2 = true then (if bt437.2 = true then (if bt429.1.toList = bt434.1.toList then (if (t427.size : Int) = (t421.size : Int) then (if (bt437.1.size : Int) = (t421.size : Int) then ((impl_ValidDivider.f (wrap64 (1 + t422)) t423).bind fun t439 => (laws_FnDivided.j0 k t421 (wrap64 (1 + t422)) t423 t427 (wrap64 (1 + t436)) bt437.1 (!t439))) else (laws_FnDivided.j0 k t421 (wrap64 (1 + t422)) t423 t427 (wrap64 (1 + t436)) bt437.1 true)) else (laws_FnDivided.j0 k t421 (wrap64 (1 + t422)) t423 t427 (wrap64 (1 + t436)) bt437.1 true)) else (laws_FnDivided.j0 k t421 (wrap64 (1 + t422)) t423 t427 (wrap64 (1 + t436)) bt437.1 true)) else (laws_FnDivided.j0 k t421 (wrap64 (1 + t422)) t423 t427 (wrap64 (1 + t436)) bt437.1 true)) else (laws_FnDivided.j0 k t421 (wrap64 (1 + t422)) t423 t427 (wrap64 (1 + t436)) bt437.1 true)) else (laws_FnDivided.j0 k t421 (wrap64 (1 + t422)) t423 t427 (wrap64 (1 + t436)) bt437.1 true)) else (laws_FnDivided.j0 k t421 (wrap64 (1 + t422)) t423 t427 (wrap64 (1 + t436)) bt437.1 true)))))) = some r := H
  have A9 := Aside0.mk A90
  clear A90
  replace H := Option.bind_eq_some_iff.mp H
  obtain ⟨⟨t429, t430⟩, A100, H⟩ := H
  replace H : ((impl_DivideChain.f (([(⟨wrap64 (1 + t422), t423⟩ : S32), (⟨wrap64 (1 + t425), 1⟩ : S32)] : List (S32))) t421).bind fun bt434 => ((laws_b10At.f l1 3 5).bind fun t436 => ((impl_ToggleWave.f (wrap64 (1 + t436)) t421).bind fun bt437 => (if t428 = true then (if t430 = true then (if bt434.2 = true then (if bt437.2 = true then (if t429.toList = bt434.1.toList then (if (t427.size : Int) = (t421.size : Int) then (if (bt437.1.size : Int) = (t421.size : Int) then ((impl_ValidDivider.f (wrap64 (1 + t422)) t423).bind fun t439 => (laws_FnDivided.j0 k t421 (wrap64 (1 + t422)) t423 t427 (wrap64 (1 + t436)) bt437.1 (!t439))) else (laws_FnDivided.j0 k t421 (wrap64 (1 + t422)) t423 t427 (wrap64 (1 + t436)) bt437.1 true)) else (laws_FnDivided.j0 k t421 (wrap64 (1 + t422)) t423 t427 (wrap64 (1 + t436)) bt437.1 true)) else (laws_FnDivided.j0 k t421 (wrap64 (1 + t422)) t423 t427 (wrap64 (1 + t436)) bt437.1 true)) else (laws_FnDivided.j0 k t421 (wrap64 (1 + t422)) t423 t427 (wrap64 (1 + t436)) bt437.1 true)) else (laws_FnDivided.j0 k t421 (wrap64 (1 + t422)) t423 t427 (wrap64 (1 + t436)) bt437.1 true)) else (laws_FnDivided.j0 k t421 (wrap64 (1 + t422)) t423 t427 (wrap64 (1 + t436)) bt437.1 true)) else (laws_FnDivided.j0 k t421 (wrap64 (1 + t422)) t423 t427 (wrap64 (1 + t436)) bt437.1 true))))) = some r := H
  have A10 := Aside0.mk A100
  clear A100
  obtain ⟨y431, hy431⟩ : ∃ y_ : List (S32), y_ = (([(⟨wrap64 (1 + t422), t423⟩ : S32), (⟨wrap64 (1 + t425), 1⟩ : S32)] : List (S32))) := ⟨_, rfl⟩
  replace H : ((impl_DivideChain.f y431 t421).bind fun bt434 => ((laws_b10At.f l1 3 5).bind fun t436 => ((impl_ToggleWave.f (wrap64 (1 + t436)) t421).bind fun bt437 => (if t428 = true then (if t430 = true then (if bt434.2 = true then (if bt437.2 = true then (if t429.toList = bt434.1.toList then (if (t427.size : Int) = (t421.size : Int) then (if (bt437.1.size : Int) = (t421.size : Int) then ((impl_ValidDivider.f (wrap64 (1 + t422)) t423).bind fun t439 => (laws_FnDivided.j0 k t421 (wrap64 (1 + t422)) t423 t427 (wrap64 (1 + t436)) bt437.1 (!t439))) else (laws_FnDivided.j0 k t421 (wrap64 (1 + t422)) t423 t427 (wrap64 (1 + t436)) bt437.1 true)) else (laws_FnDivided.j0 k t421 (wrap64 (1 + t422)) t423 t427 (wrap64 (1 + t436)) bt437.1 true)) else (laws_FnDivided.j0 k t421 (wrap64 (1 + t422)) t423 t427 (wrap64 (1 + t436)) bt437.1 true)) else (laws_FnDivided.j0 k t421 (wrap64 (1 + t422)) t423 t427 (wrap64 (1 + t436)) bt437.1 true)) else (laws_FnDivided.j0 k t421 (wrap64 (1 + t422)) t423 t427 (wrap64 (1 + t436)) bt437.1 true)) else (laws_FnDivided.j0 k t421 (wrap64 (1 + t422)) t423 t427 (wrap64 (1 + t436)) bt437.1 true)) else (laws_FnDivided.j0 k t421 (wrap64 (1 + t422)) t423 t427 (wrap64 (1 + t436)) bt437.1 true))))) = some r := by first | (rw [hy431]; with_reducible exact H) | (have H2_ := (Option.bind_some _ _).symm.trans H; rw [hy431]; with_reducible exact H2_) | (have H2_ := (Option.bind_some _ _).symm.trans H; with_reducible exact H2_) | with_reducible exact H | (rw [hy431]; exact H) | exact H
  have Ny431 := Aside0.mk hy431
  clear hy431
  replace H := Option.bind_eq_some_iff.mp H
  obtain ⟨⟨t434, t435⟩, A110, H⟩ := H
  replace H : ((laws_b10At.f l1 3 5).bind fun t436 => ((impl_ToggleWave.f (wrap64 (1 + t436)) t421).bind fun bt437 => (if t428 = true then (if t430 = true then (if t435 = true then (if bt437.2 = true then (if t429.toList = t434.toList then (if (t427.size : Int) = (t421.size : Int) then (if (bt437.1.size : Int) = (t421.size : Int) then ((impl_ValidDivider.f (wrap64 (1 + t422)) t423).bind fun t439 => (laws_FnDivided.j0 k t421 (wrap64 (1 + t422)) t423 t427 (wrap64 (1 + t436)) bt437.1 (!t439))) else (laws_FnDivided.j0 k t421 (wrap64 (1 + t422)) t423 t427 (wrap64 (1 + t436)) bt437.1 true)) else (laws_FnDivided.j0 k t421 (wrap64 (1 + t422)) t423 t427 (wrap64 (1 + t436)) bt437.1 true)) else (laws_FnDivided.j0 k t421 (wrap64 (1 + t422)) t423 t427 (wrap64 (1 + t436)) bt437.1 true)) else (laws_FnDivided.j0 k t421 (wrap64 (1 + t422)) t423 t427 (wrap64 (1 + t436)) bt437.1 true)) else (laws_FnDivided.j0 k t421 (wrap64 (1 + t422)) t423 t427 (wrap64 (1 + t436)) bt437.1 true)) else (laws_FnDivided.j0 k t421 (wrap64 (1 + t422)) t423 t427 (wrap64 (1 + t436)) bt437.1 true)) else (laws_FnDivided.j0 k t421 (wrap64 (1 + t422)) t423 t427 (wrap64 (1 + t436)) bt437.1 true)))) = some r := H
  have A11 := Aside0.mk A110
  clear A110
  replace H := Option.bind_eq_some_iff.mp H
  obtain ⟨t436, A120, H⟩ := H
  replace H : ((impl_ToggleWave.f (wrap64 (1 + t436)) t421).bind fun bt437 => (if t428 = true then (if t430 = true then (if t435 = true then (if bt437.2 = true then (if t429.toList = t434.toList then (if (t427.size : Int) = (t421.size : Int) then (if (bt437.1.size : Int) = (t421.size : Int) then ((impl_ValidDivider.f (wrap64 (1 + t422)) t423).bind fun t439 => (laws_FnDivided.j0 k t421 (wrap64 (1 + t422)) t423 t427 (wrap64 (1 + t436)) bt437.1 (!t439))) else (laws_FnDivided.j0 k t421 (wrap64 (1 + t422)) t423 t427 (wrap64 (1 + t436)) bt437.1 true)) else (laws_FnDivided.j0 k t421 (wrap64 (1 + t422)) t423 t427 (wrap64 (1 + t436)) bt437.1 true)) else (laws_FnDivided.j0 k t421 (wrap64 (1 + t422)) t423 t427 (wrap64 (1 + t436)) bt437.1 true)) else (laws_FnDivided.j0 k t421 (wrap64 (1 + t422)) t423 t427 (wrap64 (1 + t436)) bt437.1 true)) else (laws_FnDivided.j0 k t421 (wrap64 (1 + t422)) t423 t427 (wrap64 (1 + t436)) bt437.1 true)) else (laws_FnDivided.j0 k t421 (wrap64 (1 + t422)) t423 t427 (wrap64 (1 + t436)) bt437.1 true)) else (laws_FnDivided.j0 k t421 (wrap64 (1 + t422)) t423 t427 (wrap64 (1 + t436)) bt437.1 true))) = some r := H
  have A12 := Aside0.mk A120
  clear A120
  replace H := Option.bind_eq_some_iff.mp H
  obtain ⟨⟨t437, t438⟩, A130, H⟩ := H
  replace H : (if t428 = true then (if t430 = true then (if t435 = true then (if t438 = true then (if t429.toList = t434.toList then (if (t427.size : Int) = (t421.size : Int) then (if (t437.size : Int) = (t421.size : Int) then ((impl_ValidDivider.f (wrap64 (1 + t422)) t423).bind fun t439 => (laws_FnDivided.j0 k t421 (wrap64 (1 + t422)) t423 t427 (wrap64 (1 + t436)) t437 (!t439))) else (laws_FnDivided.j0 k t421 (wrap64 (1 + t422)) t423 t427 (wrap64 (1 + t436)) t437 true)) else (laws_FnDivided.j0 k t421 (wrap64 (1 + t422)) t423 t427 (wrap64 (1 + t436)) t437 true)) else (laws_FnDivided.j0 k t421 (wrap64 (1 + t422)) t423 t427 (wrap64 (1 + t436)) t437 true)) else (laws_FnDivided.j0 k t421 (wrap64 (1 + t422)) t423 t427 (wrap64 (1 + t436)) t437 true)) else (laws_FnDivided.j0 k t421 (wrap64 (1 + t422)) t423 t427 (wrap64 (1 + t436)) t437 true)) else (laws_FnDivided.j0 k t421 (wrap64 (1 + t422)) t423 t427 (wrap64 (1 + t436)) t437 true)) else (laws_FnDivided.j0 k t421 (wrap64 (1 + t422)) t423 t427 (wrap64 (1 + t436)) t437 true)) = some r := H
  have A13 := Aside0.mk A130
  clear A130
  have HC14 := Aside0.mk H
  clear H
  go_enter Tryd.func14, Tryd.ntmps14
  go_upto_region 13 with (first | (go_at_call 46; (with_reducible refine (laws_b10Long.calls _ _ l0 _ _ l1 false _ ?side1 ?side2 ?side3 ?side4 A3.out).mono ?_); (case side1 => repeat (first | exact HR0.out | (with_reducible refine Kd.C_alloc ?_ _) | (with_reducible refine Kd.C_drewN ?_ _) | (with_reducible refine Kd.C_drew ?_))); (case side2 => exact HC0.out); (case side3 => repeat (first | exact HR1.out | (with_reducible refine Kd.C_alloc ?_ _) | (with_reducible refine Kd.C_drewN ?_ _) | (with_reducible refine Kd.C_drew ?_))); (case side4 => exact HC1.out); rintro e w' ⟨rfl, ⟨nd, rfl⟩⟩; (try first | exact ⟨rfl, _, World.drewN_drewN _ _ _⟩ | exact ⟨rfl, _, Eq.trans (World.drewN_drewN _ _ _) (congrArg (World.drewN _) (Nat.add_assoc _ _ _))⟩)) | (go_at_call 47; (with_reducible refine (spec_B10Wave.calls k _ _ l0 t421 _ ?side1 ?side2 A5.out).mono ?_); (case side1 => repeat (first | exact HR0.out | (with_reducible refine Kd.C_alloc ?_ _) | (with_reducible refine Kd.C_drewN ?_ _) | (with_reducible refine Kd.C_drew ?_))); (case side2 => exact HC0.out); rintro e w15 ⟨rfl, hb⟩; have n0_ := Aside0.mk (below_step (by repeat (first | (with_reducible first | exact HB.out | apply below_alloc | apply pw_below_drewN | apply below_drew1) | exact HB.out)) hb); clear HB; have HB := n0_; clear n0_; (try clear hb); (try clear hb2); (try clear hk); (try clear hi)) | (go_at_call 48; (with_reducible refine (laws_b10At.calls _ _ l1 0 6 t422 _ ?side1 ?side2 A6.out).mono ?_); (case side1 => repeat (first | exact (Kd.C_below HR1.out HB.out) | (with_reducible refine Kd.C_alloc ?_ _) | (with_reducible refine Kd.C_drewN ?_ _) | (with_reducible refine Kd.C_drew ?_))); (case side2 => exact HC1.out); rintro e w' ⟨rfl, ⟨nd, rfl⟩⟩; (try first | exact ⟨rfl, _, World.drewN_drewN _ _ _⟩ | exact ⟨rfl, _, Eq.trans (World.drewN_drewN _ _ _) (congrArg (World.drewN _) (Nat.add_assoc _ _ _))⟩)) | (go_at_call 48; (with_reducible refine (laws_b10At.calls _ _ l1 1 (wrap64 ((wrap64 (1 + t422)) + 1)) t423 _ ?side1 ?side2 A7.out).mono ?_); (case side1 => repeat (first | exact (Kd.C_below HR1.out (by repeat (first | (with_reducible first | exact HB.out | apply below_alloc | apply pw_below_drewN | apply below_drew1) | exact HB.out))) | (with_reducible refine Kd.C_alloc ?_ _) | (with_reducible refine Kd.C_drewN ?_ _) | (with_reducible refine Kd.C_drew ?_))); (case side2 => exact HC1.out); rintro e w' ⟨rfl, ⟨nd, rfl⟩⟩; (try first | exact ⟨rfl, _, World.drewN_drewN _ _ _⟩ | exact ⟨rfl, _, Eq.trans (World.drewN_drewN _ _ _) (congrArg (World.drewN _) (Nat.add_assoc _ _ _))⟩)) | ((with_reducible refine gate_dst (N := 8) rfl ?_); (try (refine gate_guard (by rfl) ?_; dsimp only)); refine box_event ?hg (N := 8) ?hd (cs := #[.int .i64 0, .int .i64 0]) (t := 32) ?hr ?_; (case hd => rfl); (case hg => rfl); (case hr => first | (go_simp; done) | (go_simp; rfl)); intro gb424 hg w16 hbox hb; have n0_ := Aside0.mk (below_step (by repeat (first | (with_reducible first | exact HB.out | apply below_alloc | apply pw_below_drewN | apply below_drew1) | exact HB.out)) hb); have n1_ := Aside0.mk (hbox); have n2_ := Aside0.mk ((by rw [hg]; exact (below_size (by repeat (first | (with_reducible first | exact HB.out | apply below_alloc | apply pw_below_drewN | apply below_drew1) | exact HB.out))) : w.heap.size ≤ gb424)); have n3_ := Aside0.mk ((by rw [hg]; exact (below_size (by repeat (first | (with_reducible first | exact HB.out | apply below_alloc | apply pw_below_drewN | apply below_drew1) | exact HB.out))) : w.heap.size ≤ gb424)); clear HB; have HB := n0_; have BK424 := n1_; have GW424 := n2_; have GE424 := n3_; clear n0_ n1_ n2_ n3_; clear hb hbox hg; have hcz17_0 : w16.cell? ⟨gb424, 0, none⟩ = some (.int .i64 0) := (blk_cell BK424.out 0).trans rfl; have hcz17_1 : w16.cell? ⟨gb424, 1, none⟩ = some (.int .i64 0) := (blk_cell BK424.out 1).trans rfl; have hfz17_0 := blk_frozen BK424.out 0; have hfz17_1 := blk_frozen BK424.out 1) | (go_at_call 48; (with_reducible refine (laws_b10At.calls _ _ l1 2 4 t425 _ ?side1 ?side2 A8.out).mono ?_); (case side1 => exact Kd.C_below HR1.out (by repeat (first | (with_reducible first | exact HB.out | apply below_alloc | apply pw_below_drewN | apply below_drew1 | refine below_set ?_ GE424.out) | exact HB.out))); (case side2 => exact HC1.out); rintro e w' ⟨rfl, ⟨nd, rfl⟩⟩; (try first | exact ⟨rfl, _, World.drewN_drewN _ _ _⟩ | exact ⟨rfl, _, Eq.trans (World.drewN_drewN _ _ _) (congrArg (World.drewN _) (Nat.add_assoc _ _ _))⟩)) | ((with_reducible refine gate_dst (N := 9) rfl ?_); (try (refine gate_guard (by rfl) ?_; dsimp only)); refine box_event ?hg (N := 9) ?hd (cs := #[.int .i64 0, .int .i64 0]) (t := 32) ?hr ?_; (case hd => rfl); (case hg => rfl); (case hr => first | (go_simp; done) | (go_simp; rfl)); intro gb426 hg w18 hbox hb; have n0_ := Aside0.mk (blk_below (g := gb424) (o := .cells #[.int .i64 (wrap64 (1 + t422)), .int .i64 t423] 32 (0, 0)) (by (with_reducible repeat (first | refine blk_drewN ?_ _ | refine blk_drew ?_ | refine blk_alloc ?_ _)); refine blk_put (cs := #[.int .i64 (wrap64 (1 + t422)), .int .i64 0]) ?_ 1 _ rfl; (with_reducible repeat (first | refine blk_drewN ?_ _ | refine blk_drew ?_ | refine blk_alloc ?_ _)); refine blk_put (cs := #[.int .i64 0, .int .i64 0]) ?_ 0 _ rfl; (with_reducible repeat (first | refine blk_drewN ?_ _ | refine blk_drew ?_ | refine blk_alloc ?_ _)); exact BK424.out) hb); have n1_ := Aside0.mk (below_step (by repeat (first | (with_reducible first | exact HB.out | apply below_alloc | apply pw_below_drewN | apply below_drew1 | refine below_set ?_ GE424.out) | exact HB.out)) hb); have n2_ := Aside0.mk (hbox); have n3_ := Aside0.mk ((by rw [hg]; exact (below_size (by repeat (first | (with_reducible first | exact HB.out | apply below_alloc | apply pw_below_drewN | apply below_drew1 | refine below_set ?_ GE424.out) | exact HB.out))) : w.heap.size ≤ gb426)); have n4_ := Aside0.mk ((by rw [hg]; exact (below_size (by repeat (first | (with_reducible first | exact HB.out | apply below_alloc | apply pw_below_drewN | apply below_drew1 | refine below_set ?_ GE424.out) | exact HB.out))) : w.heap.size ≤ gb426)); have n5_ := Aside0.mk ((by rw [hg]; exact Nat.ne_of_lt (blk_lt (g := gb424) (o := .cells #[.int .i64 (wrap64 (1 + t422)), .int .i64 t423] 32 (0, 0)) (by (with_reducible repeat (first | refine blk_drewN ?_ _ | refine blk_drew ?_ | refine blk_alloc ?_ _)); refine blk_put (cs := #[.int .i64 (wrap64 (1 + t422)), .int .i64 0]) ?_ 1 _ rfl; (with_reducible repeat (first | refine blk_drewN ?_ _ | refine blk_drew ?_ | refine blk_alloc ?_ _)); refine blk_put (cs := #[.int .i64 0, .int .i64 0]) ?_ 0 _ rfl; (with_reducible repeat (first | refine blk_drewN ?_ _ | refine blk_drew ?_ | refine blk_alloc ?_ _)); exact BK424.out)) : gb424 ≠ gb426)); have n6_ := Aside0.mk ((by rw [hg]; exact Nat.ne_of_gt (blk_lt (g := gb424) (o := .cells #[.int .i64 (wrap64 (1 + t422)), .int .i64 t423] 32 (0, 0)) (by (with_reducible repeat (first | refine blk_drewN ?_ _ | refine blk_drew ?_ | refine blk_alloc ?_ _)); refine blk_put (cs := #[.int .i64 (wrap64 (1 + t422)), .int .i64 0]) ?_ 1 _ rfl; (with_reducible repeat (first | refine blk_drewN ?_ _ | refine blk_drew ?_ | refine blk_alloc ?_ _)); refine blk_put (cs := #[.int .i64 0, .int .i64 0]) ?_ 0 _ rfl; (with_reducible repeat (first | refine blk_drewN ?_ _ | refine blk_drew ?_ | refine blk_alloc ?_ _)); exact BK424.out)) : gb426 ≠ gb424)); clear BK424; clear HB; have BK424 := n0_; have HB := n1_; have BK426 := n2_; have GW426 := n3_; have GE426 := n4_; have NB424_426 := n5_; have NB426_424 := n6_; clear n0_ n1_ n2_ n3_ n4_ n5_ n6_; clear hb hbox hg; have hnb19 := NB426_424.out; have hnc19 := NB424_426.out; have hcz20_0 : w18.cell? ⟨gb426, 0, none⟩ = some (.int .i64 0) := (blk_cell BK426.out 0).trans rfl; have hcz20_1 : w18.cell? ⟨gb426, 1, none⟩ = some (.int .i64 0) := (blk_cell BK426.out 1).trans rfl; have hfz20_0 := blk_frozen BK426.out 0; have hfz20_1 := blk_frozen BK426.out 1; have hcz21_0 : w18.cell? ⟨gb424, 0, none⟩ = some (.int .i64 (wrap64 (1 + t422))) := (blk_cell BK424.out 0).trans rfl; have hcz21_1 : w18.cell? ⟨gb424, 1, none⟩ = some (.int .i64 t423) := (blk_cell BK424.out 1).trans rfl; have hfz21_0 := blk_frozen BK424.out 0; have hfz21_1 := blk_frozen BK424.out 1) | (go_at_call 25; (with_reducible refine (impl_DivideWave.calls (wrap64 (1 + t422)) t423 t421 t427 t428 _ A9.out).mono ?_); rintro e w22 ⟨rfl, hb⟩; have n0_ := Aside0.mk (blk_below (g := gb424) (o := .cells #[.int .i64 (wrap64 (1 + t422)), .int .i64 t423] 32 (0, 0)) (by (with_reducible repeat (first | refine blk_drewN ?_ _ | refine blk_drew ?_ | refine blk_alloc ?_ _)); refine blk_far ?_ NB424_426.out _; (with_reducible repeat (first | refine blk_drewN ?_ _ | refine blk_drew ?_ | refine blk_alloc ?_ _)); refine blk_far ?_ NB424_426.out _; (with_reducible repeat (first | refine blk_drewN ?_ _ | refine blk_drew ?_ | refine blk_alloc ?_ _)); exact BK424.out) hb); have n1_ := Aside0.mk (blk_below (g := gb426) (o := .cells #[.int .i64 (wrap64 (1 + t425)), .int .i64 1] 32 (0, 0)) (by (with_reducible repeat (first | refine blk_drewN ?_ _ | refine blk_drew ?_ | refine blk_alloc ?_ _)); refine blk_put (cs := #[.int .i64 (wrap64 (1 + t425)), .int .i64 0]) ?_ 1 _ rfl; (with_reducible repeat (first | refine blk_drewN ?_ _ | refine blk_drew ?_ | refine blk_alloc ?_ _)); refine blk_put (cs := #[.int .i64 0, .int .i64 0]) ?_ 0 _ rfl; (with_reducible repeat (first | refine blk_drewN ?_ _ | refine blk_drew ?_ | refine blk_alloc ?_ _)); exact BK426.out) hb); have n2_ := Aside0.mk (below_step (by repeat (first | (with_reducible first | exact HB.out | apply below_alloc | apply pw_below_drewN | apply below_drew1 | refine below_set ?_ GE424.out | refine below_set ?_ GE426.out) | exact HB.out)) hb); clear BK424; clear BK426; clear HB; have BK424 := n0_; have BK426 := n1_; have HB := n2_; clear n0_ n1_ n2_; (try clear hb); (try clear hb2); (try clear hk); (try clear hi); have hcz23_0 : w22.cell? ⟨gb426, 0, none⟩ = some (.int .i64 (wrap64 (1 + t425))) := (blk_cell BK426.out 0).trans rfl; have hcz23_1 : w22.cell? ⟨gb426, 1, none⟩ = some (.int .i64 1) := (blk_cell BK426.out 1).trans rfl; have hfz23_0 := blk_frozen BK426.out 0; have hfz23_1 := blk_frozen BK426.out 1) | (go_at_call 25; (with_reducible refine (impl_DivideWave.calls (wrap64 (1 + t425)) 1 t427 t429 t430 _ A10.out).mono ?_); rintro e w24 ⟨rfl, hb⟩; have n0_ := Aside0.mk (blk_below (g := gb424) (o := .cells #[.int .i64 (wrap64 (1 + t422)), .int .i64 t423] 32 (0, 0)) (by (with_reducible repeat (first | refine blk_drewN ?_ _ | refine blk_drew ?_ | refine blk_alloc ?_ _)); exact BK424.out) hb); have n1_ := Aside0.mk (blk_below (g := gb426) (o := .cells #[.int .i64 (wrap64 (1 + t425)), .int .i64 1] 32 (0, 0)) (by (with_reducible repeat (first | refine blk_drewN ?_ _ | refine blk_drew ?_ | refine blk_alloc ?_ _)); exact BK426.out) hb); have n2_ := Aside0.mk (below_step (by repeat (first | (with_reducible first | exact HB.out | apply below_alloc | apply pw_below_drewN | apply below_drew1 | refine below_set ?_ GE424.out | refine below_set ?_ GE426.out) | exact HB.out)) hb); clear BK424; clear BK426; clear HB; have BK424 := n0_; have BK426 := n1_; have HB := n2_; clear n0_ n1_ n2_; (try clear hb); (try clear hb2); (try clear hk); (try clear hi); have hcz25_0 : w24.cell? ⟨gb424, 0, none⟩ = some (.int .i64 (wrap64 (1 + t422))) := (blk_cell BK424.out 0).trans rfl; have hcz25_1 : w24.cell? ⟨gb424, 1, none⟩ = some (.int .i64 t423) := (blk_cell BK424.out 1).trans rfl; have hfz25_0 := blk_frozen BK424.out 0; have hfz25_1 := blk_frozen BK424.out 1; have hcz26_0 : w24.cell? ⟨gb426, 0, none⟩ = some (.int .i64 (wrap64 (1 + t425))) := (blk_cell BK426.out 0).trans rfl; have hcz26_1 : w24.cell? ⟨gb426, 1, none⟩ = some (.int .i64 1) := (blk_cell BK426.out 1).trans rfl; have hfz26_0 := blk_frozen BK426.out 0; have hfz26_1 := blk_frozen BK426.out 1) | ((with_reducible refine gate_dst (N := 58) rfl ?_); (try (refine gate_guard (by rfl) ?_; dsimp only)); refine Kd.R_lit k32 _ 32 ?hg (N := 58) ?hd (xs := ([(⟨wrap64 (1 + t422), t423⟩ : S32), (⟨wrap64 (1 + t425), 1⟩ : S32)] : List (S32))) (inner := [.int .i64 (wrap64 (1 + t422)), .int .i64 t423, .int .i64 (wrap64 (1 + t425)), .int .i64 1]) (ok := fun _ => True) (okp := fun _ => True) ?hr ?hp (fun _ hk => hk) trivial (Below.refl _ _) (Nat.le_refl _) (by simp) ?_; (case hd => rfl); (case hg => rfl); (case hr => first | (go_simp; done) | (go_simp; rfl)); (case hp => exact (Reps.c2 (show Kd.M k32 _ _ _ (⟨wrap64 (1 + t422), t423⟩ : S32) [.int .i64 (wrap64 (1 + t422)), .int .i64 t423] from (k32_mkM _ _ _ (⟨wrap64 (1 + t422), t423⟩ : S32) )) (Reps.c2 (show Kd.M k32 _ _ _ (⟨wrap64 (1 + t425), 1⟩ : S32) [.int .i64 (wrap64 (1 + t425)), .int .i64 1] from (k32_mkM _ _ _ (⟨wrap64 (1 + t425), 1⟩ : S32) )) (Reps.none _ _)))); intro v432 w27 ho28 hb hg_ hnew_; clear hg_ hnew_; (first | rw [← Ny431.out] at ho28 | (simp only [Int.reduceToNat] at ho28; rw [← Ny431.out] at ho28)); have n0_ := Aside0.mk (Kd.R_lower (Kd.R_newB (Kd.R_newB ho28 (g := gb424) (o := .cells #[.int .i64 (wrap64 (1 + t422)), .int .i64 t423] 32 (0, 0)) (by (with_reducible repeat (first | refine blk_drewN ?_ _ | refine blk_drew ?_ | refine blk_alloc ?_ _)); exact BK424.out)) (g := gb426) (o := .cells #[.int .i64 (wrap64 (1 + t425)), .int .i64 1] 32 (0, 0)) (by (with_reducible repeat (first | refine blk_drewN ?_ _ | refine blk_drew ?_ | refine blk_alloc ?_ _)); exact BK426.out)) (below_size (by repeat (first | (with_reducible first | exact HB.out | apply below_alloc | apply pw_below_drewN | apply below_drew1 | refine below_set ?_ GE424.out | refine below_set ?_ GE426.out) | exact HB.out)))); have n1_ := Aside0.mk (blk_below (g := gb424) (o := .cells #[.int .i64 (wrap64 (1 + t422)), .int .i64 t423] 32 (0, 0)) (by (with_reducible repeat (first | refine blk_drewN ?_ _ | refine blk_drew ?_ | refine blk_alloc ?_ _)); exact BK424.out) hb); have n2_ := Aside0.mk (blk_below (g := gb426) (o := .cells #[.int .i64 (wrap64 (1 + t425)), .int .i64 1] 32 (0, 0)) (by (with_reducible repeat (first | refine blk_drewN ?_ _ | refine blk_drew ?_ | refine blk_alloc ?_ _)); exact BK426.out) hb); have n3_ := Aside0.mk (below_step (by repeat (first | (with_reducible first | exact HB.out | apply below_alloc | apply pw_below_drewN | apply below_drew1 | refine below_set ?_ GE424.out | refine below_set ?_ GE426.out) | exact HB.out)) hb); clear BK424; clear BK426; clear HB; have HO433 := n0_; have BK424 := n1_; have BK426 := n2_; have HB := n3_; clear n0_ n1_ n2_ n3_; clear hb ho28; obtain ⟨Ao29, co29, eo29⟩ := Kd.R_slice HO433.out; subst eo29) | (go_at_call 29; (with_reducible refine (impl_DivideChain.calls _ _ y431 t421 t434 t435 _ ?side1 ?side2 A11.out).mono ?_); (case side1 => repeat (first | exact (Kd.R_reads' HO433.out).2.2 | (with_reducible refine Kd.C_alloc ?_ _) | (with_reducible refine Kd.C_drewN ?_ _) | (with_reducible refine Kd.C_drew ?_))); (case side2 => exact (Kd.R_reads' HO433.out).2.1); rintro e w30 ⟨rfl, hb⟩; have n0_ := Aside0.mk (Kd.R_below (by (with_reducible repeat (first | apply Kd.R_alloc | apply Kd.R_drewN | apply Kd.R_drew)); exact HO433.out) hb); have n1_ := Aside0.mk (blk_below (g := gb424) (o := .cells #[.int .i64 (wrap64 (1 + t422)), .int .i64 t423] 32 (0, 0)) (by (with_reducible repeat (first | refine blk_drewN ?_ _ | refine blk_drew ?_ | refine blk_alloc ?_ _)); exact BK424.out) hb); have n2_ := Aside0.mk (blk_below (g := gb426) (o := .cells #[.int .i64 (wrap64 (1 + t425)), .int .i64 1] 32 (0, 0)) (by (with_reducible repeat (first | refine blk_drewN ?_ _ | refine blk_drew ?_ | refine blk_alloc ?_ _)); exact BK426.out) hb); have n3_ := Aside0.mk (below_step (by repeat (first | (with_reducible first | exact HB.out | apply below_alloc | apply pw_below_drewN | apply below_drew1 | refine below_set ?_ GE424.out | refine below_set ?_ GE426.out) | exact HB.out)) hb); clear HO433; clear BK424; clear BK426; clear HB; have HO433 := n0_; have BK424 := n1_; have BK426 := n2_; have HB := n3_; clear n0_ n1_ n2_ n3_; (try clear hb); (try clear hb2); (try clear hk); (try clear hi)) | (go_at_call 48; (with_reducible refine (laws_b10At.calls _ _ l1 3 5 t436 _ ?side1 ?side2 A12.out).mono ?_); (case side1 => repeat (first | exact (Kd.C_below HR1.out HB.out) | (with_reducible refine Kd.C_alloc ?_ _) | (with_reducible refine Kd.C_drewN ?_ _) | (with_reducible refine Kd.C_drew ?_))); (case side2 => exact HC1.out); rintro e w' ⟨rfl, ⟨nd, rfl⟩⟩; (try first | exact ⟨rfl, _, World.drewN_drewN _ _ _⟩ | exact ⟨rfl, _, Eq.trans (World.drewN_drewN _ _ _) (congrArg (World.drewN _) (Nat.add_assoc _ _ _))⟩)) | (go_at_call 22; (with_reducible refine (impl_ToggleWave.calls (wrap64 (1 + t436)) t421 t437 t438 _ A13.out).mono ?_); rintro e w31 ⟨rfl, hb⟩; have n0_ := Aside0.mk (Kd.R_below (by (with_reducible repeat (first | apply Kd.R_alloc | apply Kd.R_drewN | apply Kd.R_drew)); exact HO433.out) hb); have n1_ := Aside0.mk (blk_below (g := gb424) (o := .cells #[.int .i64 (wrap64 (1 + t422)), .int .i64 t423] 32 (0, 0)) (by (with_reducible repeat (first | refine blk_drewN ?_ _ | refine blk_drew ?_ | refine blk_alloc ?_ _)); exact BK424.out) hb); have n2_ := Aside0.mk (blk_below (g := gb426) (o := .cells #[.int .i64 (wrap64 (1 + t425)), .int .i64 1] 32 (0, 0)) (by (with_reducible repeat (first | refine blk_drewN ?_ _ | refine blk_drew ?_ | refine blk_alloc ?_ _)); exact BK426.out) hb); have n3_ := Aside0.mk (below_step (by repeat (first | (with_reducible first | exact HB.out | apply below_alloc | apply pw_below_drewN | apply below_drew1 | refine below_set ?_ GE424.out | refine below_set ?_ GE426.out) | exact HB.out)) hb); clear HO433; clear BK424; clear BK426; clear HB; have HO433 := n0_; have BK424 := n1_; have BK426 := n2_; have HB := n3_; clear n0_ n1_ n2_ n3_; (try clear hb); (try clear hb2); (try clear hk); (try clear hi)))
  repeat (go_quiet (first | (go_at_call 46; (with_reducible refine (laws_b10Long.calls _ _ l0 _ _ l1 false _ ?side1 ?side2 ?side3 ?side4 A3.out).mono ?_); (case side1 => repeat (first | exact HR0.out | (with_reducible refine Kd.C_alloc ?_ _) | (with_reducible refine Kd.C_drewN ?_ _) | (with_reducible refine Kd.C_drew ?_))); (case side2 => exact HC0.out); (case side3 => repeat (first | exact HR1.out | (with_reducible refine Kd.C_alloc ?_ _) | (with_reducible refine Kd.C_drewN ?_ _) | (with_reducible refine Kd.C_drew ?_))); (case side4 => exact HC1.out); rintro e w' ⟨rfl, ⟨nd, rfl⟩⟩; (try first | exact ⟨rfl, _, World.drewN_drewN _ _ _⟩ | exact ⟨rfl, _, Eq.trans (World.drewN_drewN _ _ _) (congrArg (World.drewN _) (Nat.add_assoc _ _ _))⟩)) | (go_at_call 47; (with_reducible refine (spec_B10Wave.calls k _ _ l0 t421 _ ?side1 ?side2 A5.out).mono ?_); (case side1 => repeat (first | exact HR0.out | (with_reducible refine Kd.C_alloc ?_ _) | (with_reducible refine Kd.C_drewN ?_ _) | (with_reducible refine Kd.C_drew ?_))); (case side2 => exact HC0.out); rintro e w15 ⟨rfl, hb⟩; have n0_ := Aside0.mk (below_step (by repeat (first | (with_reducible first | exact HB.out | apply below_alloc | apply pw_below_drewN | apply below_drew1) | exact HB.out)) hb); clear HB; have HB := n0_; clear n0_; (try clear hb); (try clear hb2); (try clear hk); (try clear hi)) | (go_at_call 48; (with_reducible refine (laws_b10At.calls _ _ l1 0 6 t422 _ ?side1 ?side2 A6.out).mono ?_); (case side1 => repeat (first | exact (Kd.C_below HR1.out HB.out) | (with_reducible refine Kd.C_alloc ?_ _) | (with_reducible refine Kd.C_drewN ?_ _) | (with_reducible refine Kd.C_drew ?_))); (case side2 => exact HC1.out); rintro e w' ⟨rfl, ⟨nd, rfl⟩⟩; (try first | exact ⟨rfl, _, World.drewN_drewN _ _ _⟩ | exact ⟨rfl, _, Eq.trans (World.drewN_drewN _ _ _) (congrArg (World.drewN _) (Nat.add_assoc _ _ _))⟩)) | (go_at_call 48; (with_reducible refine (laws_b10At.calls _ _ l1 1 (wrap64 ((wrap64 (1 + t422)) + 1)) t423 _ ?side1 ?side2 A7.out).mono ?_); (case side1 => repeat (first | exact (Kd.C_below HR1.out (by repeat (first | (with_reducible first | exact HB.out | apply below_alloc | apply pw_below_drewN | apply below_drew1) | exact HB.out))) | (with_reducible refine Kd.C_alloc ?_ _) | (with_reducible refine Kd.C_drewN ?_ _) | (with_reducible refine Kd.C_drew ?_))); (case side2 => exact HC1.out); rintro e w' ⟨rfl, ⟨nd, rfl⟩⟩; (try first | exact ⟨rfl, _, World.drewN_drewN _ _ _⟩ | exact ⟨rfl, _, Eq.trans (World.drewN_drewN _ _ _) (congrArg (World.drewN _) (Nat.add_assoc _ _ _))⟩)) | ((with_reducible refine gate_dst (N := 8) rfl ?_); (try (refine gate_guard (by rfl) ?_; dsimp only)); refine box_event ?hg (N := 8) ?hd (cs := #[.int .i64 0, .int .i64 0]) (t := 32) ?hr ?_; (case hd => rfl); (case hg => rfl); (case hr => first | (go_simp; done) | (go_simp; rfl)); intro gb424 hg w16 hbox hb; have n0_ := Aside0.mk (below_step (by repeat (first | (with_reducible first | exact HB.out | apply below_alloc | apply pw_below_drewN | apply below_drew1) | exact HB.out)) hb); have n1_ := Aside0.mk (hbox); have n2_ := Aside0.mk ((by rw [hg]; exact (below_size (by repeat (first | (with_reducible first | exact HB.out | apply below_alloc | apply pw_below_drewN | apply below_drew1) | exact HB.out))) : w.heap.size ≤ gb424)); have n3_ := Aside0.mk ((by rw [hg]; exact (below_size (by repeat (first | (with_reducible first | exact HB.out | apply below_alloc | apply pw_below_drewN | apply below_drew1) | exact HB.out))) : w.heap.size ≤ gb424)); clear HB; have HB := n0_; have BK424 := n1_; have GW424 := n2_; have GE424 := n3_; clear n0_ n1_ n2_ n3_; clear hb hbox hg; have hcz17_0 : w16.cell? ⟨gb424, 0, none⟩ = some (.int .i64 0) := (blk_cell BK424.out 0).trans rfl; have hcz17_1 : w16.cell? ⟨gb424, 1, none⟩ = some (.int .i64 0) := (blk_cell BK424.out 1).trans rfl; have hfz17_0 := blk_frozen BK424.out 0; have hfz17_1 := blk_frozen BK424.out 1) | (go_at_call 48; (with_reducible refine (laws_b10At.calls _ _ l1 2 4 t425 _ ?side1 ?side2 A8.out).mono ?_); (case side1 => exact Kd.C_below HR1.out (by repeat (first | (with_reducible first | exact HB.out | apply below_alloc | apply pw_below_drewN | apply below_drew1 | refine below_set ?_ GE424.out) | exact HB.out))); (case side2 => exact HC1.out); rintro e w' ⟨rfl, ⟨nd, rfl⟩⟩; (try first | exact ⟨rfl, _, World.drewN_drewN _ _ _⟩ | exact ⟨rfl, _, Eq.trans (World.drewN_drewN _ _ _) (congrArg (World.drewN _) (Nat.add_assoc _ _ _))⟩)) | ((with_reducible refine gate_dst (N := 9) rfl ?_); (try (refine gate_guard (by rfl) ?_; dsimp only)); refine box_event ?hg (N := 9) ?hd (cs := #[.int .i64 0, .int .i64 0]) (t := 32) ?hr ?_; (case hd => rfl); (case hg => rfl); (case hr => first | (go_simp; done) | (go_simp; rfl)); intro gb426 hg w18 hbox hb; have n0_ := Aside0.mk (blk_below (g := gb424) (o := .cells #[.int .i64 (wrap64 (1 + t422)), .int .i64 t423] 32 (0, 0)) (by (with_reducible repeat (first | refine blk_drewN ?_ _ | refine blk_drew ?_ | refine blk_alloc ?_ _)); refine blk_put (cs := #[.int .i64 (wrap64 (1 + t422)), .int .i64 0]) ?_ 1 _ rfl; (with_reducible repeat (first | refine blk_drewN ?_ _ | refine blk_drew ?_ | refine blk_alloc ?_ _)); refine blk_put (cs := #[.int .i64 0, .int .i64 0]) ?_ 0 _ rfl; (with_reducible repeat (first | refine blk_drewN ?_ _ | refine blk_drew ?_ | refine blk_alloc ?_ _)); exact BK424.out) hb); have n1_ := Aside0.mk (below_step (by repeat (first | (with_reducible first | exact HB.out | apply below_alloc | apply pw_below_drewN | apply below_drew1 | refine below_set ?_ GE424.out) | exact HB.out)) hb); have n2_ := Aside0.mk (hbox); have n3_ := Aside0.mk ((by rw [hg]; exact (below_size (by repeat (first | (with_reducible first | exact HB.out | apply below_alloc | apply pw_below_drewN | apply below_drew1 | refine below_set ?_ GE424.out) | exact HB.out))) : w.heap.size ≤ gb426)); have n4_ := Aside0.mk ((by rw [hg]; exact (below_size (by repeat (first | (with_reducible first | exact HB.out | apply below_alloc | apply pw_below_drewN | apply below_drew1 | refine below_set ?_ GE424.out) | exact HB.out))) : w.heap.size ≤ gb426)); have n5_ := Aside0.mk ((by rw [hg]; exact Nat.ne_of_lt (blk_lt (g := gb424) (o := .cells #[.int .i64 (wrap64 (1 + t422)), .int .i64 t423] 32 (0, 0)) (by (with_reducible repeat (first | refine blk_drewN ?_ _ | refine blk_drew ?_ | refine blk_alloc ?_ _)); refine blk_put (cs := #[.int .i64 (wrap64 (1 + t422)), .int .i64 0]) ?_ 1 _ rfl; (with_reducible repeat (first | refine blk_drewN ?_ _ | refine blk_drew ?_ | refine blk_alloc ?_ _)); refine blk_put (cs := #[.int .i64 0, .int .i64 0]) ?_ 0 _ rfl; (with_reducible repeat (first | refine blk_drewN ?_ _ | refine blk_drew ?_ | refine blk_alloc ?_ _)); exact BK424.out)) : gb424 ≠ gb426)); have n6_ := Aside0.mk ((by rw [hg]; exact Nat.ne_of_gt (blk_lt (g := gb424) (o := .cells #[.int .i64 (wrap64 (1 + t422)), .int .i64 t423] 32 (0, 0)) (by (with_reducible repeat (first | refine blk_drewN ?_ _ | refine blk_drew ?_ | refine blk_alloc ?_ _)); refine blk_put (cs := #[.int .i64 (wrap64 (1 + t422)), .int .i64 0]) ?_ 1 _ rfl; (with_reducible repeat (first | refine blk_drewN ?_ _ | refine blk_drew ?_ | refine blk_alloc ?_ _)); refine blk_put (cs := #[.int .i64 0, .int .i64 0]) ?_ 0 _ rfl; (with_reducible repeat (first | refine blk_drewN ?_ _ | refine blk_drew ?_ | refine blk_alloc ?_ _)); exact BK424.out)) : gb426 ≠ gb424)); clear BK424; clear HB; have BK424 := n0_; have HB := n1_; have BK426 := n2_; have GW426 := n3_; have GE426 := n4_; have NB424_426 := n5_; have NB426_424 := n6_; clear n0_ n1_ n2_ n3_ n4_ n5_ n6_; clear hb hbox hg; have hnb19 := NB426_424.out; have hnc19 := NB424_426.out; have hcz20_0 : w18.cell? ⟨gb426, 0, none⟩ = some (.int .i64 0) := (blk_cell BK426.out 0).trans rfl; have hcz20_1 : w18.cell? ⟨gb426, 1, none⟩ = some (.int .i64 0) := (blk_cell BK426.out 1).trans rfl; have hfz20_0 := blk_frozen BK426.out 0; have hfz20_1 := blk_frozen BK426.out 1; have hcz21_0 : w18.cell? ⟨gb424, 0, none⟩ = some (.int .i64 (wrap64 (1 + t422))) := (blk_cell BK424.out 0).trans rfl; have hcz21_1 : w18.cell? ⟨gb424, 1, none⟩ = some (.int .i64 t423) := (blk_cell BK424.out 1).trans rfl; have hfz21_0 := blk_frozen BK424.out 0; have hfz21_1 := blk_frozen BK424.out 1) | (go_at_call 25; (with_reducible refine (impl_DivideWave.calls (wrap64 (1 + t422)) t423 t421 t427 t428 _ A9.out).mono ?_); rintro e w22 ⟨rfl, hb⟩; have n0_ := Aside0.mk (blk_below (g := gb424) (o := .cells #[.int .i64 (wrap64 (1 + t422)), .int .i64 t423] 32 (0, 0)) (by (with_reducible repeat (first | refine blk_drewN ?_ _ | refine blk_drew ?_ | refine blk_alloc ?_ _)); refine blk_far ?_ NB424_426.out _; (with_reducible repeat (first | refine blk_drewN ?_ _ | refine blk_drew ?_ | refine blk_alloc ?_ _)); refine blk_far ?_ NB424_426.out _; (with_reducible repeat (first | refine blk_drewN ?_ _ | refine blk_drew ?_ | refine blk_alloc ?_ _)); exact BK424.out) hb); have n1_ := Aside0.mk (blk_below (g := gb426) (o := .cells #[.int .i64 (wrap64 (1 + t425)), .int .i64 1] 32 (0, 0)) (by (with_reducible repeat (first | refine blk_drewN ?_ _ | refine blk_drew ?_ | refine blk_alloc ?_ _)); refine blk_put (cs := #[.int .i64 (wrap64 (1 + t425)), .int .i64 0]) ?_ 1 _ rfl; (with_reducible repeat (first | refine blk_drewN ?_ _ | refine blk_drew ?_ | refine blk_alloc ?_ _)); refine blk_put (cs := #[.int .i64 0, .int .i64 0]) ?_ 0 _ rfl; (with_reducible repeat (first | refine blk_drewN ?_ _ | refine blk_drew ?_ | refine blk_alloc ?_ _)); exact BK426.out) hb); have n2_ := Aside0.mk (below_step (by repeat (first | (with_reducible first | exact HB.out | apply below_alloc | apply pw_below_drewN | apply below_drew1 | refine below_set ?_ GE424.out | refine below_set ?_ GE426.out) | exact HB.out)) hb); clear BK424; clear BK426; clear HB; have BK424 := n0_; have BK426 := n1_; have HB := n2_; clear n0_ n1_ n2_; (try clear hb); (try clear hb2); (try clear hk); (try clear hi); have hcz23_0 : w22.cell? ⟨gb426, 0, none⟩ = some (.int .i64 (wrap64 (1 + t425))) := (blk_cell BK426.out 0).trans rfl; have hcz23_1 : w22.cell? ⟨gb426, 1, none⟩ = some (.int .i64 1) := (blk_cell BK426.out 1).trans rfl; have hfz23_0 := blk_frozen BK426.out 0; have hfz23_1 := blk_frozen BK426.out 1) | (go_at_call 25; (with_reducible refine (impl_DivideWave.calls (wrap64 (1 + t425)) 1 t427 t429 t430 _ A10.out).mono ?_); rintro e w24 ⟨rfl, hb⟩; have n0_ := Aside0.mk (blk_below (g := gb424) (o := .cells #[.int .i64 (wrap64 (1 + t422)), .int .i64 t423] 32 (0, 0)) (by (with_reducible repeat (first | refine blk_drewN ?_ _ | refine blk_drew ?_ | refine blk_alloc ?_ _)); exact BK424.out) hb); have n1_ := Aside0.mk (blk_below (g := gb426) (o := .cells #[.int .i64 (wrap64 (1 + t425)), .int .i64 1] 32 (0, 0)) (by (with_reducible repeat (first | refine blk_drewN ?_ _ | refine blk_drew ?_ | refine blk_alloc ?_ _)); exact BK426.out) hb); have n2_ := Aside0.mk (below_step (by repeat (first | (with_reducible first | exact HB.out | apply below_alloc | apply pw_below_drewN | apply below_drew1 | refine below_set ?_ GE424.out | refine below_set ?_ GE426.out) | exact HB.out)) hb); clear BK424; clear BK426; clear HB; have BK424 := n0_; have BK426 := n1_; have HB := n2_; clear n0_ n1_ n2_; (try clear hb); (try clear hb2); (try clear hk); (try clear hi); have hcz25_0 : w24.cell? ⟨gb424, 0, none⟩ = some (.int .i64 (wrap64 (1 + t422))) := (blk_cell BK424.out 0).trans rfl; have hcz25_1 : w24.cell? ⟨gb424, 1, none⟩ = some (.int .i64 t423) := (blk_cell BK424.out 1).trans rfl; have hfz25_0 := blk_frozen BK424.out 0; have hfz25_1 := blk_frozen BK424.out 1; have hcz26_0 : w24.cell? ⟨gb426, 0, none⟩ = some (.int .i64 (wrap64 (1 + t425))) := (blk_cell BK426.out 0).trans rfl; have hcz26_1 : w24.cell? ⟨gb426, 1, none⟩ = some (.int .i64 1) := (blk_cell BK426.out 1).trans rfl; have hfz26_0 := blk_frozen BK426.out 0; have hfz26_1 := blk_frozen BK426.out 1) | ((with_reducible refine gate_dst (N := 58) rfl ?_); (try (refine gate_guard (by rfl) ?_; dsimp only)); refine Kd.R_lit k32 _ 32 ?hg (N := 58) ?hd (xs := ([(⟨wrap64 (1 + t422), t423⟩ : S32), (⟨wrap64 (1 + t425), 1⟩ : S32)] : List (S32))) (inner := [.int .i64 (wrap64 (1 + t422)), .int .i64 t423, .int .i64 (wrap64 (1 + t425)), .int .i64 1]) (ok := fun _ => True) (okp := fun _ => True) ?hr ?hp (fun _ hk => hk) trivial (Below.refl _ _) (Nat.le_refl _) (by simp) ?_; (case hd => rfl); (case hg => rfl); (case hr => first | (go_simp; done) | (go_simp; rfl)); (case hp => exact (Reps.c2 (show Kd.M k32 _ _ _ (⟨wrap64 (1 + t422), t423⟩ : S32) [.int .i64 (wrap64 (1 + t422)), .int .i64 t423] from (k32_mkM _ _ _ (⟨wrap64 (1 + t422), t423⟩ : S32) )) (Reps.c2 (show Kd.M k32 _ _ _ (⟨wrap64 (1 + t425), 1⟩ : S32) [.int .i64 (wrap64 (1 + t425)), .int .i64 1] from (k32_mkM _ _ _ (⟨wrap64 (1 + t425), 1⟩ : S32) )) (Reps.none _ _)))); intro v432 w27 ho28 hb hg_ hnew_; clear hg_ hnew_; (first | rw [← Ny431.out] at ho28 | (simp only [Int.reduceToNat] at ho28; rw [← Ny431.out] at ho28)); have n0_ := Aside0.mk (Kd.R_lower (Kd.R_newB (Kd.R_newB ho28 (g := gb424) (o := .cells #[.int .i64 (wrap64 (1 + t422)), .int .i64 t423] 32 (0, 0)) (by (with_reducible repeat (first | refine blk_drewN ?_ _ | refine blk_drew ?_ | refine blk_alloc ?_ _)); exact BK424.out)) (g := gb426) (o := .cells #[.int .i64 (wrap64 (1 + t425)), .int .i64 1] 32 (0, 0)) (by (with_reducible repeat (first | refine blk_drewN ?_ _ | refine blk_drew ?_ | refine blk_alloc ?_ _)); exact BK426.out)) (below_size (by repeat (first | (with_reducible first | exact HB.out | apply below_alloc | apply pw_below_drewN | apply below_drew1 | refine below_set ?_ GE424.out | refine below_set ?_ GE426.out) | exact HB.out)))); have n1_ := Aside0.mk (blk_below (g := gb424) (o := .cells #[.int .i64 (wrap64 (1 + t422)), .int .i64 t423] 32 (0, 0)) (by (with_reducible repeat (first | refine blk_drewN ?_ _ | refine blk_drew ?_ | refine blk_alloc ?_ _)); exact BK424.out) hb); have n2_ := Aside0.mk (blk_below (g := gb426) (o := .cells #[.int .i64 (wrap64 (1 + t425)), .int .i64 1] 32 (0, 0)) (by (with_reducible repeat (first | refine blk_drewN ?_ _ | refine blk_drew ?_ | refine blk_alloc ?_ _)); exact BK426.out) hb); have n3_ := Aside0.mk (below_step (by repeat (first | (with_reducible first | exact HB.out | apply below_alloc | apply pw_below_drewN | apply below_drew1 | refine below_set ?_ GE424.out | refine below_set ?_ GE426.out) | exact HB.out)) hb); clear BK424; clear BK426; clear HB; have HO433 := n0_; have BK424 := n1_; have BK426 := n2_; have HB := n3_; clear n0_ n1_ n2_ n3_; clear hb ho28; obtain ⟨Ao29, co29, eo29⟩ := Kd.R_slice HO433.out; subst eo29) | (go_at_call 29; (with_reducible refine (impl_DivideChain.calls _ _ y431 t421 t434 t435 _ ?side1 ?side2 A11.out).mono ?_); (case side1 => repeat (first | exact (Kd.R_reads' HO433.out).2.2 | (with_reducible refine Kd.C_alloc ?_ _) | (with_reducible refine Kd.C_drewN ?_ _) | (with_reducible refine Kd.C_drew ?_))); (case side2 => exact (Kd.R_reads' HO433.out).2.1); rintro e w30 ⟨rfl, hb⟩; have n0_ := Aside0.mk (Kd.R_below (by (with_reducible repeat (first | apply Kd.R_alloc | apply Kd.R_drewN | apply Kd.R_drew)); exact HO433.out) hb); have n1_ := Aside0.mk (blk_below (g := gb424) (o := .cells #[.int .i64 (wrap64 (1 + t422)), .int .i64 t423] 32 (0, 0)) (by (with_reducible repeat (first | refine blk_drewN ?_ _ | refine blk_drew ?_ | refine blk_alloc ?_ _)); exact BK424.out) hb); have n2_ := Aside0.mk (blk_below (g := gb426) (o := .cells #[.int .i64 (wrap64 (1 + t425)), .int .i64 1] 32 (0, 0)) (by (with_reducible repeat (first | refine blk_drewN ?_ _ | refine blk_drew ?_ | refine blk_alloc ?_ _)); exact BK426.out) hb); have n3_ := Aside0.mk (below_step (by repeat (first | (with_reducible first | exact HB.out | apply below_alloc | apply pw_below_drewN | apply below_drew1 | refine below_set ?_ GE424.out | refine below_set ?_ GE426.out) | exact HB.out)) hb); clear HO433; clear BK424; clear BK426; clear HB; have HO433 := n0_; have BK424 := n1_; have BK426 := n2_; have HB := n3_; clear n0_ n1_ n2_ n3_; (try clear hb); (try clear hb2); (try clear hk); (try clear hi)) | (go_at_call 48; (with_reducible refine (laws_b10At.calls _ _ l1 3 5 t436 _ ?side1 ?side2 A12.out).mono ?_); (case side1 => repeat (first | exact (Kd.C_below HR1.out HB.out) | (with_reducible refine Kd.C_alloc ?_ _) | (with_reducible refine Kd.C_drewN ?_ _) | (with_reducible refine Kd.C_drew ?_))); (case side2 => exact HC1.out); rintro e w' ⟨rfl, ⟨nd, rfl⟩⟩; (try first | exact ⟨rfl, _, World.drewN_drewN _ _ _⟩ | exact ⟨rfl, _, Eq.trans (World.drewN_drewN _ _ _) (congrArg (World.drewN _) (Nat.add_assoc _ _ _))⟩)) | (go_at_call 22; (with_reducible refine (impl_ToggleWave.calls (wrap64 (1 + t436)) t421 t437 t438 _ A13.out).mono ?_); rintro e w31 ⟨rfl, hb⟩; have n0_ := Aside0.mk (Kd.R_below (by (with_reducible repeat (first | apply Kd.R_alloc | apply Kd.R_drewN | apply Kd.R_drew)); exact HO433.out) hb); have n1_ := Aside0.mk (blk_below (g := gb424) (o := .cells #[.int .i64 (wrap64 (1 + t422)), .int .i64 t423] 32 (0, 0)) (by (with_reducible repeat (first | refine blk_drewN ?_ _ | refine blk_drew ?_ | refine blk_alloc ?_ _)); exact BK424.out) hb); have n2_ := Aside0.mk (blk_below (g := gb426) (o := .cells #[.int .i64 (wrap64 (1 + t425)), .int .i64 1] 32 (0, 0)) (by (with_reducible repeat (first | refine blk_drewN ?_ _ | refine blk_drew ?_ | refine blk_alloc ?_ _)); exact BK426.out) hb); have n3_ := Aside0.mk (below_step (by repeat (first | (with_reducible first | exact HB.out | apply below_alloc | apply pw_below_drewN | apply below_drew1 | refine below_set ?_ GE424.out | refine below_set ?_ GE426.out) | exact HB.out)) hb); clear HO433; clear BK424; clear BK426; clear HB; have HO433 := n0_; have BK424 := n1_; have BK426 := n2_; have HB := n3_; clear n0_ n1_ n2_ n3_; (try clear hb); (try clear hb2); (try clear hk); (try clear hi))); go_upto_region 13 with (first | (go_at_call 46; (with_reducible refine (laws_b10Long.calls _ _ l0 _ _ l1 false _ ?side1 ?side2 ?side3 ?side4 A3.out).mono ?_); (case side1 => repeat (first | exact HR0.out | (with_reducible refine Kd.C_alloc ?_ _) | (with_reducible refine Kd.C_drewN ?_ _) | (with_reducible refine Kd.C_drew ?_))); (case side2 => exact HC0.out); (case side3 => repeat (first | exact HR1.out | (with_reducible refine Kd.C_alloc ?_ _) | (with_reducible refine Kd.C_drewN ?_ _) | (with_reducible refine Kd.C_drew ?_))); (case side4 => exact HC1.out); rintro e w' ⟨rfl, ⟨nd, rfl⟩⟩; (try first | exact ⟨rfl, _, World.drewN_drewN _ _ _⟩ | exact ⟨rfl, _, Eq.trans (World.drewN_drewN _ _ _) (congrArg (World.drewN _) (Nat.add_assoc _ _ _))⟩)) | (go_at_call 47; (with_reducible refine (spec_B10Wave.calls k _ _ l0 t421 _ ?side1 ?side2 A5.out).mono ?_); (case side1 => repeat (first | exact HR0.out | (with_reducible refine Kd.C_alloc ?_ _) | (with_reducible refine Kd.C_drewN ?_ _) | (with_reducible refine Kd.C_drew ?_))); (case side2 => exact HC0.out); rintro e w15 ⟨rfl, hb⟩; have n0_ := Aside0.mk (below_step (by repeat (first | (with_reducible first | exact HB.out | apply below_alloc | apply pw_below_drewN | apply below_drew1) | exact HB.out)) hb); clear HB; have HB := n0_; clear n0_; (try clear hb); (try clear hb2); (try clear hk); (try clear hi)) | (go_at_call 48; (with_reducible refine (laws_b10At.calls _ _ l1 0 6 t422 _ ?side1 ?side2 A6.out).mono ?_); (case side1 => repeat (first | exact (Kd.C_below HR1.out HB.out) | (with_reducible refine Kd.C_alloc ?_ _) | (with_reducible refine Kd.C_drewN ?_ _) | (with_reducible refine Kd.C_drew ?_))); (case side2 => exact HC1.out); rintro e w' ⟨rfl, ⟨nd, rfl⟩⟩; (try first | exact ⟨rfl, _, World.drewN_drewN _ _ _⟩ | exact ⟨rfl, _, Eq.trans (World.drewN_drewN _ _ _) (congrArg (World.drewN _) (Nat.add_assoc _ _ _))⟩)) | (go_at_call 48; (with_reducible refine (laws_b10At.calls _ _ l1 1 (wrap64 ((wrap64 (1 + t422)) + 1)) t423 _ ?side1 ?side2 A7.out).mono ?_); (case side1 => repeat (first | exact (Kd.C_below HR1.out (by repeat (first | (with_reducible first | exact HB.out | apply below_alloc | apply pw_below_drewN | apply below_drew1) | exact HB.out))) | (with_reducible refine Kd.C_alloc ?_ _) | (with_reducible refine Kd.C_drewN ?_ _) | (with_reducible refine Kd.C_drew ?_))); (case side2 => exact HC1.out); rintro e w' ⟨rfl, ⟨nd, rfl⟩⟩; (try first | exact ⟨rfl, _, World.drewN_drewN _ _ _⟩ | exact ⟨rfl, _, Eq.trans (World.drewN_drewN _ _ _) (congrArg (World.drewN _) (Nat.add_assoc _ _ _))⟩)) | ((with_reducible refine gate_dst (N := 8) rfl ?_); (try (refine gate_guard (by rfl) ?_; dsimp only)); refine box_event ?hg (N := 8) ?hd (cs := #[.int .i64 0, .int .i64 0]) (t := 32) ?hr ?_; (case hd => rfl); (case hg => rfl); (case hr => first | (go_simp; done) | (go_simp; rfl)); intro gb424 hg w16 hbox hb; have n0_ := Aside0.mk (below_step (by repeat (first | (with_reducible first | exact HB.out | apply below_alloc | apply pw_below_drewN | apply below_drew1) | exact HB.out)) hb); have n1_ := Aside0.mk (hbox); have n2_ := Aside0.mk ((by rw [hg]; exact (below_size (by repeat (first | (with_reducible first | exact HB.out | apply below_alloc | apply pw_below_drewN | apply below_drew1) | exact HB.out))) : w.heap.size ≤ gb424)); have n3_ := Aside0.mk ((by rw [hg]; exact (below_size (by repeat (first | (with_reducible first | exact HB.out | apply below_alloc | apply pw_below_drewN | apply below_drew1) | exact HB.out))) : w.heap.size ≤ gb424)); clear HB; have HB := n0_; have BK424 := n1_; have GW424 := n2_; have GE424 := n3_; clear n0_ n1_ n2_ n3_; clear hb hbox hg; have hcz17_0 : w16.cell? ⟨gb424, 0, none⟩ = some (.int .i64 0) := (blk_cell BK424.out 0).trans rfl; have hcz17_1 : w16.cell? ⟨gb424, 1, none⟩ = some (.int .i64 0) := (blk_cell BK424.out 1).trans rfl; have hfz17_0 := blk_frozen BK424.out 0; have hfz17_1 := blk_frozen BK424.out 1) | (go_at_call 48; (with_reducible refine (laws_b10At.calls _ _ l1 2 4 t425 _ ?side1 ?side2 A8.out).mono ?_); (case side1 => exact Kd.C_below HR1.out (by repeat (first | (with_reducible first | exact HB.out | apply below_alloc | apply pw_below_drewN | apply below_drew1 | refine below_set ?_ GE424.out) | exact HB.out))); (case side2 => exact HC1.out); rintro e w' ⟨rfl, ⟨nd, rfl⟩⟩; (try first | exact ⟨rfl, _, World.drewN_drewN _ _ _⟩ | exact ⟨rfl, _, Eq.trans (World.drewN_drewN _ _ _) (congrArg (World.drewN _) (Nat.add_assoc _ _ _))⟩)) | ((with_reducible refine gate_dst (N := 9) rfl ?_); (try (refine gate_guard (by rfl) ?_; dsimp only)); refine box_event ?hg (N := 9) ?hd (cs := #[.int .i64 0, .int .i64 0]) (t := 32) ?hr ?_; (case hd => rfl); (case hg => rfl); (case hr => first | (go_simp; done) | (go_simp; rfl)); intro gb426 hg w18 hbox hb; have n0_ := Aside0.mk (blk_below (g := gb424) (o := .cells #[.int .i64 (wrap64 (1 + t422)), .int .i64 t423] 32 (0, 0)) (by (with_reducible repeat (first | refine blk_drewN ?_ _ | refine blk_drew ?_ | refine blk_alloc ?_ _)); refine blk_put (cs := #[.int .i64 (wrap64 (1 + t422)), .int .i64 0]) ?_ 1 _ rfl; (with_reducible repeat (first | refine blk_drewN ?_ _ | refine blk_drew ?_ | refine blk_alloc ?_ _)); refine blk_put (cs := #[.int .i64 0, .int .i64 0]) ?_ 0 _ rfl; (with_reducible repeat (first | refine blk_drewN ?_ _ | refine blk_drew ?_ | refine blk_alloc ?_ _)); exact BK424.out) hb); have n1_ := Aside0.mk (below_step (by repeat (first | (with_reducible first | exact HB.out | apply below_alloc | apply pw_below_drewN | apply below_drew1 | refine below_set ?_ GE424.out) | exact HB.out)) hb); have n2_ := Aside0.mk (hbox); have n3_ := Aside0.mk ((by rw [hg]; exact (below_size (by repeat (first | (with_reducible first | exact HB.out | apply below_alloc | apply pw_below_drewN | apply below_drew1 | refine below_set ?_ GE424.out) | exact HB.out))) : w.heap.size ≤ gb426)); have n4_ := Aside0.mk ((by rw [hg]; exact (below_size (by repeat (first | (with_reducible first | exact HB.out | apply below_alloc | apply pw_below_drewN | apply below_drew1 | refine below_set ?_ GE424.out) | exact HB.out))) : w.heap.size ≤ gb426)); have n5_ := Aside0.mk ((by rw [hg]; exact Nat.ne_of_lt (blk_lt (g := gb424) (o := .cells #[.int .i64 (wrap64 (1 + t422)), .int .i64 t423] 32 (0, 0)) (by (with_reducible repeat (first | refine blk_drewN ?_ _ | refine blk_drew ?_ | refine blk_alloc ?_ _)); refine blk_put (cs := #[.int .i64 (wrap64 (1 + t422)), .int .i64 0]) ?_ 1 _ rfl; (with_reducible repeat (first | refine blk_drewN ?_ _ | refine blk_drew ?_ | refine blk_alloc ?_ _)); refine blk_put (cs := #[.int .i64 0, .int .i64 0]) ?_ 0 _ rfl; (with_reducible repeat (first | refine blk_drewN ?_ _ | refine blk_drew ?_ | refine blk_alloc ?_ _)); exact BK424.out)) : gb424 ≠ gb426)); have n6_ := Aside0.mk ((by rw [hg]; exact Nat.ne_of_gt (blk_lt (g := gb424) (o := .cells #[.int .i64 (wrap64 (1 + t422)), .int .i64 t423] 32 (0, 0)) (by (with_reducible repeat (first | refine blk_drewN ?_ _ | refine blk_drew ?_ | refine blk_alloc ?_ _)); refine blk_put (cs := #[.int .i64 (wrap64 (1 + t422)), .int .i64 0]) ?_ 1 _ rfl; (with_reducible repeat (first | refine blk_drewN ?_ _ | refine blk_drew ?_ | refine blk_alloc ?_ _)); refine blk_put (cs := #[.int .i64 0, .int .i64 0]) ?_ 0 _ rfl; (with_reducible repeat (first | refine blk_drewN ?_ _ | refine blk_drew ?_ | refine blk_alloc ?_ _)); exact BK424.out)) : gb426 ≠ gb424)); clear BK424; clear HB; have BK424 := n0_; have HB := n1_; have BK426 := n2_; have GW426 := n3_; have GE426 := n4_; have NB424_426 := n5_; have NB426_424 := n6_; clear n0_ n1_ n2_ n3_ n4_ n5_ n6_; clear hb hbox hg; have hnb19 := NB426_424.out; have hnc19 := NB424_426.out; have hcz20_0 : w18.cell? ⟨gb426, 0, none⟩ = some (.int .i64 0) := (blk_cell BK426.out 0).trans rfl; have hcz20_1 : w18.cell? ⟨gb426, 1, none⟩ = some (.int .i64 0) := (blk_cell BK426.out 1).trans rfl; have hfz20_0 := blk_frozen BK426.out 0; have hfz20_1 := blk_frozen BK426.out 1; have hcz21_0 : w18.cell? ⟨gb424, 0, none⟩ = some (.int .i64 (wrap64 (1 + t422))) := (blk_cell BK424.out 0).trans rfl; have hcz21_1 : w18.cell? ⟨gb424, 1, none⟩ = some (.int .i64 t423) := (blk_cell BK424.out 1).trans rfl; have hfz21_0 := blk_frozen BK424.out 0; have hfz21_1 := blk_frozen BK424.out 1) | (go_at_call 25; (with_reducible refine (impl_DivideWave.calls (wrap64 (1 + t422)) t423 t421 t427 t428 _ A9.out).mono ?_); rintro e w22 ⟨rfl, hb⟩; have n0_ := Aside0.mk (blk_below (g := gb424) (o := .cells #[.int .i64 (wrap64 (1 + t422)), .int .i64 t423] 32 (0, 0)) (by (with_reducible repeat (first | refine blk_drewN ?_ _ | refine blk_drew ?_ | refine blk_alloc ?_ _)); refine blk_far ?_ NB424_426.out _; (with_reducible repeat (first | refine blk_drewN ?_ _ | refine blk_drew ?_ | refine blk_alloc ?_ _)); refine blk_far ?_ NB424_426.out _; (with_reducible repeat (first | refine blk_drewN ?_ _ | refine blk_drew ?_ | refine blk_alloc ?_ _)); exact BK424.out) hb); have n1_ := Aside0.mk (blk_below (g := gb426) (o := .cells #[.int .i64 (wrap64 (1 + t425)), .int .i64 1] 32 (0, 0)) (by (with_reducible repeat (first | refine blk_drewN ?_ _ | refine blk_drew ?_ | refine blk_alloc ?_ _)); refine blk_put (cs := #[.int .i64 (wrap64 (1 + t425)), .int .i64 0]) ?_ 1 _ rfl; (with_reducible repeat (first | refine blk_drewN ?_ _ | refine blk_drew ?_ | refine blk_alloc ?_ _)); refine blk_put (cs := #[.int .i64 0, .int .i64 0]) ?_ 0 _ rfl; (with_reducible repeat (first | refine blk_drewN ?_ _ | refine blk_drew ?_ | refine blk_alloc ?_ _)); exact BK426.out) hb); have n2_ := Aside0.mk (below_step (by repeat (first | (with_reducible first | exact HB.out | apply below_alloc | apply pw_below_drewN | apply below_drew1 | refine below_set ?_ GE424.out | refine below_set ?_ GE426.out) | exact HB.out)) hb); clear BK424; clear BK426; clear HB; have BK424 := n0_; have BK426 := n1_; have HB := n2_; clear n0_ n1_ n2_; (try clear hb); (try clear hb2); (try clear hk); (try clear hi); have hcz23_0 : w22.cell? ⟨gb426, 0, none⟩ = some (.int .i64 (wrap64 (1 + t425))) := (blk_cell BK426.out 0).trans rfl; have hcz23_1 : w22.cell? ⟨gb426, 1, none⟩ = some (.int .i64 1) := (blk_cell BK426.out 1).trans rfl; have hfz23_0 := blk_frozen BK426.out 0; have hfz23_1 := blk_frozen BK426.out 1) | (go_at_call 25; (with_reducible refine (impl_DivideWave.calls (wrap64 (1 + t425)) 1 t427 t429 t430 _ A10.out).mono ?_); rintro e w24 ⟨rfl, hb⟩; have n0_ := Aside0.mk (blk_below (g := gb424) (o := .cells #[.int .i64 (wrap64 (1 + t422)), .int .i64 t423] 32 (0, 0)) (by (with_reducible repeat (first | refine blk_drewN ?_ _ | refine blk_drew ?_ | refine blk_alloc ?_ _)); exact BK424.out) hb); have n1_ := Aside0.mk (blk_below (g := gb426) (o := .cells #[.int .i64 (wrap64 (1 + t425)), .int .i64 1] 32 (0, 0)) (by (with_reducible repeat (first | refine blk_drewN ?_ _ | refine blk_drew ?_ | refine blk_alloc ?_ _)); exact BK426.out) hb); have n2_ := Aside0.mk (below_step (by repeat (first | (with_reducible first | exact HB.out | apply below_alloc | apply pw_below_drewN | apply below_drew1 | refine below_set ?_ GE424.out | refine below_set ?_ GE426.out) | exact HB.out)) hb); clear BK424; clear BK426; clear HB; have BK424 := n0_; have BK426 := n1_; have HB := n2_; clear n0_ n1_ n2_; (try clear hb); (try clear hb2); (try clear hk); (try clear hi); have hcz25_0 : w24.cell? ⟨gb424, 0, none⟩ = some (.int .i64 (wrap64 (1 + t422))) := (blk_cell BK424.out 0).trans rfl; have hcz25_1 : w24.cell? ⟨gb424, 1, none⟩ = some (.int .i64 t423) := (blk_cell BK424.out 1).trans rfl; have hfz25_0 := blk_frozen BK424.out 0; have hfz25_1 := blk_frozen BK424.out 1; have hcz26_0 : w24.cell? ⟨gb426, 0, none⟩ = some (.int .i64 (wrap64 (1 + t425))) := (blk_cell BK426.out 0).trans rfl; have hcz26_1 : w24.cell? ⟨gb426, 1, none⟩ = some (.int .i64 1) := (blk_cell BK426.out 1).trans rfl; have hfz26_0 := blk_frozen BK426.out 0; have hfz26_1 := blk_frozen BK426.out 1) | ((with_reducible refine gate_dst (N := 58) rfl ?_); (try (refine gate_guard (by rfl) ?_; dsimp only)); refine Kd.R_lit k32 _ 32 ?hg (N := 58) ?hd (xs := ([(⟨wrap64 (1 + t422), t423⟩ : S32), (⟨wrap64 (1 + t425), 1⟩ : S32)] : List (S32))) (inner := [.int .i64 (wrap64 (1 + t422)), .int .i64 t423, .int .i64 (wrap64 (1 + t425)), .int .i64 1]) (ok := fun _ => True) (okp := fun _ => True) ?hr ?hp (fun _ hk => hk) trivial (Below.refl _ _) (Nat.le_refl _) (by simp) ?_; (case hd => rfl); (case hg => rfl); (case hr => first | (go_simp; done) | (go_simp; rfl)); (case hp => exact (Reps.c2 (show Kd.M k32 _ _ _ (⟨wrap64 (1 + t422), t423⟩ : S32) [.int .i64 (wrap64 (1 + t422)), .int .i64 t423] from (k32_mkM _ _ _ (⟨wrap64 (1 + t422), t423⟩ : S32) )) (Reps.c2 (show Kd.M k32 _ _ _ (⟨wrap64 (1 + t425), 1⟩ : S32) [.int .i64 (wrap64 (1 + t425)), .int .i64 1] from (k32_mkM _ _ _ (⟨wrap64 (1 + t425), 1⟩ : S32) )) (Reps.none _ _)))); intro v432 w27 ho28 hb hg_ hnew_; clear hg_ hnew_; (first | rw [← Ny431.out] at ho28 | (simp only [Int.reduceToNat] at ho28; rw [← Ny431.out] at ho28)); have n0_ := Aside0.mk (Kd.R_lower (Kd.R_newB (Kd.R_newB ho28 (g := gb424) (o := .cells #[.int .i64 (wrap64 (1 + t422)), .int .i64 t423] 32 (0, 0)) (by (with_reducible repeat (first | refine blk_drewN ?_ _ | refine blk_drew ?_ | refine blk_alloc ?_ _)); exact BK424.out)) (g := gb426) (o := .cells #[.int .i64 (wrap64 (1 + t425)), .int .i64 1] 32 (0, 0)) (by (with_reducible repeat (first | refine blk_drewN ?_ _ | refine blk_drew ?_ | refine blk_alloc ?_ _)); exact BK426.out)) (below_size (by repeat (first | (with_reducible first | exact HB.out | apply below_alloc | apply pw_below_drewN | apply below_drew1 | refine below_set ?_ GE424.out | refine below_set ?_ GE426.out) | exact HB.out)))); have n1_ := Aside0.mk (blk_below (g := gb424) (o := .cells #[.int .i64 (wrap64 (1 + t422)), .int .i64 t423] 32 (0, 0)) (by (with_reducible repeat (first | refine blk_drewN ?_ _ | refine blk_drew ?_ | refine blk_alloc ?_ _)); exact BK424.out) hb); have n2_ := Aside0.mk (blk_below (g := gb426) (o := .cells #[.int .i64 (wrap64 (1 + t425)), .int .i64 1] 32 (0, 0)) (by (with_reducible repeat (first | refine blk_drewN ?_ _ | refine blk_drew ?_ | refine blk_alloc ?_ _)); exact BK426.out) hb); have n3_ := Aside0.mk (below_step (by repeat (first | (with_reducible first | exact HB.out | apply below_alloc | apply pw_below_drewN | apply below_drew1 | refine below_set ?_ GE424.out | refine below_set ?_ GE426.out) | exact HB.out)) hb); clear BK424; clear BK426; clear HB; have HO433 := n0_; have BK424 := n1_; have BK426 := n2_; have HB := n3_; clear n0_ n1_ n2_ n3_; clear hb ho28; obtain ⟨Ao29, co29, eo29⟩ := Kd.R_slice HO433.out; subst eo29) | (go_at_call 29; (with_reducible refine (impl_DivideChain.calls _ _ y431 t421 t434 t435 _ ?side1 ?side2 A11.out).mono ?_); (case side1 => repeat (first | exact (Kd.R_reads' HO433.out).2.2 | (with_reducible refine Kd.C_alloc ?_ _) | (with_reducible refine Kd.C_drewN ?_ _) | (with_reducible refine Kd.C_drew ?_))); (case side2 => exact (Kd.R_reads' HO433.out).2.1); rintro e w30 ⟨rfl, hb⟩; have n0_ := Aside0.mk (Kd.R_below (by (with_reducible repeat (first | apply Kd.R_alloc | apply Kd.R_drewN | apply Kd.R_drew)); exact HO433.out) hb); have n1_ := Aside0.mk (blk_below (g := gb424) (o := .cells #[.int .i64 (wrap64 (1 + t422)), .int .i64 t423] 32 (0, 0)) (by (with_reducible repeat (first | refine blk_drewN ?_ _ | refine blk_drew ?_ | refine blk_alloc ?_ _)); exact BK424.out) hb); have n2_ := Aside0.mk (blk_below (g := gb426) (o := .cells #[.int .i64 (wrap64 (1 + t425)), .int .i64 1] 32 (0, 0)) (by (with_reducible repeat (first | refine blk_drewN ?_ _ | refine blk_drew ?_ | refine blk_alloc ?_ _)); exact BK426.out) hb); have n3_ := Aside0.mk (below_step (by repeat (first | (with_reducible first | exact HB.out | apply below_alloc | apply pw_below_drewN | apply below_drew1 | refine below_set ?_ GE424.out | refine below_set ?_ GE426.out) | exact HB.out)) hb); clear HO433; clear BK424; clear BK426; clear HB; have HO433 := n0_; have BK424 := n1_; have BK426 := n2_; have HB := n3_; clear n0_ n1_ n2_ n3_; (try clear hb); (try clear hb2); (try clear hk); (try clear hi)) | (go_at_call 48; (with_reducible refine (laws_b10At.calls _ _ l1 3 5 t436 _ ?side1 ?side2 A12.out).mono ?_); (case side1 => repeat (first | exact (Kd.C_below HR1.out HB.out) | (with_reducible refine Kd.C_alloc ?_ _) | (with_reducible refine Kd.C_drewN ?_ _) | (with_reducible refine Kd.C_drew ?_))); (case side2 => exact HC1.out); rintro e w' ⟨rfl, ⟨nd, rfl⟩⟩; (try first | exact ⟨rfl, _, World.drewN_drewN _ _ _⟩ | exact ⟨rfl, _, Eq.trans (World.drewN_drewN _ _ _) (congrArg (World.drewN _) (Nat.add_assoc _ _ _))⟩)) | (go_at_call 22; (with_reducible refine (impl_ToggleWave.calls (wrap64 (1 + t436)) t421 t437 t438 _ A13.out).mono ?_); rintro e w31 ⟨rfl, hb⟩; have n0_ := Aside0.mk (Kd.R_below (by (with_reducible repeat (first | apply Kd.R_alloc | apply Kd.R_drewN | apply Kd.R_drew)); exact HO433.out) hb); have n1_ := Aside0.mk (blk_below (g := gb424) (o := .cells #[.int .i64 (wrap64 (1 + t422)), .int .i64 t423] 32 (0, 0)) (by (with_reducible repeat (first | refine blk_drewN ?_ _ | refine blk_drew ?_ | refine blk_alloc ?_ _)); exact BK424.out) hb); have n2_ := Aside0.mk (blk_below (g := gb426) (o := .cells #[.int .i64 (wrap64 (1 + t425)), .int .i64 1] 32 (0, 0)) (by (with_reducible repeat (first | refine blk_drewN ?_ _ | refine blk_drew ?_ | refine blk_alloc ?_ _)); exact BK426.out) hb); have n3_ := Aside0.mk (below_step (by repeat (first | (with_reducible first | exact HB.out | apply below_alloc | apply pw_below_drewN | apply below_drew1 | refine below_set ?_ GE424.out | refine below_set ?_ GE426.out) | exact HB.out)) hb); clear HO433; clear BK424; clear BK426; clear HB; have HO433 := n0_; have BK424 := n1_; have BK426 := n2_; have HB := n3_; clear n0_ n1_ n2_ n3_; (try clear hb); (try clear hb2); (try clear hk); (try clear hi))))
  (try simp only [Act.put, List.setIfInBounds_toArray, List.set_cons_zero, List.set_cons_succ])
  go_cut [109] (fun v109 wc => ∃ (kq : Nat) (x109_13 : Bool), v109 = .bool x109_13 ∧ Aside0 (laws_FnDivided.j0 kq t421 (wrap64 (1 + t422)) t423 t427 (wrap64 (1 + t436)) t437 x109_13 = some r) ∧ Aside0 (kq ≤ k) ∧ Aside0 (wc.heap[gb424]? = some (.cells #[.int .i64 (wrap64 (1 + t422)), .int .i64 t423] 32 (0, 0))) ∧ Aside0 (wc.heap[gb426]? = some (.cells #[.int .i64 (wrap64 (1 + t425)), .int .i64 1] 32 (0, 0))) ∧ Aside0 (Below w.heap.size w wc))
  case first => as_aux_lemma =>
   have H := HC14.out
   clear HC14
   by_cases c32 : t428 = true
   ·subst c32
    have H1 : (if t430 = true then (if t435 = true then (if t438 = true then (if t429.toList = t434.toList then (if (t427.size : Int) = (t421.size : Int) then (if (t437.size : Int) = (t421.size : Int) then ((impl_ValidDivider.f (wrap64 (1 + t422)) t423).bind fun t439 => (laws_FnDivided.j0 k t421 (wrap64 (1 + t422)) t423 t427 (wrap64 (1 + t436)) t437 (!t439))) else (laws_FnDivided.j0 k t421 (wrap64 (1 + t422)) t423 t427 (wrap64 (1 + t436)) t437 true)) else (laws_FnDivided.j0 k t421 (wrap64 (1 + t422)) t423 t427 (wrap64 (1 + t436)) t437 true)) else (laws_FnDivided.j0 k t421 (wrap64 (1 + t422)) t423 t427 (wrap64 (1 + t436)) t437 true)) else (laws_FnDivided.j0 k t421 (wrap64 (1 + t422)) t423 t427 (wrap64 (1 + t436)) t437 true)) else (laws_FnDivided.j0 k t421 (wrap64 (1 + t422)) t423 t427 (wrap64 (1 + t436)) t437 true)) else (laws_FnDivided.j0 k t421 (wrap64 (1 + t422)) t423 t427 (wrap64 (1 + t436)) t437 true)) = some r := by rw [if_pos rfl] at H; exact H
    clear H
    have H := H1
    clear H1
    by_cases c33 : t430 = true
    ·subst c33
     have H1 : (if t435 = true then (if t438 = true then (if t429.toList = t434.toList then (if (t427.size : Int) = (t421.size : Int) then (if (t437.size : Int) = (t421.size : Int) then ((impl_ValidDivider.f (wrap64 (1 + t422)) t423).bind fun t439 => (laws_FnDivided.j0 k t421 (wrap64 (1 + t422)) t423 t427 (wrap64 (1 + t436)) t437 (!t439))) else (laws_FnDivided.j0 k t421 (wrap64 (1 + t422)) t423 t427 (wrap64 (1 + t436)) t437 true)) else (laws_FnDivided.j0 k t421 (wrap64 (1 + t422)) t423 t427 (wrap64 (1 + t436)) t437 true)) else (laws_FnDivided.j0 k t421 (wrap64 (1 + t422)) t423 t427 (wrap64 (1 + t436)) t437 true)) else (laws_FnDivided.j0 k t421 (wrap64 (1 + t422)) t423 t427 (wrap64 (1 + t436)) t437 true)) else (laws_FnDivided.j0 k t421 (wrap64 (1 + t422)) t423 t427 (wrap64 (1 + t436)) t437 true)) = some r := by rw [if_pos rfl] at H; exact H
     clear H
     have H := H1
     clear H1
     by_cases c34 : t435 = true
     ·subst c34
      have H1 : (if t438 = true then (if t429.toList = t434.toList then (if (t427.size : Int) = (t421.size : Int) then (if (t437.size : Int) = (t421.size : Int) then ((impl_ValidDivider.f (wrap64 (1 + t422)) t423).bind fun t439 => (laws_FnDivided.j0 k t421 (wrap64 (1 + t422)) t423 t427 (wrap64 (1 + t436)) t437 (!t439))) else (laws_FnDivided.j0 k t421 (wrap64 (1 + t422)) t423 t427 (wrap64 (1 + t436)) t437 true)) else (laws_FnDivided.j0 k t421 (wrap64 (1 + t422)) t423 t427 (wrap64 (1 + t436)) t437 true)) else (laws_FnDivided.j0 k t421 (wrap64 (1 + t422)) t423 t427 (wrap64 (1 + t436)) t437 true)) else (laws_FnDivided.j0 k t421 (wrap64 (1 + t422)) t423 t427 (wrap64 (1 + t436)) t437 true)) = some r := by rw [if_pos rfl] at H; exact H
      clear H
      have H := H1
      clear H1
      by_cases c35 : t438 = true
      ·subst c35
       have H1 : (if t429.toList = t434.toList then (if (t427.size : Int) = (t421.size : Int) then (if (t437.size : Int) = (t421.size : Int) then ((impl_ValidDivider.f (wrap64 (1 + t422)) t423).bind fun t439 => (laws_FnDivided.j0 k t421 (wrap64 (1 + t422)) t423 t427 (wrap64 (1 + t436)) t437 (!t439))) else (laws_FnDivided.j0 k t421 (wrap64 (1 + t422)) t423 t427 (wrap64 (1 + t436)) t437 true)) else (laws_FnDivided.j0 k t421 (wrap64 (1 + t422)) t423 t427 (wrap64 (1 + t436)) t437 true)) else (laws_FnDivided.j0 k t421 (wrap64 (1 + t422)) t423 t427 (wrap64 (1 + t436)) t437 true)) = some r := by rw [if_pos rfl] at H; exact H
       clear H
       have H := H1
       clear H1
       by_cases c36 : t429.toList = t434.toList
       ·rw [if_pos c36] at H
        have c36b0 : (t429.toList == t434.toList) = true := beq_iff_eq.mpr c36
        have c36b1 : (t429.toList != t434.toList) = false := bne_eq_false_iff_eq.mpr c36
        clear c36
        (first | rw [c36b0] | (simp only [i64_w, i32_w]; rw [c36b0]) | skip)
        by_cases c37 : (t427.size : Int) = (t421.size : Int)
        ·rw [if_pos c37] at H
         have c37b0 : ((t427.size : Int) == (t421.size : Int)) = true := beq_iff_eq.mpr c37
         have c37b1 : ((t427.size : Int) != (t421.size : Int)) = false := bne_eq_false_iff_eq.mpr c37
         have c37b2 : (t427.size == t421.size) = true := by first | simpa using c37 | (simp at c37 ⊢; omega)
         clear c37
         by_cases c38 : (t437.size : Int) = (t421.size : Int)
         ·rw [if_pos c38] at H
          have c38b0 : ((t437.size : Int) == (t421.size : Int)) = true := beq_iff_eq.mpr c38
          have c38b1 : ((t437.size : Int) != (t421.size : Int)) = false := bne_eq_false_iff_eq.mpr c38
          have c38b2 : (t437.size == t421.size) = true := by first | simpa using c38 | (simp at c38 ⊢; omega)
          clear c38
          replace H := Option.bind_eq_some_iff.mp H
          obtain ⟨t439, A390, H⟩ := H
          replace H : (laws_FnDivided.j0 k t421 (wrap64 (1 + t422)) t423 t427 (wrap64 (1 + t436)) t437 (!t439)) = some r := H
          have A39 := Aside0.mk A390
          clear A390
          have H' := Aside0.mk H
          clear H
          have hnb40 := NB424_426.out
          have hnc40 := NB426_424.out
          have hcz41_0 : w31.cell? ⟨gb424, 0, none⟩ = some (.int .i64 (wrap64 (1 + t422))) := (blk_cell BK424.out 0).trans rfl
          have hcz41_1 : w31.cell? ⟨gb424, 1, none⟩ = some (.int .i64 t423) := (blk_cell BK424.out 1).trans rfl
          have hfz41_0 := blk_frozen BK424.out 0
          have hfz41_1 := blk_frozen BK424.out 1
          go_wp2_with (first | (go_at_call 49; (with_reducible refine (impl_ValidDivider.calls (wrap64 (1 + t422)) t423 t439 _ A39.out).mono ?_); rintro e w42 ⟨rfl, hb⟩; have n0_ := Aside0.mk (Kd.R_below (by (with_reducible repeat (first | apply Kd.R_alloc | apply Kd.R_drewN | apply Kd.R_drew)); exact HO433.out) hb); have n1_ := Aside0.mk (blk_below (g := gb424) (o := .cells #[.int .i64 (wrap64 (1 + t422)), .int .i64 t423] 32 (0, 0)) (by (with_reducible repeat (first | refine blk_drewN ?_ _ | refine blk_drew ?_ | refine blk_alloc ?_ _)); exact BK424.out) hb); have n2_ := Aside0.mk (blk_below (g := gb426) (o := .cells #[.int .i64 (wrap64 (1 + t425)), .int .i64 1] 32 (0, 0)) (by (with_reducible repeat (first | refine blk_drewN ?_ _ | refine blk_drew ?_ | refine blk_alloc ?_ _)); exact BK426.out) hb); have n3_ := Aside0.mk (below_step (by repeat (first | (with_reducible first | exact HB.out | apply below_alloc | apply pw_below_drewN | apply below_drew1 | refine below_set ?_ GE424.out | refine below_set ?_ GE426.out) | exact HB.out)) hb); clear HO433; clear BK424; clear BK426; clear HB; have HO433 := n0_; have BK424 := n1_; have BK426 := n2_; have HB := n3_; clear n0_ n1_ n2_ n3_; (try clear hb); (try clear hb2); (try clear hk); (try clear hi)))
          repeat (go_quiet (first | (go_at_call 49; (with_reducible refine (impl_ValidDivider.calls (wrap64 (1 + t422)) t423 t439 _ A39.out).mono ?_); rintro e w42 ⟨rfl, hb⟩; have n0_ := Aside0.mk (Kd.R_below (by (with_reducible repeat (first | apply Kd.R_alloc | apply Kd.R_drewN | apply Kd.R_drew)); exact HO433.out) hb); have n1_ := Aside0.mk (blk_below (g := gb424) (o := .cells #[.int .i64 (wrap64 (1 + t422)), .int .i64 t423] 32 (0, 0)) (by (with_reducible repeat (first | refine blk_drewN ?_ _ | refine blk_drew ?_ | refine blk_alloc ?_ _)); exact BK424.out) hb); have n2_ := Aside0.mk (blk_below (g := gb426) (o := .cells #[.int .i64 (wrap64 (1 + t425)), .int .i64 1] 32 (0, 0)) (by (with_reducible repeat (first | refine blk_drewN ?_ _ | refine blk_drew ?_ | refine blk_alloc ?_ _)); exact BK426.out) hb); have n3_ := Aside0.mk (below_step (by repeat (first | (with_reducible first | exact HB.out | apply below_alloc | apply pw_below_drewN | apply below_drew1 | refine below_set ?_ GE424.out | refine below_set ?_ GE426.out) | exact HB.out)) hb); clear HO433; clear BK424; clear BK426; clear HB; have HO433 := n0_; have BK424 := n1_; have BK426 := n2_; have HB := n3_; clear n0_ n1_ n2_ n3_; (try clear hb); (try clear hb2); (try clear hk); (try clear hi))); try go_wp2_with (first | (go_at_call 49; (with_reducible refine (impl_ValidDivider.calls (wrap64 (1 + t422)) t423 t439 _ A39.out).mono ?_); rintro e w42 ⟨rfl, hb⟩; have n0_ := Aside0.mk (Kd.R_below (by (with_reducible repeat (first | apply Kd.R_alloc | apply Kd.R_drewN | apply Kd.R_drew)); exact HO433.out) hb); have n1_ := Aside0.mk (blk_below (g := gb424) (o := .cells #[.int .i64 (wrap64 (1 + t422)), .int .i64 t423] 32 (0, 0)) (by (with_reducible repeat (first | refine blk_drewN ?_ _ | refine blk_drew ?_ | refine blk_alloc ?_ _)); exact BK424.out) hb); have n2_ := Aside0.mk (blk_below (g := gb426) (o := .cells #[.int .i64 (wrap64 (1 + t425)), .int .i64 1] 32 (0, 0)) (by (with_reducible repeat (first | refine blk_drewN ?_ _ | refine blk_drew ?_ | refine blk_alloc ?_ _)); exact BK426.out) hb); have n3_ := Aside0.mk (below_step (by repeat (first | (with_reducible first | exact HB.out | apply below_alloc | apply pw_below_drewN | apply below_drew1 | refine below_set ?_ GE424.out | refine below_set ?_ GE426.out) | exact HB.out)) hb); clear HO433; clear BK424; clear BK426; clear HB; have HO433 := n0_; have BK424 := n1_; have BK426 := n2_; have HB := n3_; clear n0_ n1_ n2_ n3_; (try clear hb); (try clear hb2); (try clear hk); (try clear hi))))
          go_meet
          case rel => exact ⟨_, (!t439), (by first | rfl | (simp; done) | (simp [*]; done)), H', ⟨by first | omega | exact Nat.le_refl _⟩, ⟨by (with_reducible repeat (first | refine blk_drewN ?_ _ | refine blk_drew ?_ | refine blk_alloc ?_ _)); exact BK424.out⟩, ⟨by (with_reducible repeat (first | refine blk_drewN ?_ _ | refine blk_drew ?_ | refine blk_alloc ?_ _)); exact BK426.out⟩, ⟨by repeat (first | (with_reducible first | exact HB.out | apply below_alloc | apply pw_below_drewN | apply below_drew1 | refine below_set ?_ GE424.out | refine below_set ?_ GE426.out) | exact HB.out)⟩⟩
         ·rw [if_neg c38] at H
          have c38b0 : ((t437.size : Int) == (t421.size : Int)) = false := beq_eq_false_iff_ne.mpr c38
          have c38b1 : ((t437.size : Int) != (t421.size : Int)) = true := bne_iff_ne.mpr c38
          have c38b2 : (t437.size == t421.size) = false := by first | simpa using c38 | (simp at c38 ⊢; omega)
          have H' := Aside0.mk H
          clear H
          go_wp2
          repeat (go_quiet (fail); try go_wp2)
          go_meet
          case rel => exact ⟨_, (true), (by first | rfl | (simp; done) | (simp [*]; done)), H', ⟨by first | omega | exact Nat.le_refl _⟩, ⟨by (with_reducible repeat (first | refine blk_drewN ?_ _ | refine blk_drew ?_ | refine blk_alloc ?_ _)); exact BK424.out⟩, ⟨by (with_reducible repeat (first | refine blk_drewN ?_ _ | refine blk_drew ?_ | refine blk_alloc ?_ _)); exact BK426.out⟩, ⟨by repeat (first | (with_reducible first | exact HB.out | apply below_alloc | apply pw_below_drewN | apply below_drew1 | refine below_set ?_ GE424.out | refine below_set ?_ GE426.out) | exact HB.out)⟩⟩
        ·rw [if_neg c37] at H
         have c37b0 : ((t427.size : Int) == (t421.size : Int)) = false := beq_eq_false_iff_ne.mpr c37
         have c37b1 : ((t427.size : Int) != (t421.size : Int)) = true := bne_iff_ne.mpr c37
         have c37b2 : (t427.size == t421.size) = false := by first | simpa using c37 | (simp at c37 ⊢; omega)
         have H' := Aside0.mk H
         clear H
         go_wp2
         repeat (go_quiet (fail); try go_wp2)
         go_meet
         case rel => exact ⟨_, (true), (by first | rfl | (simp; done) | (simp [*]; done)), H', ⟨by first | omega | exact Nat.le_refl _⟩, ⟨by (with_reducible repeat (first | refine blk_drewN ?_ _ | refine blk_drew ?_ | refine blk_alloc ?_ _)); exact BK424.out⟩, ⟨by (with_reducible repeat (first | refine blk_drewN ?_ _ | refine blk_drew ?_ | refine blk_alloc ?_ _)); exact BK426.out⟩, ⟨by repeat (first | (with_reducible first | exact HB.out | apply below_alloc | apply pw_below_drewN | apply below_drew1 | refine below_set ?_ GE424.out | refine below_set ?_ GE426.out) | exact HB.out)⟩⟩
       ·rw [if_neg c36] at H
        have c36b0 : (t429.toList == t434.toList) = false := beq_eq_false_iff_ne.mpr c36
        have c36b1 : (t429.toList != t434.toList) = true := bne_iff_ne.mpr c36
        (first | rw [c36b0] | (simp only [i64_w, i32_w]; rw [c36b0]) | skip)
        have H' := Aside0.mk H
        clear H
        go_wp2
        repeat (go_quiet (fail); try go_wp2)
        go_meet
        case rel => exact ⟨_, (true), (by first | rfl | (simp; done) | (simp [*]; done)), H', ⟨by first | omega | exact Nat.le_refl _⟩, ⟨by (with_reducible repeat (first | refine blk_drewN ?_ _ | refine blk_drew ?_ | refine blk_alloc ?_ _)); exact BK424.out⟩, ⟨by (with_reducible repeat (first | refine blk_drewN ?_ _ | refine blk_drew ?_ | refine blk_alloc ?_ _)); exact BK426.out⟩, ⟨by repeat (first | (with_reducible first | exact HB.out | apply below_alloc | apply pw_below_drewN | apply below_drew1 | refine below_set ?_ GE424.out | refine below_set ?_ GE426.out) | exact HB.out)⟩⟩
      ·replace c35 := Bool.eq_false_iff.mpr c35
       subst c35
       have H1 : (laws_FnDivided.j0 k t421 (wrap64 (1 + t422)) t423 t427 (wrap64 (1 + t436)) t437 true) = some r := by rw [if_neg (show ¬ (false = true) by decide)] at H; exact H
       clear H
       have H := H1
       clear H1
       have H' := Aside0.mk H
       clear H
       go_wp2
       repeat (go_quiet (fail); try go_wp2)
       go_meet
       case rel => exact ⟨_, (true), (by first | rfl | (simp; done) | (simp [*]; done)), H', ⟨by first | omega | exact Nat.le_refl _⟩, ⟨by (with_reducible repeat (first | refine blk_drewN ?_ _ | refine blk_drew ?_ | refine blk_alloc ?_ _)); exact BK424.out⟩, ⟨by (with_reducible repeat (first | refine blk_drewN ?_ _ | refine blk_drew ?_ | refine blk_alloc ?_ _)); exact BK426.out⟩, ⟨by repeat (first | (with_reducible first | exact HB.out | apply below_alloc | apply pw_below_drewN | apply below_drew1 | refine below_set ?_ GE424.out | refine below_set ?_ GE426.out) | exact HB.out)⟩⟩
     ·replace c34 := Bool.eq_false_iff.mpr c34
      subst c34
      have H1 : (laws_FnDivided.j0 k t421 (wrap64 (1 + t422)) t423 t427 (wrap64 (1 + t436)) t437 true) = some r := by rw [if_neg (show ¬ (false = true) by decide)] at H; exact H
      clear H
      have H := H1
      clear H1
      have H' := Aside0.mk H
      clear H
      go_wp2
      repeat (go_quiet (fail); try go_wp2)
      go_meet
      case rel => exact ⟨_, (true), (by first | rfl | (simp; done) | (simp [*]; done)), H', ⟨by first | omega | exact Nat.le_refl _⟩, ⟨by (with_reducible repeat (first | refine blk_drewN ?_ _ | refine blk_drew ?_ | refine blk_alloc ?_ _)); exact BK424.out⟩, ⟨by (with_reducible repeat (first | refine blk_drewN ?_ _ | refine blk_drew ?_ | refine blk_alloc ?_ _)); exact BK426.out⟩, ⟨by repeat (first | (with_reducible first | exact HB.out | apply below_alloc | apply pw_below_drewN | apply below_drew1 | refine below_set ?_ GE424.out | refine below_set ?_ GE426.out) | exact HB.out)⟩⟩
    ·replace c33 := Bool.eq_false_iff.mpr c33
     subst c33
     have H1 : (laws_FnDivided.j0 k t421 (wrap64 (1 + t422)) t423 t427 (wrap64 (1 + t436)) t437 true) = some r := by rw [if_neg (show ¬ (false = true) by decide)] at H; exact H
     clear H
     have H := H1
     clear H1
     have H' := Aside0.mk H
     clear H
     go_wp2
     repeat (go_quiet (fail); try go_wp2)
     go_meet
     case rel => exact ⟨_, (true), (by first | rfl | (simp; done) | (simp [*]; done)), H', ⟨by first | omega | exact Nat.le_refl _⟩, ⟨by (with_reducible repeat (first | refine blk_drewN ?_ _ | refine blk_drew ?_ | refine blk_alloc ?_ _)); exact BK424.out⟩, ⟨by (with_reducible repeat (first | refine blk_drewN ?_ _ | refine blk_drew ?_ | refine blk_alloc ?_ _)); exact BK426.out⟩, ⟨by repeat (first | (with_reducible first | exact HB.out | apply below_alloc | apply pw_below_drewN | apply below_drew1 | refine below_set ?_ GE424.out | refine below_set ?_ GE426.out) | exact HB.out)⟩⟩
   ·replace c32 := Bool.eq_false_iff.mpr c32
    subst c32
    have H1 : (laws_FnDivided.j0 k t421 (wrap64 (1 + t422)) t423 t427 (wrap64 (1 + t436)) t437 true) = some r := by rw [if_neg (show ¬ (false = true) by decide)] at H; exact H
    clear H
    have H := H1
    clear H1
    have H' := Aside0.mk H
    clear H
    go_wp2
    repeat (go_quiet (fail); try go_wp2)
    go_meet
    case rel => exact ⟨_, (true), (by first | rfl | (simp; done) | (simp [*]; done)), H', ⟨by first | omega | exact Nat.le_refl _⟩, ⟨by (with_reducible repeat (first | refine blk_drewN ?_ _ | refine blk_drew ?_ | refine blk_alloc ?_ _)); exact BK424.out⟩, ⟨by (with_reducible repeat (first | refine blk_drewN ?_ _ | refine blk_drew ?_ | refine blk_alloc ?_ _)); exact BK426.out⟩, ⟨by repeat (first | (with_reducible first | exact HB.out | apply below_alloc | apply pw_below_drewN | apply below_drew1 | refine below_set ?_ GE424.out | refine below_set ?_ GE426.out) | exact HB.out)⟩⟩
  case rest => as_aux_lemma =>
   clear HC14
   try clear c1
   try clear c2
   try clear p2
   try clear c3
   try clear c4
   try clear p6
   try clear c14
   try clear c19
   try clear c32
   try clear c33
   try clear c34
   try clear c35
   try clear c36
   try clear c36b0
   try clear c36b1
   try clear c37
   try clear c37b0
   try clear c37b1
   try clear c37b2
   try clear c38
   try clear c38b0
   try clear c38b1
   try clear c38b2
   try clear c40
   try clear hcz17_0
   try clear hcz17_1
   try clear hcz20_0
   try clear hcz20_1
   try clear hcz21_0
   try clear hcz21_1
   try clear hcz23_0
   try clear hcz23_1
   try clear hcz25_0
   try clear hcz25_1
   try clear hcz26_0
   try clear hcz26_1
   try clear hcz41_0
   try clear hcz41_1
   try clear hfz17_0
   try clear hfz17_1
   try clear hfz20_0
   try clear hfz20_1
   try clear hfz21_0
   try clear hfz21_1
   try clear hfz23_0
   try clear hfz23_1
   try clear hfz25_0
   try clear hfz25_1
   try clear hfz26_0
   try clear hfz26_1
   try clear hfz41_0
   try clear hfz41_1
   obtain ⟨kq, x109_13, rfl, HA, HJ13, BK424, BK426, HB⟩ := hcut
   cases kq with
   | zero => exact absurd HA.out (by simp [laws_FnDivided.j0])
   | succ kj13 =>
    have H := HA.out
    clear HA
    simp only [laws_FnDivided.j0] at H
    by_cases c43 : x109_13 = true
    ·subst c43
     have H1 : (some false) = some r := by rw [if_pos rfl] at H; exact H
     clear H
     have H := H1
     clear H1
     obtain rfl := Option.some.inj H
     go_wp2
     repeat (go_quiet (fail); try go_wp2)
     go_ret
     exact ⟨by first | rfl | (simp [errW_none, errW_some] <;> rfl) | (simp [*, errW_none, errW_some] <;> rfl), by repeat (first | (with_reducible first | exact HB.out | apply below_alloc | apply pw_below_drewN | apply below_drew1 | refine below_set ?_ GE424.out | refine below_set ?_ GE426.out) | exact HB.out)⟩
    ·replace c43 := Bool.eq_false_iff.mpr c43
     subst c43
     have H1 : (laws_FnDivided.l0 kj13 t421 (wrap64 (1 + t422)) t423 t427 (wrap64 (1 + t436)) t437 0 0 0) = some r := by rw [if_neg (show ¬ (false = true) by decide)] at H; exact H
     clear H
     have H := H1
     clear H1
     have H' := Aside0.mk H
     clear H
     go_wp2
     repeat (go_quiet (fail); try go_wp2)
     go_loopg [19, 20, 21] kj13 (fun kq v19 v20 v21 w' => ∃ (x19_2 : Int) (x20_2 : Int) (x21_2 : Int), v19 = .int .i64 x19_2 ∧ v20 = .int .i64 x20_2 ∧ v21 = .int .i64 x21_2 ∧ Aside0 (laws_FnDivided.l0 kq t421 (wrap64 (1 + t422)) t423 t427 (wrap64 (1 + t436)) t437 x19_2 x20_2 x21_2 = some r) ∧ Aside0 (kq ≤ kj13) ∧ Aside0 (w'.heap[gb424]? = some (.cells #[.int .i64 (wrap64 (1 + t422)), .int .i64 t423] 32 (0, 0))) ∧ Aside0 (w'.heap[gb426]? = some (.cells #[.int .i64 (wrap64 (1 + t425)), .int .i64 1] 32 (0, 0))) ∧ Aside0 (Below w.heap.size w w'))
     case atStart => exact ⟨(0), (0), (0), (by first | rfl | (simp; done) | (simp [*]; done)), (by first | rfl | (simp; done) | (simp [*]; done)), (by first | rfl | (simp; done) | (simp [*]; done)), H', ⟨Nat.le_refl _⟩, ⟨by (with_reducible repeat (first | refine blk_drewN ?_ _ | refine blk_drew ?_ | refine blk_alloc ?_ _)); exact BK424.out⟩, ⟨by (with_reducible repeat (first | refine blk_drewN ?_ _ | refine blk_drew ?_ | refine blk_alloc ?_ _)); exact BK426.out⟩, ⟨by repeat (first | (with_reducible first | exact HB.out | apply below_alloc | apply pw_below_drewN | apply below_drew1 | refine below_set ?_ GE424.out | refine below_set ?_ GE426.out) | exact HB.out)⟩⟩
     case round =>
      clear H'
      try clear c1
      try clear c2
      try clear p2
      try clear c3
      try clear c4
      try clear p6
      try clear c14
      try clear c19
      try clear c32
      try clear c33
      try clear c34
      try clear c35
      try clear c36
      try clear c36b0
      try clear c36b1
      try clear c37
      try clear c37b0
      try clear c37b1
      try clear c37b2
      try clear c38
      try clear c38b0
      try clear c38b1
      try clear c38b2
      try clear c40
      try clear c43
      try clear hcz17_0
      try clear hcz17_1
      try clear hcz20_0
      try clear hcz20_1
      try clear hcz21_0
      try clear hcz21_1
      try clear hcz23_0
      try clear hcz23_1
      try clear hcz25_0
      try clear hcz25_1
      try clear hcz26_0
      try clear hcz26_1
      try clear hcz41_0
      try clear hcz41_1
      try clear hfz17_0
      try clear hfz17_1
      try clear hfz20_0
      try clear hfz20_1
      try clear hfz21_0
      try clear hfz21_1
      try clear hfz23_0
      try clear hfz23_1
      try clear hfz25_0
      try clear hfz25_1
      try clear hfz26_0
      try clear hfz26_1
      try clear hfz41_0
      try clear hfz41_1
      try clear p2
      try clear p6
      obtain ⟨x19_2, x20_2, x21_2, rfl, rfl, rfl, HA, HK2, BK424, BK426, HB⟩ := hrel
      cases gk with
      | zero => exact absurd HA.out (by simp [laws_FnDivided.l0])
      | succ k2 =>
       have H := HA.out
       clear HA
       simp only [laws_FnDivided.l0] at H
       by_cases c44 : x21_2 < (t421.size : Int)
       ·rw [if_pos c44] at H
        have c44b0 : decide (x21_2 < (t421.size : Int)) = true := decide_eq_true c44
        clear c44
        replace H := Option.bind_eq_some_iff.mp H
        obtain ⟨t440, A450, H⟩ := H
        replace H : (if t440 > 0 then (if (wrap64 (1 + t422)) = 0 then (none) else (laws_FnDivided.j2 k2 t421 (wrap64 (1 + t422)) t423 t427 (wrap64 (1 + t436)) t437 x19_2 x20_2 x21_2 48 (decide ((Int.tmod (wrap64 (t440 - 1)) (wrap64 (1 + t422))) < t423)))) else (laws_FnDivided.j2 k2 t421 (wrap64 (1 + t422)) t423 t427 (wrap64 (1 + t436)) t437 x19_2 x20_2 x21_2 48 false)) = some r := H
        have A45 := Aside0.mk A450
        clear A450
        have HC46 := Aside0.mk H
        clear H
        go_upto_region 22 with (first | (go_at_call 50; (with_reducible refine (laws_b10Ups.calls k2 t421 (wrap64 (x21_2 + 1)) t440 _ A45.out).mono ?_); rintro e w' ⟨rfl, ⟨nd, rfl⟩⟩; (try first | exact ⟨rfl, _, World.drewN_drewN _ _ _⟩ | exact ⟨rfl, _, Eq.trans (World.drewN_drewN _ _ _) (congrArg (World.drewN _) (Nat.add_assoc _ _ _))⟩)))
        repeat (go_quiet (first | (go_at_call 50; (with_reducible refine (laws_b10Ups.calls k2 t421 (wrap64 (x21_2 + 1)) t440 _ A45.out).mono ?_); rintro e w' ⟨rfl, ⟨nd, rfl⟩⟩; (try first | exact ⟨rfl, _, World.drewN_drewN _ _ _⟩ | exact ⟨rfl, _, Eq.trans (World.drewN_drewN _ _ _) (congrArg (World.drewN _) (Nat.add_assoc _ _ _))⟩))); go_upto_region 22 with (first | (go_at_call 50; (with_reducible refine (laws_b10Ups.calls k2 t421 (wrap64 (x21_2 + 1)) t440 _ A45.out).mono ?_); rintro e w' ⟨rfl, ⟨nd, rfl⟩⟩; (try first | exact ⟨rfl, _, World.drewN_drewN _ _ _⟩ | exact ⟨rfl, _, Eq.trans (World.drewN_drewN _ _ _) (congrArg (World.drewN _) (Nat.add_assoc _ _ _))⟩))))
        (try simp only [Act.put, List.setIfInBounds_toArray, List.set_cons_zero, List.set_cons_succ])
        go_cut [129] (fun v129 wc => ∃ (kq : Nat) (x129_45 : Bool), v129 = .bool x129_45 ∧ Aside0 (laws_FnDivided.j2 kq t421 (wrap64 (1 + t422)) t423 t427 (wrap64 (1 + t436)) t437 x19_2 x20_2 x21_2 48 x129_45 = some r) ∧ Aside0 (kq ≤ k2) ∧ Aside0 (wc.heap[gb424]? = some (.cells #[.int .i64 (wrap64 (1 + t422)), .int .i64 t423] 32 (0, 0))) ∧ Aside0 (wc.heap[gb426]? = some (.cells #[.int .i64 (wrap64 (1 + t425)), .int .i64 1] 32 (0, 0))) ∧ Aside0 (Below w.heap.size w wc))
        case first => as_aux_lemma =>
         have H := HC46.out
         clear HC46
         by_cases c47 : t440 > 0
         ·rw [if_pos c47] at H
          have c47b0 : decide (0 < t440) = true := decide_eq_true c47
          clear c47
          (first | rw [c47b0] | (simp only [i64_w, i32_w]; rw [c47b0]) | skip)
          by_cases c48 : (wrap64 (1 + t422)) = 0
          ·rw [if_pos c48] at H
           exact absurd H (by simp)
          ·rw [if_neg c48] at H
           have c48b0 : ((wrap64 (1 + t422)) == 0) = false := beq_eq_false_iff_ne.mpr c48
           have c48b1 : ((wrap64 (1 + t422)) != 0) = true := bne_iff_ne.mpr c48
           have H' := Aside0.mk H
           clear H
           go_wp2
           repeat (go_quiet (fail); try go_wp2)
           go_meet
           case rel => exact ⟨_, (decide ((Int.tmod (wrap64 (t440 - 1)) (wrap64 (1 + t422))) < t423)), (by first | rfl | (simp; done) | (simp [*]; done)), H', ⟨by have := HJ13.out; have := HK2.out; first | omega | exact Nat.le_refl _⟩, ⟨by (with_reducible repeat (first | refine blk_drewN ?_ _ | refine blk_drew ?_ | refine blk_alloc ?_ _)); exact BK424.out⟩, ⟨by (with_reducible repeat (first | refine blk_drewN ?_ _ | refine blk_drew ?_ | refine blk_alloc ?_ _)); exact BK426.out⟩, ⟨by repeat (first | (with_reducible first | exact HB.out | apply below_alloc | apply pw_below_drewN | apply below_drew1 | refine below_set ?_ GE424.out | refine below_set ?_ GE426.out) | exact HB.out)⟩⟩
         ·rw [if_neg c47] at H
          have c47b0 : decide (0 < t440) = false := decide_eq_false c47
          clear c47
          (first | rw [c47b0] | (simp only [i64_w, i32_w]; rw [c47b0]) | skip)
          have H' := Aside0.mk H
          clear H
          go_wp2
          repeat (go_quiet (fail); try go_wp2)
          go_meet
          case rel => exact ⟨_, (false), (by first | rfl | (simp; done) | (simp [*]; done)), H', ⟨by have := HJ13.out; have := HK2.out; first | omega | exact Nat.le_refl _⟩, ⟨by (with_reducible repeat (first | refine blk_drewN ?_ _ | refine blk_drew ?_ | refine blk_alloc ?_ _)); exact BK424.out⟩, ⟨by (with_reducible repeat (first | refine blk_drewN ?_ _ | refine blk_drew ?_ | refine blk_alloc ?_ _)); exact BK426.out⟩, ⟨by repeat (first | (with_reducible first | exact HB.out | apply below_alloc | apply pw_below_drewN | apply below_drew1 | refine below_set ?_ GE424.out | refine below_set ?_ GE426.out) | exact HB.out)⟩⟩
        case rest => as_aux_lemma =>
         clear HC46
         try clear c1
         try clear c2
         try clear p2
         try clear c3
         try clear c4
         try clear p6
         try clear c14
         try clear c19
         try clear c32
         try clear c33
         try clear c34
         try clear c35
         try clear c36
         try clear c36b0
         try clear c36b1
         try clear c37
         try clear c37b0
         try clear c37b1
         try clear c37b2
         try clear c38
         try clear c38b0
         try clear c38b1
         try clear c38b2
         try clear c40
         try clear c43
         try clear c44
         try clear c44b0
         try clear c47
         try clear c47b0
         try clear c48
         try clear c48b0
         try clear c48b1
         try clear hcz17_0
         try clear hcz17_1
         try clear hcz20_0
         try clear hcz20_1
         try clear hcz21_0
         try clear hcz21_1
         try clear hcz23_0
         try clear hcz23_1
         try clear hcz25_0
         try clear hcz25_1
         try clear hcz26_0
         try clear hcz26_1
         try clear hcz41_0
         try clear hcz41_1
         try clear hfz17_0
         try clear hfz17_1
         try clear hfz20_0
         try clear hfz20_1
         try clear hfz21_0
         try clear hfz21_1
         try clear hfz23_0
         try clear hfz23_1
         try clear hfz25_0
         try clear hfz25_1
         try clear hfz26_0
         try clear hfz26_1
         try clear hfz41_0
         try clear hfz41_1
         try clear p2
         try clear p6
         obtain ⟨kq, x129_45, rfl, HA, HJ45, BK424, BK426, HB⟩ := hcut
         cases kq with
         | zero => exact absurd HA.out (by simp [laws_FnDivided.j2])
         | succ kj45 =>
          have H := HA.out
          clear HA
          simp only [laws_FnDivided.j2] at H
          have HC49 := Aside0.mk H
          clear H
          go_upto_if 129 with (fail)
          repeat (go_quiet (fail); go_upto_if 129 with (fail))
          go_cut [23] (fun v23 wc => ∃ (kq : Nat) (x23_48 : Int), v23 = .int .u8 x23_48 ∧ Aside0 (laws_FnDivided.j3 kq t421 (wrap64 (1 + t422)) t423 t427 (wrap64 (1 + t436)) t437 x19_2 x20_2 x21_2 x23_48 = some r) ∧ Aside0 (kq ≤ kj45) ∧ Aside0 (wc.heap[gb424]? = some (.cells #[.int .i64 (wrap64 (1 + t422)), .int .i64 t423] 32 (0, 0))) ∧ Aside0 (wc.heap[gb426]? = some (.cells #[.int .i64 (wrap64 (1 + t425)), .int .i64 1] 32 (0, 0))) ∧ Aside0 (Below w.heap.size w wc))
          case first => as_aux_lemma =>
           have H := HC49.out
           clear HC49
           by_cases c50 : x129_45 = true
           ·subst c50
            have H1 : (laws_FnDivided.j3 kj45 t421 (wrap64 (1 + t422)) t423 t427 (wrap64 (1 + t436)) t437 x19_2 x20_2 x21_2 49) = some r := by rw [if_pos rfl] at H; exact H
            clear H
            have H := H1
            clear H1
            have H' := Aside0.mk H
            clear H
            go_wp2
            repeat (go_quiet (fail); try go_wp2)
            go_meet
            case rel => exact ⟨_, (49), (by first | rfl | (simp; done) | (simp [*]; done)), H', ⟨by have := HJ13.out; have := HK2.out; have := HJ45.out; first | omega | exact Nat.le_refl _⟩, ⟨by (with_reducible repeat (first | refine blk_drewN ?_ _ | refine blk_drew ?_ | refine blk_alloc ?_ _)); exact BK424.out⟩, ⟨by (with_reducible repeat (first | refine blk_drewN ?_ _ | refine blk_drew ?_ | refine blk_alloc ?_ _)); exact BK426.out⟩, ⟨by repeat (first | (with_reducible first | exact HB.out | apply below_alloc | apply pw_below_drewN | apply below_drew1 | refine below_set ?_ GE424.out | refine below_set ?_ GE426.out) | exact HB.out)⟩⟩
           ·replace c50 := Bool.eq_false_iff.mpr c50
            subst c50
            have H1 : (laws_FnDivided.j3 kj45 t421 (wrap64 (1 + t422)) t423 t427 (wrap64 (1 + t436)) t437 x19_2 x20_2 x21_2 48) = some r := by rw [if_neg (show ¬ (false = true) by decide)] at H; exact H
            clear H
            have H := H1
            clear H1
            have H' := Aside0.mk H
            clear H
            go_wp2
            repeat (go_quiet (fail); try go_wp2)
            go_meet
            case rel => exact ⟨_, (48), (by first | rfl | (simp; done) | (simp [*]; done)), H', ⟨by have := HJ13.out; have := HK2.out; have := HJ45.out; first | omega | exact Nat.le_refl _⟩, ⟨by (with_reducible repeat (first | refine blk_drewN ?_ _ | refine blk_drew ?_ | refine blk_alloc ?_ _)); exact BK424.out⟩, ⟨by (with_reducible repeat (first | refine blk_drewN ?_ _ | refine blk_drew ?_ | refine blk_alloc ?_ _)); exact BK426.out⟩, ⟨by repeat (first | (with_reducible first | exact HB.out | apply below_alloc | apply pw_below_drewN | apply below_drew1 | refine below_set ?_ GE424.out | refine below_set ?_ GE426.out) | exact HB.out)⟩⟩
          case rest => as_aux_lemma =>
           clear HC49
           try clear c1
           try clear c2
           try clear p2
           try clear c3
           try clear c4
           try clear c5
           try clear p6
           try clear c14
           try clear c19
           try clear c32
           try clear c33
           try clear c34
           try clear c35
           try clear c36
           try clear c36b0
           try clear c36b1
           try clear c37
           try clear c37b0
           try clear c37b1
           try clear c37b2
           try clear c38
           try clear c38b0
           try clear c38b1
           try clear c38b2
           try clear c40
           try clear c43
           try clear c44
           try clear c44b0
           try clear c47
           try clear c47b0
           try clear c48
           try clear c48b0
           try clear c48b1
           try clear c50
           try clear hcz17_0
           try clear hcz17_1
           try clear hcz20_0
           try clear hcz20_1
           try clear hcz21_0
           try clear hcz21_1
           try clear hcz23_0
           try clear hcz23_1
           try clear hcz25_0
           try clear hcz25_1
           try clear hcz26_0
           try clear hcz26_1
           try clear hcz41_0
           try clear hcz41_1
           try clear hfz17_0
           try clear hfz17_1
           try clear hfz20_0
           try clear hfz20_1
           try clear hfz21_0
           try clear hfz21_1
           try clear hfz23_0
           try clear hfz23_1
           try clear hfz25_0
           try clear hfz25_1
           try clear hfz26_0
           try clear hfz26_1
           try clear hfz41_0
           try clear hfz41_1
           try clear p2
           try clear p6
           obtain ⟨kq, x23_48, rfl, HA, HJ48, BK424, BK426, HB⟩ := hcut
           cases kq with
           | zero => exact absurd HA.out (by simp [laws_FnDivided.j3])
           | succ kj48 =>
            have H := HA.out
            clear HA
            simp only [laws_FnDivided.j3] at H
            by_cases c51 : 0 ≤ x21_2
            ·rw [if_pos c51] at H
             have c51b0 : decide (0 ≤ x21_2) = true := decide_eq_true c51
             clear c51
             by_cases c52 : x21_2 < (t427.size : Int)
             ·rw [if_pos c52] at H
              have c52b0 : decide (x21_2 < (t427.size : Int)) = true := decide_eq_true c52
              clear c52
              by_cases c54 : (bt t427 x21_2) = x23_48
              ·rw [if_pos c54] at H
               have c54b0 : ((bt t427 x21_2) == x23_48) = true := beq_iff_eq.mpr c54
               have c54b1 : ((bt t427 x21_2) != x23_48) = false := bne_eq_false_iff_eq.mpr c54
               clear c54
               have HC55 := Aside0.mk H
               clear H
               have p53 : 0 ≤ (x21_2 : Int) := of_decide_eq_true (by with_reducible assumption)
               have q53 : x21_2 < (t427.size : Int) := of_decide_eq_true (by with_reducible assumption)
               have hx53 := bt_at t427 x21_2
               replace p53 := eq_true p53
               replace q53 := eq_true q53
               go_upto_region 26 with (fail)
               repeat (go_quiet (fail); go_upto_region 26 with (fail))
               go_cut [156] (fun v156 wc => ∃ (kq : Nat) (x156_54 : Bool), v156 = .bool x156_54 ∧ Aside0 (laws_FnDivided.j4 kq t421 (wrap64 (1 + t422)) t423 t427 (wrap64 (1 + t436)) t437 x19_2 x20_2 x21_2 x156_54 = some r) ∧ Aside0 (kq ≤ kj48) ∧ Aside0 (wc.heap[gb424]? = some (.cells #[.int .i64 (wrap64 (1 + t422)), .int .i64 t423] 32 (0, 0))) ∧ Aside0 (wc.heap[gb426]? = some (.cells #[.int .i64 (wrap64 (1 + t425)), .int .i64 1] 32 (0, 0))) ∧ Aside0 (Below w.heap.size w wc))
               case first => as_aux_lemma =>
                have H := HC55.out
                clear HC55
                by_cases c56 : x21_2 = 0
                ·rw [if_pos c56] at H
                 have c56b0 : (x21_2 == 0) = true := beq_iff_eq.mpr c56
                 have c56b1 : (x21_2 != 0) = false := bne_eq_false_iff_eq.mpr c56
                 clear c56
                 (first | rw [c56b0] | (simp only [i64_w, i32_w]; rw [c56b0]) | skip)
                 by_cases c57 : x21_2 < (t421.size : Int)
                 ·rw [if_pos c57] at H
                  have c57b0 : decide (x21_2 < (t421.size : Int)) = true := decide_eq_true c57
                  clear c57
                  by_cases c59 : (bt t421 x21_2) = 49
                  ·rw [if_pos c59] at H
                   have c59b0 : ((bt t421 x21_2) == 49) = true := beq_iff_eq.mpr c59
                   have c59b1 : ((bt t421 x21_2) != 49) = false := bne_eq_false_iff_eq.mpr c59
                   clear c59
                   have H' := Aside0.mk H
                   clear H
                   have p58 : 0 ≤ (x21_2 : Int) := of_decide_eq_true (by with_reducible assumption)
                   have q58 : x21_2 < (t421.size : Int) := of_decide_eq_true (by with_reducible assumption)
                   have hx58 := bt_at t421 x21_2
                   replace p58 := eq_true p58
                   replace q58 := eq_true q58
                   go_wp2
                   repeat (go_quiet (fail); try go_wp2)
                   go_meet
                   case rel => exact ⟨_, (true), (by first | rfl | (simp; done) | (simp [*]; done)), H', ⟨by have := HJ13.out; have := HK2.out; have := HJ45.out; have := HJ48.out; first | omega | exact Nat.le_refl _⟩, ⟨by (with_reducible repeat (first | refine blk_drewN ?_ _ | refine blk_drew ?_ | refine blk_alloc ?_ _)); exact BK424.out⟩, ⟨by (with_reducible repeat (first | refine blk_drewN ?_ _ | refine blk_drew ?_ | refine blk_alloc ?_ _)); exact BK426.out⟩, ⟨by repeat (first | (with_reducible first | exact HB.out | apply below_alloc | apply pw_below_drewN | apply below_drew1 | refine below_set ?_ GE424.out | refine below_set ?_ GE426.out) | exact HB.out)⟩⟩
                  ·rw [if_neg c59] at H
                   have c59b0 : ((bt t421 x21_2) == 49) = false := beq_eq_false_iff_ne.mpr c59
                   have c59b1 : ((bt t421 x21_2) != 49) = true := bne_iff_ne.mpr c59
                   by_cases c60 : x21_2 > 0
                   ·rw [if_pos c60] at H
                    have c60b0 : decide (0 < x21_2) = true := decide_eq_true c60
                    clear c60
                    obtain ⟨ji62, hji62⟩ : ∃ j_ : Int, (wrap64 (x21_2 - 1)) = j_ := ⟨_, rfl⟩
                    replace H : (if 0 ≤ (ji62) then (if (ji62) < (t421.size : Int) then (laws_FnDivided.j4 kj48 t421 (wrap64 (1 + t422)) t423 t427 (wrap64 (1 + t436)) t437 x19_2 x20_2 x21_2 ((bt t421 x21_2) != (bt t421 (ji62)))) else (none)) else (none)) = some r := by first | (rw [hji62] at H; exact H) | (simp only [hji62] at H ⊢; exact H)
                    have hji62w : (IntKind.i64.wrap (x21_2 - 1)) = ji62 := (i64_w _).trans hji62
                    by_cases c63 : 0 ≤ (ji62)
                    ·rw [if_pos c63] at H
                     have c63b0 : decide (0 ≤ (ji62)) = true := decide_eq_true c63
                     clear c63
                     by_cases c64 : (ji62) < (t421.size : Int)
                     ·rw [if_pos c64] at H
                      have c64b0 : decide ((ji62) < (t421.size : Int)) = true := decide_eq_true c64
                      clear c64
                      have H' := Aside0.mk H
                      clear H
                      have p58 : 0 ≤ (x21_2 : Int) := of_decide_eq_true (by with_reducible assumption)
                      have q58 : x21_2 < (t421.size : Int) := of_decide_eq_true (by with_reducible assumption)
                      have hx58 := bt_at t421 x21_2
                      replace p58 := eq_true p58
                      replace q58 := eq_true q58
                      have p61 : 0 ≤ (x21_2 : Int) := of_decide_eq_true (by with_reducible assumption)
                      have q61 : x21_2 < (t421.size : Int) := of_decide_eq_true (by with_reducible assumption)
                      have hx61 := bt_at t421 x21_2
                      replace p61 := eq_true p61
                      replace q61 := eq_true q61
                      have p65 : 0 ≤ ((ji62) : Int) := of_decide_eq_true (by with_reducible assumption)
                      have q65 : (ji62) < (t421.size : Int) := of_decide_eq_true (by with_reducible assumption)
                      have hx65 := bt_at t421 (ji62)
                      replace p65 := eq_true p65
                      replace q65 := eq_true q65
                      go_wp2
                      repeat (go_quiet (fail); try go_wp2)
                      go_meet
                      case rel => exact ⟨_, (((bt t421 x21_2) != (bt t421 (ji62)))), (by first | rfl | (simp; done) | (simp only [← hji62] <;> (first | rfl | simp)) | (simp [*]; done)), H', ⟨by have := HJ13.out; have := HK2.out; have := HJ45.out; have := HJ48.out; first | omega | exact Nat.le_refl _⟩, ⟨by (with_reducible repeat (first | refine blk_drewN ?_ _ | refine blk_drew ?_ | refine blk_alloc ?_ _)); exact BK424.out⟩, ⟨by (with_reducible repeat (first | refine blk_drewN ?_ _ | refine blk_drew ?_ | refine blk_alloc ?_ _)); exact BK426.out⟩, ⟨by repeat (first | (with_reducible first | exact HB.out | apply below_alloc | apply pw_below_drewN | apply below_drew1 | refine below_set ?_ GE424.out | refine below_set ?_ GE426.out) | exact HB.out)⟩⟩
                     ·rw [if_neg c64] at H
                      exact absurd H (by simp)
                    ·rw [if_neg c63] at H
                     exact absurd H (by simp)
                   ·rw [if_neg c60] at H
                    have c60b0 : decide (0 < x21_2) = false := decide_eq_false c60
                    clear c60
                    have H' := Aside0.mk H
                    clear H
                    have p58 : 0 ≤ (x21_2 : Int) := of_decide_eq_true (by with_reducible assumption)
                    have q58 : x21_2 < (t421.size : Int) := of_decide_eq_true (by with_reducible assumption)
                    have hx58 := bt_at t421 x21_2
                    replace p58 := eq_true p58
                    replace q58 := eq_true q58
                    go_wp2
                    repeat (go_quiet (fail); try go_wp2)
                    go_meet
                    case rel => exact ⟨_, (false), (by first | rfl | (simp; done) | (simp [*]; done)), H', ⟨by have := HJ13.out; have := HK2.out; have := HJ45.out; have := HJ48.out; first | omega | exact Nat.le_refl _⟩, ⟨by (with_reducible repeat (first | refine blk_drewN ?_ _ | refine blk_drew ?_ | refine blk_alloc ?_ _)); exact BK424.out⟩, ⟨by (with_reducible repeat (first | refine blk_drewN ?_ _ | refine blk_drew ?_ | refine blk_alloc ?_ _)); exact BK426.out⟩, ⟨by repeat (first | (with_reducible first | exact HB.out | apply below_alloc | apply pw_below_drewN | apply below_drew1 | refine below_set ?_ GE424.out | refine below_set ?_ GE426.out) | exact HB.out)⟩⟩
                 ·rw [if_neg c57] at H
                  exact absurd H (by simp)
                ·rw [if_neg c56] at H
                 have c56b0 : (x21_2 == 0) = false := beq_eq_false_iff_ne.mpr c56
                 have c56b1 : (x21_2 != 0) = true := bne_iff_ne.mpr c56
                 (first | rw [c56b0] | (simp only [i64_w, i32_w]; rw [c56b0]) | skip)
                 by_cases c66 : x21_2 > 0
                 ·rw [if_pos c66] at H
                  have c66b0 : decide (0 < x21_2) = true := decide_eq_true c66
                  clear c66
                  by_cases c67 : x21_2 < (t421.size : Int)
                  ·rw [if_pos c67] at H
                   have c67b0 : decide (x21_2 < (t421.size : Int)) = true := decide_eq_true c67
                   clear c67
                   obtain ⟨ji69, hji69⟩ : ∃ j_ : Int, (wrap64 (x21_2 - 1)) = j_ := ⟨_, rfl⟩
                   replace H : (if 0 ≤ (ji69) then (if (ji69) < (t421.size : Int) then (laws_FnDivided.j4 kj48 t421 (wrap64 (1 + t422)) t423 t427 (wrap64 (1 + t436)) t437 x19_2 x20_2 x21_2 ((bt t421 x21_2) != (bt t421 (ji69)))) else (none)) else (none)) = some r := by first | (rw [hji69] at H; exact H) | (simp only [hji69] at H ⊢; exact H)
                   have hji69w : (IntKind.i64.wrap (x21_2 - 1)) = ji69 := (i64_w _).trans hji69
                   by_cases c70 : 0 ≤ (ji69)
                   ·rw [if_pos c70] at H
                    have c70b0 : decide (0 ≤ (ji69)) = true := decide_eq_true c70
                    clear c70
                    by_cases c71 : (ji69) < (t421.size : Int)
                    ·rw [if_pos c71] at H
                     have c71b0 : decide ((ji69) < (t421.size : Int)) = true := decide_eq_true c71
                     clear c71
                     have H' := Aside0.mk H
                     clear H
                     have p68 : 0 ≤ (x21_2 : Int) := of_decide_eq_true (by with_reducible assumption)
                     have q68 : x21_2 < (t421.size : Int) := of_decide_eq_true (by with_reducible assumption)
                     have hx68 := bt_at t421 x21_2
                     replace p68 := eq_true p68
                     replace q68 := eq_true q68
                     have p72 : 0 ≤ ((ji69) : Int) := of_decide_eq_true (by with_reducible assumption)
                     have q72 : (ji69) < (t421.size : Int) := of_decide_eq_true (by with_reducible assumption)
                     have hx72 := bt_at t421 (ji69)
                     replace p72 := eq_true p72
                     replace q72 := eq_true q72
                     go_wp2
                     repeat (go_quiet (fail); try go_wp2)
                     go_meet
                     case rel => exact ⟨_, (((bt t421 x21_2) != (bt t421 (ji69)))), (by first | rfl | (simp; done) | (simp only [← hji69] <;> (first | rfl | simp)) | (simp [*]; done)), H', ⟨by have := HJ13.out; have := HK2.out; have := HJ45.out; have := HJ48.out; first | omega | exact Nat.le_refl _⟩, ⟨by (with_reducible repeat (first | refine blk_drewN ?_ _ | refine blk_drew ?_ | refine blk_alloc ?_ _)); exact BK424.out⟩, ⟨by (with_reducible repeat (first | refine blk_drewN ?_ _ | refine blk_drew ?_ | refine blk_alloc ?_ _)); exact BK426.out⟩, ⟨by repeat (first | (with_reducible first | exact HB.out | apply below_alloc | apply pw_below_drewN | apply below_drew1 | refine below_set ?_ GE424.out | refine below_set ?_ GE426.out) | exact HB.out)⟩⟩
                    ·rw [if_neg c71] at H
                     exact absurd H (by simp)
                   ·rw [if_neg c70] at H
                    exact absurd H (by simp)
                  ·rw [if_neg c67] at H
                   exact absurd H (by simp)
                 ·rw [if_neg c66] at H
                  have c66b0 : decide (0 < x21_2) = false := decide_eq_false c66
                  clear c66
                  have H' := Aside0.mk H
                  clear H
                  go_wp2
                  repeat (go_quiet (fail); try go_wp2)
                  go_meet
                  case rel => exact ⟨_, (false), (by first | rfl | (simp; done) | (simp [*]; done)), H', ⟨by have := HJ13.out; have := HK2.out; have := HJ45.out; have := HJ48.out; first | omega | exact Nat.le_refl _⟩, ⟨by (with_reducible repeat (first | refine blk_drewN ?_ _ | refine blk_drew ?_ | refine blk_alloc ?_ _)); exact BK424.out⟩, ⟨by (with_reducible repeat (first | refine blk_drewN ?_ _ | refine blk_drew ?_ | refine blk_alloc ?_ _)); exact BK426.out⟩, ⟨by repeat (first | (with_reducible first | exact HB.out | apply below_alloc | apply pw_below_drewN | apply below_drew1 | refine below_set ?_ GE424.out | refine below_set ?_ GE426.out) | exact HB.out)⟩⟩
               case rest => as_aux_lemma =>
                clear HC55
                try clear c1
                try clear c2
                try clear p2
                try clear c3
                try clear c4
                try clear c5
                try clear p5
                try clear q5
                try clear hx5
                try clear c6
                try clear p6
                try clear q6
                try clear hx6
                try clear c7
                try clear p7
                try clear q7
                try clear hx7
                try clear c14
                try clear c19
                try clear c32
                try clear c33
                try clear c34
                try clear c35
                try clear c36
                try clear c36b0
                try clear c36b1
                try clear c37
                try clear c37b0
                try clear c37b1
                try clear c37b2
                try clear c38
                try clear c38b0
                try clear c38b1
                try clear c38b2
                try clear c40
                try clear c43
                try clear c44
                try clear c44b0
                try clear c47
                try clear c47b0
                try clear c48
                try clear c48b0
                try clear c48b1
                try clear c50
                try clear c51
                try clear c51b0
                try clear c52
                try clear c52b0
                try clear p53
                try clear q53
                try clear hx53
                try clear c54
                try clear c54b0
                try clear c54b1
                try clear c56
                try clear c56b0
                try clear c56b1
                try clear c57
                try clear c57b0
                try clear p58
                try clear q58
                try clear hx58
                try clear c59
                try clear c59b0
                try clear c59b1
                try clear c60
                try clear c60b0
                try clear p61
                try clear q61
                try clear hx61
                try clear c63
                try clear c63b0
                try clear c64
                try clear c64b0
                try clear p64
                try clear p65
                try clear q65
                try clear hx65
                try clear c66
                try clear c66b0
                try clear c67
                try clear c67b0
                try clear p68
                try clear q68
                try clear hx68
                try clear c70
                try clear c70b0
                try clear c71
                try clear c71b0
                try clear p72
                try clear q72
                try clear hx72
                try clear hcz17_0
                try clear hcz17_1
                try clear hcz20_0
                try clear hcz20_1
                try clear hcz21_0
                try clear hcz21_1
                try clear hcz23_0
                try clear hcz23_1
                try clear hcz25_0
                try clear hcz25_1
                try clear hcz26_0
                try clear hcz26_1
                try clear hcz41_0
                try clear hcz41_1
                try clear hfz17_0
                try clear hfz17_1
                try clear hfz20_0
                try clear hfz20_1
                try clear hfz21_0
                try clear hfz21_1
                try clear hfz23_0
                try clear hfz23_1
                try clear hfz25_0
                try clear hfz25_1
                try clear hfz26_0
                try clear hfz26_1
                try clear hfz41_0
                try clear hfz41_1
                try clear p2
                try clear p53
                try clear p58
                try clear p6
                try clear p61
                try clear p65
                try clear p68
                try clear p72
                try clear q53
                try clear q58
                try clear q61
                try clear q65
                try clear q68
                try clear q72
                obtain ⟨kq, x156_54, rfl, HA, HJ54, BK424, BK426, HB⟩ := hcut
                cases kq with
                | zero => exact absurd HA.out (by simp [laws_FnDivided.j4])
                | succ kj54 =>
                 have H := HA.out
                 clear HA
                 simp only [laws_FnDivided.j4] at H
                 by_cases c73 : x156_54 = true
                 ·subst c73
                  have H1 : (if x21_2 = 0 then (if 0 ≤ x21_2 then (if x21_2 < (t437.size : Int) then (if (bt t437 x21_2) = 49 then (laws_FnDivided.l0 kj54 t421 (wrap64 (1 + t422)) t423 t427 (wrap64 (1 + t436)) t437 (wrap64 (x19_2 + 1)) (wrap64 (x20_2 + 1)) (wrap64 (x21_2 + 1))) else (if x21_2 > 0 then (if 0 ≤ (wrap64 (x21_2 - 1)) then (if (wrap64 (x21_2 - 1)) < (t437.size : Int) then (if (bt t437 x21_2) = (bt t437 (wrap64 (x21_2 - 1))) then (laws_FnDivided.l0 kj54 t421 (wrap64 (1 + t422)) t423 t427 (wrap64 (1 + t436)) t437 (wrap64 (x19_2 + 1)) x20_2 (wrap64 (x21_2 + 1))) else (laws_FnDivided.l0 kj54 t421 (wrap64 (1 + t422)) t423 t427 (wrap64 (1 + t436)) t437 (wrap64 (x19_2 + 1)) (wrap64 (x20_2 + 1)) (wrap64 (x21_2 + 1)))) else (none)) else (none)) else (laws_FnDivided.l0 kj54 t421 (wrap64 (1 + t422)) t423 t427 (wrap64 (1 + t436)) t437 (wrap64 (x19_2 + 1)) x20_2 (wrap64 (x21_2 + 1))))) else (none)) else (none)) else (if x21_2 > 0 then (if 0 ≤ x21_2 then (if x21_2 < (t437.size : Int) then (if 0 ≤ (wrap64 (x21_2 - 1)) then (if (wrap64 (x21_2 - 1)) < (t437.size : Int) then (if (bt t437 x21_2) = (bt t437 (wrap64 (x21_2 - 1))) then (laws_FnDivided.l0 kj54 t421 (wrap64 (1 + t422)) t423 t427 (wrap64 (1 + t436)) t437 (wrap64 (x19_2 + 1)) x20_2 (wrap64 (x21_2 + 1))) else (laws_FnDivided.l0 kj54 t421 (wrap64 (1 + t422)) t423 t427 (wrap64 (1 + t436)) t437 (wrap64 (x19_2 + 1)) (wrap64 (x20_2 + 1)) (wrap64 (x21_2 + 1)))) else (none)) else (none)) else (none)) else (none)) else (laws_FnDivided.l0 kj54 t421 (wrap64 (1 + t422)) t423 t427 (wrap64 (1 + t436)) t437 (wrap64 (x19_2 + 1)) x20_2 (wrap64 (x21_2 + 1))))) = some r := by rw [if_pos rfl] at H; exact H
                  clear H
                  have H := H1
                  clear H1
                  by_cases c74 : x21_2 = 0
                  ·rw [if_pos c74] at H
                   have c74b0 : (x21_2 == 0) = true := beq_iff_eq.mpr c74
                   have c74b1 : (x21_2 != 0) = false := bne_eq_false_iff_eq.mpr c74
                   clear c74
                   by_cases c75 : 0 ≤ x21_2
                   ·rw [if_pos c75] at H
                    have c75b0 : decide (0 ≤ x21_2) = true := decide_eq_true c75
                    clear c75
                    by_cases c76 : x21_2 < (t437.size : Int)
                    ·rw [if_pos c76] at H
                     have c76b0 : decide (x21_2 < (t437.size : Int)) = true := decide_eq_true c76
                     clear c76
                     by_cases c78 : (bt t437 x21_2) = 49
                     ·rw [if_pos c78] at H
                      have c78b0 : ((bt t437 x21_2) == 49) = true := beq_iff_eq.mpr c78
                      have c78b1 : ((bt t437 x21_2) != 49) = false := bne_eq_false_iff_eq.mpr c78
                      clear c78
                      have H' := Aside0.mk H
                      clear H
                      have p77 : 0 ≤ (x21_2 : Int) := of_decide_eq_true (by with_reducible assumption)
                      have q77 : x21_2 < (t437.size : Int) := of_decide_eq_true (by with_reducible assumption)
                      have hx77 := bt_at t437 x21_2
                      replace p77 := eq_true p77
                      replace q77 := eq_true q77
                      go_wp2
                      repeat (go_quiet (fail); try go_wp2)
                      go_roundg kj54
                      case measure => have := HJ13.out; have := HK2.out; have := HJ45.out; have := HJ48.out; have := HJ54.out; omega
                      case rel => exact ⟨(wrap64 (x19_2 + 1)), (wrap64 (x20_2 + 1)), (wrap64 (x21_2 + 1)), (by first | rfl | (simp; done) | (simp [*]; done)), (by first | rfl | (simp; done) | (simp [*]; done)), (by first | rfl | (simp; done) | (simp [*]; done)), H', ⟨by have := HJ13.out; have := HK2.out; have := HJ45.out; have := HJ48.out; have := HJ54.out; omega⟩, ⟨by (with_reducible repeat (first | refine blk_drewN ?_ _ | refine blk_drew ?_ | refine blk_alloc ?_ _)); exact BK424.out⟩, ⟨by (with_reducible repeat (first | refine blk_drewN ?_ _ | refine blk_drew ?_ | refine blk_alloc ?_ _)); exact BK426.out⟩, ⟨by repeat (first | (with_reducible first | exact HB.out | apply below_alloc | apply pw_below_drewN | apply below_drew1 | refine below_set ?_ GE424.out | refine below_set ?_ GE426.out) | exact HB.out)⟩⟩
                     ·rw [if_neg c78] at H
                      have c78b0 : ((bt t437 x21_2) == 49) = false := beq_eq_false_iff_ne.mpr c78
                      have c78b1 : ((bt t437 x21_2) != 49) = true := bne_iff_ne.mpr c78
                      by_cases c79 : x21_2 > 0
                      ·rw [if_pos c79] at H
                       have c79b0 : decide (0 < x21_2) = true := decide_eq_true c79
                       clear c79
                       obtain ⟨ji81, hji81⟩ : ∃ j_ : Int, (wrap64 (x21_2 - 1)) = j_ := ⟨_, rfl⟩
                       replace H : (if 0 ≤ (ji81) then (if (ji81) < (t437.size : Int) then (if (bt t437 x21_2) = (bt t437 (ji81)) then (laws_FnDivided.l0 kj54 t421 (wrap64 (1 + t422)) t423 t427 (wrap64 (1 + t436)) t437 (wrap64 (x19_2 + 1)) x20_2 (wrap64 (x21_2 + 1))) else (laws_FnDivided.l0 kj54 t421 (wrap64 (1 + t422)) t423 t427 (wrap64 (1 + t436)) t437 (wrap64 (x19_2 + 1)) (wrap64 (x20_2 + 1)) (wrap64 (x21_2 + 1)))) else (none)) else (none)) = some r := by first | (rw [hji81] at H; exact H) | (simp only [hji81] at H ⊢; exact H)
                       have hji81w : (IntKind.i64.wrap (x21_2 - 1)) = ji81 := (i64_w _).trans hji81
                       by_cases c82 : 0 ≤ (ji81)
                       ·rw [if_pos c82] at H
                        have c82b0 : decide (0 ≤ (ji81)) = true := decide_eq_true c82
                        clear c82
                        by_cases c83 : (ji81) < (t437.size : Int)
                        ·rw [if_pos c83] at H
                         have c83b0 : decide ((ji81) < (t437.size : Int)) = true := decide_eq_true c83
                         clear c83
                         by_cases c85 : (bt t437 x21_2) = (bt t437 (ji81))
                         ·rw [if_pos c85] at H
                          have c85b0 : ((bt t437 x21_2) == (bt t437 (ji81))) = true := beq_iff_eq.mpr c85
                          have c85b1 : ((bt t437 x21_2) != (bt t437 (ji81))) = false := bne_eq_false_iff_eq.mpr c85
                          clear c85
                          have H' := Aside0.mk H
                          clear H
                          have p77 : 0 ≤ (x21_2 : Int) := of_decide_eq_true (by with_reducible assumption)
                          have q77 : x21_2 < (t437.size : Int) := of_decide_eq_true (by with_reducible assumption)
                          have hx77 := bt_at t437 x21_2
                          replace p77 := eq_true p77
                          replace q77 := eq_true q77
                          have p80 : 0 ≤ (x21_2 : Int) := of_decide_eq_true (by with_reducible assumption)
                          have q80 : x21_2 < (t437.size : Int) := of_decide_eq_true (by with_reducible assumption)
                          have hx80 := bt_at t437 x21_2
                          replace p80 := eq_true p80
                          replace q80 := eq_true q80
                          have p84 : 0 ≤ ((ji81) : Int) := of_decide_eq_true (by with_reducible assumption)
                          have q84 : (ji81) < (t437.size : Int) := of_decide_eq_true (by with_reducible assumption)
                          have hx84 := bt_at t437 (ji81)
                          replace p84 := eq_true p84
                          replace q84 := eq_true q84
                          go_wp2
                          repeat (go_quiet (fail); try go_wp2)
                          go_roundg kj54
                          case measure => have := HJ13.out; have := HK2.out; have := HJ45.out; have := HJ48.out; have := HJ54.out; omega
                          case rel => exact ⟨(wrap64 (x19_2 + 1)), (x20_2), (wrap64 (x21_2 + 1)), (by first | rfl | (simp; done) | (simp [*]; done)), (by first | rfl | (simp; done) | (simp [*]; done)), (by first | rfl | (simp; done) | (simp [*]; done)), H', ⟨by have := HJ13.out; have := HK2.out; have := HJ45.out; have := HJ48.out; have := HJ54.out; omega⟩, ⟨by (with_reducible repeat (first | refine blk_drewN ?_ _ | refine blk_drew ?_ | refine blk_alloc ?_ _)); exact BK424.out⟩, ⟨by (with_reducible repeat (first | refine blk_drewN ?_ _ | refine blk_drew ?_ | refine blk_alloc ?_ _)); exact BK426.out⟩, ⟨by repeat (first | (with_reducible first | exact HB.out | apply below_alloc | apply pw_below_drewN | apply below_drew1 | refine below_set ?_ GE424.out | refine below_set ?_ GE426.out) | exact HB.out)⟩⟩
                         ·rw [if_neg c85] at H
                          have c85b0 : ((bt t437 x21_2) == (bt t437 (ji81))) = false := beq_eq_false_iff_ne.mpr c85
                          have c85b1 : ((bt t437 x21_2) != (bt t437 (ji81))) = true := bne_iff_ne.mpr c85
                          have H' := Aside0.mk H
                          clear H
                          have p77 : 0 ≤ (x21_2 : Int) := of_decide_eq_true (by with_reducible assumption)
                          have q77 : x21_2 < (t437.size : Int) := of_decide_eq_true (by with_reducible assumption)
                          have hx77 := bt_at t437 x21_2
                          replace p77 := eq_true p77
                          replace q77 := eq_true q77
                          have p80 : 0 ≤ (x21_2 : Int) := of_decide_eq_true (by with_reducible assumption)
                          have q80 : x21_2 < (t437.size : Int) := of_decide_eq_true (by with_reducible assumption)
                          have hx80 := bt_at t437 x21_2
                          replace p80 := eq_true p80
                          replace q80 := eq_true q80
                          have p84 : 0 ≤ ((ji81) : Int) := of_decide_eq_true (by with_reducible assumption)
                          have q84 : (ji81) < (t437.size : Int) := of_decide_eq_true (by with_reducible assumption)
                          have hx84 := bt_at t437 (ji81)
                          replace p84 := eq_true p84
                          replace q84 := eq_true q84
                          go_wp2
                          repeat (go_quiet (fail); try go_wp2)
                          go_roundg kj54
                          case measure => have := HJ13.out; have := HK2.out; have := HJ45.out; have := HJ48.out; have := HJ54.out; omega
                          case rel => exact ⟨(wrap64 (x19_2 + 1)), (wrap64 (x20_2 + 1)), (wrap64 (x21_2 + 1)), (by first | rfl | (simp; done) | (simp [*]; done)), (by first | rfl | (simp; done) | (simp [*]; done)), (by first | rfl | (simp; done) | (simp [*]; done)), H', ⟨by have := HJ13.out; have := HK2.out; have := HJ45.out; have := HJ48.out; have := HJ54.out; omega⟩, ⟨by (with_reducible repeat (first | refine blk_drewN ?_ _ | refine blk_drew ?_ | refine blk_alloc ?_ _)); exact BK424.out⟩, ⟨by (with_reducible repeat (first | refine blk_drewN ?_ _ | refine blk_drew ?_ | refine blk_alloc ?_ _)); exact BK426.out⟩, ⟨by repeat (first | (with_reducible first | exact HB.out | apply below_alloc | apply pw_below_drewN | apply below_drew1 | refine below_set ?_ GE424.out | refine below_set ?_ GE426.out) | exact HB.out)⟩⟩
                        ·rw [if_neg c83] at H
                         exact absurd H (by simp)
                       ·rw [if_neg c82] at H
                        exact absurd H (by simp)
                      ·rw [if_neg c79] at H
                       have c79b0 : decide (0 < x21_2) = false := decide_eq_false c79
                       clear c79
                       have H' := Aside0.mk H
                       clear H
                       have p77 : 0 ≤ (x21_2 : Int) := of_decide_eq_true (by with_reducible assumption)
                       have q77 : x21_2 < (t437.size : Int) := of_decide_eq_true (by with_reducible assumption)
                       have hx77 := bt_at t437 x21_2
                       replace p77 := eq_true p77
                       replace q77 := eq_true q77
                       go_wp2
                       repeat (go_quiet (fail); try go_wp2)
                       go_roundg kj54
                       case measure => have := HJ13.out; have := HK2.out; have := HJ45.out; have := HJ48.out; have := HJ54.out; omega
                       case rel => exact ⟨(wrap64 (x19_2 + 1)), (x20_2), (wrap64 (x21_2 + 1)), (by first | rfl | (simp; done) | (simp [*]; done)), (by first | rfl | (simp; done) | (simp [*]; done)), (by first | rfl | (simp; done) | (simp [*]; done)), H', ⟨by have := HJ13.out; have := HK2.out; have := HJ45.out; have := HJ48.out; have := HJ54.out; omega⟩, ⟨by (with_reducible repeat (first | refine blk_drewN ?_ _ | refine blk_drew ?_ | refine blk_alloc ?_ _)); exact BK424.out⟩, ⟨by (with_reducible repeat (first | refine blk_drewN ?_ _ | refine blk_drew ?_ | refine blk_alloc ?_ _)); exact BK426.out⟩, ⟨by repeat (first | (with_reducible first | exact HB.out | apply below_alloc | apply pw_below_drewN | apply below_drew1 | refine below_set ?_ GE424.out | refine below_set ?_ GE426.out) | exact HB.out)⟩⟩
                    ·rw [if_neg c76] at H
                     exact absurd H (by simp)
                   ·rw [if_neg c75] at H
                    exact absurd H (by simp)
                  ·rw [if_neg c74] at H
                   have c74b0 : (x21_2 == 0) = false := beq_eq_false_iff_ne.mpr c74
                   have c74b1 : (x21_2 != 0) = true := bne_iff_ne.mpr c74
                   by_cases c86 : x21_2 > 0
                   ·rw [if_pos c86] at H
                    have c86b0 : decide (0 < x21_2) = true := decide_eq_true c86
                    clear c86
                    by_cases c87 : 0 ≤ x21_2
                    ·rw [if_pos c87] at H
                     have c87b0 : decide (0 ≤ x21_2) = true := decide_eq_true c87
                     clear c87
                     by_cases c88 : x21_2 < (t437.size : Int)
                     ·rw [if_pos c88] at H
                      have c88b0 : decide (x21_2 < (t437.size : Int)) = true := decide_eq_true c88
                      clear c88
                      obtain ⟨ji90, hji90⟩ : ∃ j_ : Int, (wrap64 (x21_2 - 1)) = j_ := ⟨_, rfl⟩
                      replace H : (if 0 ≤ (ji90) then (if (ji90) < (t437.size : Int) then (if (bt t437 x21_2) = (bt t437 (ji90)) then (laws_FnDivided.l0 kj54 t421 (wrap64 (1 + t422)) t423 t427 (wrap64 (1 + t436)) t437 (wrap64 (x19_2 + 1)) x20_2 (wrap64 (x21_2 + 1))) else (laws_FnDivided.l0 kj54 t421 (wrap64 (1 + t422)) t423 t427 (wrap64 (1 + t436)) t437 (wrap64 (x19_2 + 1)) (wrap64 (x20_2 + 1)) (wrap64 (x21_2 + 1)))) else (none)) else (none)) = some r := by first | (rw [hji90] at H; exact H) | (simp only [hji90] at H ⊢; exact H)
                      have hji90w : (IntKind.i64.wrap (x21_2 - 1)) = ji90 := (i64_w _).trans hji90
                      by_cases c91 : 0 ≤ (ji90)
                      ·rw [if_pos c91] at H
                       have c91b0 : decide (0 ≤ (ji90)) = true := decide_eq_true c91
                       clear c91
                       by_cases c92 : (ji90) < (t437.size : Int)
                       ·rw [if_pos c92] at H
                        have c92b0 : decide ((ji90) < (t437.size : Int)) = true := decide_eq_true c92
                        clear c92
                        by_cases c94 : (bt t437 x21_2) = (bt t437 (ji90))
                        ·rw [if_pos c94] at H
                         have c94b0 : ((bt t437 x21_2) == (bt t437 (ji90))) = true := beq_iff_eq.mpr c94
                         have c94b1 : ((bt t437 x21_2) != (bt t437 (ji90))) = false := bne_eq_false_iff_eq.mpr c94
                         clear c94
                         have H' := Aside0.mk H
                         clear H
                         have p89 : 0 ≤ (x21_2 : Int) := of_decide_eq_true (by with_reducible assumption)
                         have q89 : x21_2 < (t437.size : Int) := of_decide_eq_true (by with_reducible assumption)
                         have hx89 := bt_at t437 x21_2
                         replace p89 := eq_true p89
                         replace q89 := eq_true q89
                         have p93 : 0 ≤ ((ji90) : Int) := of_decide_eq_true (by with_reducible assumption)
                         have q93 : (ji90) < (t437.size : Int) := of_decide_eq_true (by with_reducible assumption)
                         have hx93 := bt_at t437 (ji90)
                         replace p93 := eq_true p93
                         replace q93 := eq_true q93
                         go_wp2
                         repeat (go_quiet (fail); try go_wp2)
                         go_roundg kj54
                         case measure => have := HJ13.out; have := HK2.out; have := HJ45.out; have := HJ48.out; have := HJ54.out; omega
                         case rel => exact ⟨(wrap64 (x19_2 + 1)), (x20_2), (wrap64 (x21_2 + 1)), (by first | rfl | (simp; done) | (simp [*]; done)), (by first | rfl | (simp; done) | (simp [*]; done)), (by first | rfl | (simp; done) | (simp [*]; done)), H', ⟨by have := HJ13.out; have := HK2.out; have := HJ45.out; have := HJ48.out; have := HJ54.out; omega⟩, ⟨by (with_reducible repeat (first | refine blk_drewN ?_ _ | refine blk_drew ?_ | refine blk_alloc ?_ _)); exact BK424.out⟩, ⟨by (with_reducible repeat (first | refine blk_drewN ?_ _ | refine blk_drew ?_ | refine blk_alloc ?_ _)); exact BK426.out⟩, ⟨by repeat (first | (with_reducible first | exact HB.out | apply below_alloc | apply pw_below_drewN | apply below_drew1 | refine below_set ?_ GE424.out | refine below_set ?_ GE426.out) | exact HB.out)⟩⟩
                        ·rw [if_neg c94] at H
                         have c94b0 : ((bt t437 x21_2) == (bt t437 (ji90))) = false := beq_eq_false_iff_ne.mpr c94
                         have c94b1 : ((bt t437 x21_2) != (bt t437 (ji90))) = true := bne_iff_ne.mpr c94
                         have H' := Aside0.mk H
                         clear H
                         have p89 : 0 ≤ (x21_2 : Int) := of_decide_eq_true (by with_reducible assumption)
                         have q89 : x21_2 < (t437.size : Int) := of_decide_eq_true (by with_reducible assumption)
                         have hx89 := bt_at t437 x21_2
                         replace p89 := eq_true p89
                         replace q89 := eq_true q89
                         have p93 : 0 ≤ ((ji90) : Int) := of_decide_eq_true (by with_reducible assumption)
                         have q93 : (ji90) < (t437.size : Int) := of_decide_eq_true (by with_reducible assumption)
                         have hx93 := bt_at t437 (ji90)
                         replace p93 := eq_true p93
                         replace q93 := eq_true q93
                         go_wp2
                         repeat (go_quiet (fail); try go_wp2)
                         go_roundg kj54
                         case measure => have := HJ13.out; have := HK2.out; have := HJ45.out; have := HJ48.out; have := HJ54.out; omega
                         case rel => exact ⟨(wrap64 (x19_2 + 1)), (wrap64 (x20_2 + 1)), (wrap64 (x21_2 + 1)), (by first | rfl | (simp; done) | (simp [*]; done)), (by first | rfl | (simp; done) | (simp [*]; done)), (by first | rfl | (simp; done) | (simp [*]; done)), H', ⟨by have := HJ13.out; have := HK2.out; have := HJ45.out; have := HJ48.out; have := HJ54.out; omega⟩, ⟨by (with_reducible repeat (first | refine blk_drewN ?_ _ | refine blk_drew ?_ | refine blk_alloc ?_ _)); exact BK424.out⟩, ⟨by (with_reducible repeat (first | refine blk_drewN ?_ _ | refine blk_drew ?_ | refine blk_alloc ?_ _)); exact BK426.out⟩, ⟨by repeat (first | (with_reducible first | exact HB.out | apply below_alloc | apply pw_below_drewN | apply below_drew1 | refine below_set ?_ GE424.out | refine below_set ?_ GE426.out) | exact HB.out)⟩⟩
                       ·rw [if_neg c92] at H
                        exact absurd H (by simp)
                      ·rw [if_neg c91] at H
                       exact absurd H (by simp)
                     ·rw [if_neg c88] at H
                      exact absurd H (by simp)
                    ·rw [if_neg c87] at H
                     exact absurd H (by simp)
                   ·rw [if_neg c86] at H
                    have c86b0 : decide (0 < x21_2) = false := decide_eq_false c86
                    clear c86
                    have H' := Aside0.mk H
                    clear H
                    go_wp2
                    repeat (go_quiet (fail); try go_wp2)
                    go_roundg kj54
                    case measure => have := HJ13.out; have := HK2.out; have := HJ45.out; have := HJ48.out; have := HJ54.out; omega
                    case rel => exact ⟨(wrap64 (x19_2 + 1)), (x20_2), (wrap64 (x21_2 + 1)), (by first | rfl | (simp; done) | (simp [*]; done)), (by first | rfl | (simp; done) | (simp [*]; done)), (by first | rfl | (simp; done) | (simp [*]; done)), H', ⟨by have := HJ13.out; have := HK2.out; have := HJ45.out; have := HJ48.out; have := HJ54.out; omega⟩, ⟨by (with_reducible repeat (first | refine blk_drewN ?_ _ | refine blk_drew ?_ | refine blk_alloc ?_ _)); exact BK424.out⟩, ⟨by (with_reducible repeat (first | refine blk_drewN ?_ _ | refine blk_drew ?_ | refine blk_alloc ?_ _)); exact BK426.out⟩, ⟨by repeat (first | (with_reducible first | exact HB.out | apply below_alloc | apply pw_below_drewN | apply below_drew1 | refine below_set ?_ GE424.out | refine below_set ?_ GE426.out) | exact HB.out)⟩⟩
                 ·replace c73 := Bool.eq_false_iff.mpr c73
                  subst c73
                  have H1 : (if x21_2 = 0 then (if 0 ≤ x21_2 then (if x21_2 < (t437.size : Int) then (if (bt t437 x21_2) = 49 then (laws_FnDivided.l0 kj54 t421 (wrap64 (1 + t422)) t423 t427 (wrap64 (1 + t436)) t437 x19_2 (wrap64 (x20_2 + 1)) (wrap64 (x21_2 + 1))) else (if x21_2 > 0 then (if 0 ≤ (wrap64 (x21_2 - 1)) then (if (wrap64 (x21_2 - 1)) < (t437.size : Int) then (if (bt t437 x21_2) = (bt t437 (wrap64 (x21_2 - 1))) then (laws_FnDivided.l0 kj54 t421 (wrap64 (1 + t422)) t423 t427 (wrap64 (1 + t436)) t437 x19_2 x20_2 (wrap64 (x21_2 + 1))) else (laws_FnDivided.l0 kj54 t421 (wrap64 (1 + t422)) t423 t427 (wrap64 (1 + t436)) t437 x19_2 (wrap64 (x20_2 + 1)) (wrap64 (x21_2 + 1)))) else (none)) else (none)) else (laws_FnDivided.l0 kj54 t421 (wrap64 (1 + t422)) t423 t427 (wrap64 (1 + t436)) t437 x19_2 x20_2 (wrap64 (x21_2 + 1))))) else (none)) else (none)) else (if x21_2 > 0 then (if 0 ≤ x21_2 then (if x21_2 < (t437.size : Int) then (if 0 ≤ (wrap64 (x21_2 - 1)) then (if (wrap64 (x21_2 - 1)) < (t437.size : Int) then (if (bt t437 x21_2) = (bt t437 (wrap64 (x21_2 - 1))) then (laws_FnDivided.l0 kj54 t421 (wrap64 (1 + t422)) t423 t427 (wrap64 (1 + t436)) t437 x19_2 x20_2 (wrap64 (x21_2 + 1))) else (laws_FnDivided.l0 kj54 t421 (wrap64 (1 + t422)) t423 t427 (wrap64 (1 + t436)) t437 x19_2 (wrap64 (x20_2 + 1)) (wrap64 (x21_2 + 1)))) else (none)) else (none)) else (none)) else (none)) else (laws_FnDivided.l0 kj54 t421 (wrap64 (1 + t422)) t423 t427 (wrap64 (1 + t436)) t437 x19_2 x20_2 (wrap64 (x21_2 + 1))))) = some r := by rw [if_neg (show ¬ (false = true) by decide)] at H; exact H
                  clear H
                  have H := H1
                  clear H1
                  by_cases c95 : x21_2 = 0
                  ·rw [if_pos c95] at H
                   have c95b0 : (x21_2 == 0) = true := beq_iff_eq.mpr c95
                   have c95b1 : (x21_2 != 0) = false := bne_eq_false_iff_eq.mpr c95
                   clear c95
                   by_cases c96 : 0 ≤ x21_2
                   ·rw [if_pos c96] at H
                    have c96b0 : decide (0 ≤ x21_2) = true := decide_eq_true c96
                    clear c96
                    by_cases c97 : x21_2 < (t437.size : Int)
                    ·rw [if_pos c97] at H
                     have c97b0 : decide (x21_2 < (t437.size : Int)) = true := decide_eq_true c97
                     clear c97
                     by_cases c99 : (bt t437 x21_2) = 49
                     ·rw [if_pos c99] at H
                      have c99b0 : ((bt t437 x21_2) == 49) = true := beq_iff_eq.mpr c99
                      have c99b1 : ((bt t437 x21_2) != 49) = false := bne_eq_false_iff_eq.mpr c99
                      clear c99
                      have H' := Aside0.mk H
                      clear H
                      have p98 : 0 ≤ (x21_2 : Int) := of_decide_eq_true (by with_reducible assumption)
                      have q98 : x21_2 < (t437.size : Int) := of_decide_eq_true (by with_reducible assumption)
                      have hx98 := bt_at t437 x21_2
                      replace p98 := eq_true p98
                      replace q98 := eq_true q98
                      go_wp2
                      repeat (go_quiet (fail); try go_wp2)
                      go_roundg kj54
                      case measure => have := HJ13.out; have := HK2.out; have := HJ45.out; have := HJ48.out; have := HJ54.out; omega
                      case rel => exact ⟨(x19_2), (wrap64 (x20_2 + 1)), (wrap64 (x21_2 + 1)), (by first | rfl | (simp; done) | (simp [*]; done)), (by first | rfl | (simp; done) | (simp [*]; done)), (by first | rfl | (simp; done) | (simp [*]; done)), H', ⟨by have := HJ13.out; have := HK2.out; have := HJ45.out; have := HJ48.out; have := HJ54.out; omega⟩, ⟨by (with_reducible repeat (first | refine blk_drewN ?_ _ | refine blk_drew ?_ | refine blk_alloc ?_ _)); exact BK424.out⟩, ⟨by (with_reducible repeat (first | refine blk_drewN ?_ _ | refine blk_drew ?_ | refine blk_alloc ?_ _)); exact BK426.out⟩, ⟨by repeat (first | (with_reducible first | exact HB.out | apply below_alloc | apply pw_below_drewN | apply below_drew1 | refine below_set ?_ GE424.out | refine below_set ?_ GE426.out) | exact HB.out)⟩⟩
                     ·rw [if_neg c99] at H
                      have c99b0 : ((bt t437 x21_2) == 49) = false := beq_eq_false_iff_ne.mpr c99
                      have c99b1 : ((bt t437 x21_2) != 49) = true := bne_iff_ne.mpr c99
                      by_cases c100 : x21_2 > 0
                      ·rw [if_pos c100] at H
                       have c100b0 : decide (0 < x21_2) = true := decide_eq_true c100
                       clear c100
                       obtain ⟨ji102, hji102⟩ : ∃ j_ : Int, (wrap64 (x21_2 - 1)) = j_ := ⟨_, rfl⟩
                       replace H : (if 0 ≤ (ji102) then (if (ji102) < (t437.size : Int) then (if (bt t437 x21_2) = (bt t437 (ji102)) then (laws_FnDivided.l0 kj54 t421 (wrap64 (1 + t422)) t423 t427 (wrap64 (1 + t436)) t437 x19_2 x20_2 (wrap64 (x21_2 + 1))) else (laws_FnDivided.l0 kj54 t421 (wrap64 (1 + t422)) t423 t427 (wrap64 (1 + t436)) t437 x19_2 (wrap64 (x20_2 + 1)) (wrap64 (x21_2 + 1)))) else (none)) else (none)) = some r := by first | (rw [hji102] at H; exact H) | (simp only [hji102] at H ⊢; exact H)
                       have hji102w : (IntKind.i64.wrap (x21_2 - 1)) = ji102 := (i64_w _).trans hji102
                       by_cases c103 : 0 ≤ (ji102)
                       ·rw [if_pos c103] at H
                        have c103b0 : decide (0 ≤ (ji102)) = true := decide_eq_true c103
                        clear c103
                        by_cases c104 : (ji102) < (t437.size : Int)
                        ·rw [if_pos c104] at H
                         have c104b0 : decide ((ji102) < (t437.size : Int)) = true := decide_eq_true c104
                         clear c104
                         by_cases c106 : (bt t437 x21_2) = (bt t437 (ji102))
                         ·rw [if_pos c106] at H
                          have c106b0 : ((bt t437 x21_2) == (bt t437 (ji102))) = true := beq_iff_eq.mpr c106
                          have c106b1 : ((bt t437 x21_2) != (bt t437 (ji102))) = false := bne_eq_false_iff_eq.mpr c106
                          clear c106
                          have H' := Aside0.mk H
                          clear H
                          have p98 : 0 ≤ (x21_2 : Int) := of_decide_eq_true (by with_reducible assumption)
                          have q98 : x21_2 < (t437.size : Int) := of_decide_eq_true (by with_reducible assumption)
                          have hx98 := bt_at t437 x21_2
                          replace p98 := eq_true p98
                          replace q98 := eq_true q98
                          have p101 : 0 ≤ (x21_2 : Int) := of_decide_eq_true (by with_reducible assumption)
                          have q101 : x21_2 < (t437.size : Int) := of_decide_eq_true (by with_reducible assumption)
                          have hx101 := bt_at t437 x21_2
                          replace p101 := eq_true p101
                          replace q101 := eq_true q101
                          have p105 : 0 ≤ ((ji102) : Int) := of_decide_eq_true (by with_reducible assumption)
                          have q105 : (ji102) < (t437.size : Int) := of_decide_eq_true (by with_reducible assumption)
                          have hx105 := bt_at t437 (ji102)
                          replace p105 := eq_true p105
                          replace q105 := eq_true q105
                          go_wp2
                          repeat (go_quiet (fail); try go_wp2)
                          go_roundg kj54
                          case measure => have := HJ13.out; have := HK2.out; have := HJ45.out; have := HJ48.out; have := HJ54.out; omega
                          case rel => exact ⟨(x19_2), (x20_2), (wrap64 (x21_2 + 1)), (by first | rfl | (simp; done) | (simp [*]; done)), (by first | rfl | (simp; done) | (simp [*]; done)), (by first | rfl | (simp; done) | (simp [*]; done)), H', ⟨by have := HJ13.out; have := HK2.out; have := HJ45.out; have := HJ48.out; have := HJ54.out; omega⟩, ⟨by (with_reducible repeat (first | refine blk_drewN ?_ _ | refine blk_drew ?_ | refine blk_alloc ?_ _)); exact BK424.out⟩, ⟨by (with_reducible repeat (first | refine blk_drewN ?_ _ | refine blk_drew ?_ | refine blk_alloc ?_ _)); exact BK426.out⟩, ⟨by repeat (first | (with_reducible first | exact HB.out | apply below_alloc | apply pw_below_drewN | apply below_drew1 | refine below_set ?_ GE424.out | refine below_set ?_ GE426.out) | exact HB.out)⟩⟩
                         ·rw [if_neg c106] at H
                          have c106b0 : ((bt t437 x21_2) == (bt t437 (ji102))) = false := beq_eq_false_iff_ne.mpr c106
                          have c106b1 : ((bt t437 x21_2) != (bt t437 (ji102))) = true := bne_iff_ne.mpr c106
                          have H' := Aside0.mk H
                          clear H
                          have p98 : 0 ≤ (x21_2 : Int) := of_decide_eq_true (by with_reducible assumption)
                          have q98 : x21_2 < (t437.size : Int) := of_decide_eq_true (by with_reducible assumption)
                          have hx98 := bt_at t437 x21_2
                          replace p98 := eq_true p98
                          replace q98 := eq_true q98
                          have p101 : 0 ≤ (x21_2 : Int) := of_decide_eq_true (by with_reducible assumption)
                          have q101 : x21_2 < (t437.size : Int) := of_decide_eq_true (by with_reducible assumption)
                          have hx101 := bt_at t437 x21_2
                          replace p101 := eq_true p101
                          replace q101 := eq_true q101
                          have p105 : 0 ≤ ((ji102) : Int) := of_decide_eq_true (by with_reducible assumption)
                          have q105 : (ji102) < (t437.size : Int) := of_decide_eq_true (by with_reducible assumption)
                          have hx105 := bt_at t437 (ji102)
                          replace p105 := eq_true p105
                          replace q105 := eq_true q105
                          go_wp2
                          repeat (go_quiet (fail); try go_wp2)
                          go_roundg kj54
                          case measure => have := HJ13.out; have := HK2.out; have := HJ45.out; have := HJ48.out; have := HJ54.out; omega
                          case rel => exact ⟨(x19_2), (wrap64 (x20_2 + 1)), (wrap64 (x21_2 + 1)), (by first | rfl | (simp; done) | (simp [*]; done)), (by first | rfl | (simp; done) | (simp [*]; done)), (by first | rfl | (simp; done) | (simp [*]; done)), H', ⟨by have := HJ13.out; have := HK2.out; have := HJ45.out; have := HJ48.out; have := HJ54.out; omega⟩, ⟨by (with_reducible repeat (first | refine blk_drewN ?_ _ | refine blk_drew ?_ | refine blk_alloc ?_ _)); exact BK424.out⟩, ⟨by (with_reducible repeat (first | refine blk_drewN ?_ _ | refine blk_drew ?_ | refine blk_alloc ?_ _)); exact BK426.out⟩, ⟨by repeat (first | (with_reducible first | exact HB.out | apply below_alloc | apply pw_below_drewN | apply below_drew1 | refine below_set ?_ GE424.out | refine below_set ?_ GE426.out) | exact HB.out)⟩⟩
                        ·rw [if_neg c104] at H
                         exact absurd H (by simp)
                       ·rw [if_neg c103] at H
                        exact absurd H (by simp)
                      ·rw [if_neg c100] at H
                       have c100b0 : decide (0 < x21_2) = false := decide_eq_false c100
                       clear c100
                       have H' := Aside0.mk H
                       clear H
                       have p98 : 0 ≤ (x21_2 : Int) := of_decide_eq_true (by with_reducible assumption)
                       have q98 : x21_2 < (t437.size : Int) := of_decide_eq_true (by with_reducible assumption)
                       have hx98 := bt_at t437 x21_2
                       replace p98 := eq_true p98
                       replace q98 := eq_true q98
                       go_wp2
                       repeat (go_quiet (fail); try go_wp2)
                       go_roundg kj54
                       case measure => have := HJ13.out; have := HK2.out; have := HJ45.out; have := HJ48.out; have := HJ54.out; omega
                       case rel => exact ⟨(x19_2), (x20_2), (wrap64 (x21_2 + 1)), (by first | rfl | (simp; done) | (simp [*]; done)), (by first | rfl | (simp; done) | (simp [*]; done)), (by first | rfl | (simp; done) | (simp [*]; done)), H', ⟨by have := HJ13.out; have := HK2.out; have := HJ45.out; have := HJ48.out; have := HJ54.out; omega⟩, ⟨by (with_reducible repeat (first | refine blk_drewN ?_ _ | refine blk_drew ?_ | refine blk_alloc ?_ _)); exact BK424.out⟩, ⟨by (with_reducible repeat (first | refine blk_drewN ?_ _ | refine blk_drew ?_ | refine blk_alloc ?_ _)); exact BK426.out⟩, ⟨by repeat (first | (with_reducible first | exact HB.out | apply below_alloc | apply pw_below_drewN | apply below_drew1 | refine below_set ?_ GE424.out | refine below_set ?_ GE426.out) | exact HB.out)⟩⟩
                    ·rw [if_neg c97] at H
                     exact absurd H (by simp)
                   ·rw [if_neg c96] at H
                    exact absurd H (by simp)
                  ·rw [if_neg c95] at H
                   have c95b0 : (x21_2 == 0) = false := beq_eq_false_iff_ne.mpr c95
                   have c95b1 : (x21_2 != 0) = true := bne_iff_ne.mpr c95
                   by_cases c107 : x21_2 > 0
                   ·rw [if_pos c107] at H
                    have c107b0 : decide (0 < x21_2) = true := decide_eq_true c107
                    clear c107
                    by_cases c108 : 0 ≤ x21_2
                    ·rw [if_pos c108] at H
                     have c108b0 : decide (0 ≤ x21_2) = true := decide_eq_true c108
                     clear c108
                     by_cases c109 : x21_2 < (t437.size : Int)
                     ·rw [if_pos c109] at H
                      have c109b0 : decide (x21_2 < (t437.size : Int)) = true := decide_eq_true c109
                      clear c109
                      obtain ⟨ji111, hji111⟩ : ∃ j_ : Int, (wrap64 (x21_2 - 1)) = j_ := ⟨_, rfl⟩
                      replace H : (if 0 ≤ (ji111) then (if (ji111) < (t437.size : Int) then (if (bt t437 x21_2) = (bt t437 (ji111)) then (laws_FnDivided.l0 kj54 t421 (wrap64 (1 + t422)) t423 t427 (wrap64 (1 + t436)) t437 x19_2 x20_2 (wrap64 (x21_2 + 1))) else (laws_FnDivided.l0 kj54 t421 (wrap64 (1 + t422)) t423 t427 (wrap64 (1 + t436)) t437 x19_2 (wrap64 (x20_2 + 1)) (wrap64 (x21_2 + 1)))) else (none)) else (none)) = some r := by first | (rw [hji111] at H; exact H) | (simp only [hji111] at H ⊢; exact H)
                      have hji111w : (IntKind.i64.wrap (x21_2 - 1)) = ji111 := (i64_w _).trans hji111
                      by_cases c112 : 0 ≤ (ji111)
                      ·rw [if_pos c112] at H
                       have c112b0 : decide (0 ≤ (ji111)) = true := decide_eq_true c112
                       clear c112
                       by_cases c113 : (ji111) < (t437.size : Int)
                       ·rw [if_pos c113] at H
                        have c113b0 : decide ((ji111) < (t437.size : Int)) = true := decide_eq_true c113
                        clear c113
                        by_cases c115 : (bt t437 x21_2) = (bt t437 (ji111))
                        ·rw [if_pos c115] at H
                         have c115b0 : ((bt t437 x21_2) == (bt t437 (ji111))) = true := beq_iff_eq.mpr c115
                         have c115b1 : ((bt t437 x21_2) != (bt t437 (ji111))) = false := bne_eq_false_iff_eq.mpr c115
                         clear c115
                         have H' := Aside0.mk H
                         clear H
                         have p110 : 0 ≤ (x21_2 : Int) := of_decide_eq_true (by with_reducible assumption)
                         have q110 : x21_2 < (t437.size : Int) := of_decide_eq_true (by with_reducible assumption)
                         have hx110 := bt_at t437 x21_2
                         replace p110 := eq_true p110
                         replace q110 := eq_true q110
                         have p114 : 0 ≤ ((ji111) : Int) := of_decide_eq_true (by with_reducible assumption)
                         have q114 : (ji111) < (t437.size : Int) := of_decide_eq_true (by with_reducible assumption)
                         have hx114 := bt_at t437 (ji111)
                         replace p114 := eq_true p114
                         replace q114 := eq_true q114
                         go_wp2
                         repeat (go_quiet (fail); try go_wp2)
                         go_roundg kj54
                         case measure => have := HJ13.out; have := HK2.out; have := HJ45.out; have := HJ48.out; have := HJ54.out; omega
                         case rel => exact ⟨(x19_2), (x20_2), (wrap64 (x21_2 + 1)), (by first | rfl | (simp; done) | (simp [*]; done)), (by first | rfl | (simp; done) | (simp [*]; done)), (by first | rfl | (simp; done) | (simp [*]; done)), H', ⟨by have := HJ13.out; have := HK2.out; have := HJ45.out; have := HJ48.out; have := HJ54.out; omega⟩, ⟨by (with_reducible repeat (first | refine blk_drewN ?_ _ | refine blk_drew ?_ | refine blk_alloc ?_ _)); exact BK424.out⟩, ⟨by (with_reducible repeat (first | refine blk_drewN ?_ _ | refine blk_drew ?_ | refine blk_alloc ?_ _)); exact BK426.out⟩, ⟨by repeat (first | (with_reducible first | exact HB.out | apply below_alloc | apply pw_below_drewN | apply below_drew1 | refine below_set ?_ GE424.out | refine below_set ?_ GE426.out) | exact HB.out)⟩⟩
                        ·rw [if_neg c115] at H
                         have c115b0 : ((bt t437 x21_2) == (bt t437 (ji111))) = false := beq_eq_false_iff_ne.mpr c115
                         have c115b1 : ((bt t437 x21_2) != (bt t437 (ji111))) = true := bne_iff_ne.mpr c115
                         have H' := Aside0.mk H
                         clear H
                         have p110 : 0 ≤ (x21_2 : Int) := of_decide_eq_true (by with_reducible assumption)
                         have q110 : x21_2 < (t437.size : Int) := of_decide_eq_true (by with_reducible assumption)
                         have hx110 := bt_at t437 x21_2
                         replace p110 := eq_true p110
                         replace q110 := eq_true q110
                         have p114 : 0 ≤ ((ji111) : Int) := of_decide_eq_true (by with_reducible assumption)
                         have q114 : (ji111) < (t437.size : Int) := of_decide_eq_true (by with_reducible assumption)
                         have hx114 := bt_at t437 (ji111)
                         replace p114 := eq_true p114
                         replace q114 := eq_true q114
                         go_wp2
                         repeat (go_quiet (fail); try go_wp2)
                         go_roundg kj54
                         case measure => have := HJ13.out; have := HK2.out; have := HJ45.out; have := HJ48.out; have := HJ54.out; omega
                         case rel => exact ⟨(x19_2), (wrap64 (x20_2 + 1)), (wrap64 (x21_2 + 1)), (by first | rfl | (simp; done) | (simp [*]; done)), (by first | rfl | (simp; done) | (simp [*]; done)), (by first | rfl | (simp; done) | (simp [*]; done)), H', ⟨by have := HJ13.out; have := HK2.out; have := HJ45.out; have := HJ48.out; have := HJ54.out; omega⟩, ⟨by (with_reducible repeat (first | refine blk_drewN ?_ _ | refine blk_drew ?_ | refine blk_alloc ?_ _)); exact BK424.out⟩, ⟨by (with_reducible repeat (first | refine blk_drewN ?_ _ | refine blk_drew ?_ | refine blk_alloc ?_ _)); exact BK426.out⟩, ⟨by repeat (first | (with_reducible first | exact HB.out | apply below_alloc | apply pw_below_drewN | apply below_drew1 | refine below_set ?_ GE424.out | refine below_set ?_ GE426.out) | exact HB.out)⟩⟩
                       ·rw [if_neg c113] at H
                        exact absurd H (by simp)
                      ·rw [if_neg c112] at H
                       exact absurd H (by simp)
                     ·rw [if_neg c109] at H
                      exact absurd H (by simp)
                    ·rw [if_neg c108] at H
                     exact absurd H (by simp)
                   ·rw [if_neg c107] at H
                    have c107b0 : decide (0 < x21_2) = false := decide_eq_false c107
                    clear c107
                    have H' := Aside0.mk H
                    clear H
                    go_wp2
                    repeat (go_quiet (fail); try go_wp2)
                    go_roundg kj54
                    case measure => have := HJ13.out; have := HK2.out; have := HJ45.out; have := HJ48.out; have := HJ54.out; omega
                    case rel => exact ⟨(x19_2), (x20_2), (wrap64 (x21_2 + 1)), (by first | rfl | (simp; done) | (simp [*]; done)), (by first | rfl | (simp; done) | (simp [*]; done)), (by first | rfl | (simp; done) | (simp [*]; done)), H', ⟨by have := HJ13.out; have := HK2.out; have := HJ45.out; have := HJ48.out; have := HJ54.out; omega⟩, ⟨by (with_reducible repeat (first | refine blk_drewN ?_ _ | refine blk_drew ?_ | refine blk_alloc ?_ _)); exact BK424.out⟩, ⟨by (with_reducible repeat (first | refine blk_drewN ?_ _ | refine blk_drew ?_ | refine blk_alloc ?_ _)); exact BK426.out⟩, ⟨by repeat (first | (with_reducible first | exact HB.out | apply below_alloc | apply pw_below_drewN | apply below_drew1 | refine below_set ?_ GE424.out | refine below_set ?_ GE426.out) | exact HB.out)⟩⟩
              ·rw [if_neg c54] at H
               have c54b0 : ((bt t427 x21_2) == x23_48) = false := beq_eq_false_iff_ne.mpr c54
               have c54b1 : ((bt t427 x21_2) != x23_48) = true := bne_iff_ne.mpr c54
               obtain rfl := Option.some.inj H
               have p53 : 0 ≤ (x21_2 : Int) := of_decide_eq_true (by with_reducible assumption)
               have q53 : x21_2 < (t427.size : Int) := of_decide_eq_true (by with_reducible assumption)
               have hx53 := bt_at t427 x21_2
               replace p53 := eq_true p53
               replace q53 := eq_true q53
               go_wp2
               repeat (go_quiet (fail); try go_wp2)
               go_ret
               exact ⟨by first | rfl | (simp [errW_none, errW_some] <;> rfl) | (simp [*, errW_none, errW_some] <;> rfl), by repeat (first | (with_reducible first | exact HB.out | apply below_alloc | apply pw_below_drewN | apply below_drew1 | refine below_set ?_ GE424.out | refine below_set ?_ GE426.out) | exact HB.out)⟩
             ·rw [if_neg c52] at H
              exact absurd H (by simp)
            ·rw [if_neg c51] at H
             exact absurd H (by simp)
       ·rw [if_neg c44] at H
        have c44b0 : decide (x21_2 < (t421.size : Int)) = false := decide_eq_false c44
        clear c44
        by_cases c116 : (wrap64 (1 + t436)) = 0
        ·rw [if_pos c116] at H
         exact absurd H (by simp)
        ·rw [if_neg c116] at H
         have c116b0 : ((wrap64 (1 + t436)) == 0) = false := beq_eq_false_iff_ne.mpr c116
         have c116b1 : ((wrap64 (1 + t436)) != 0) = true := bne_iff_ne.mpr c116
         obtain rfl := Option.some.inj H
         go_wp2
         repeat (go_quiet (fail); try go_wp2)
         go_ret
         exact ⟨by first | rfl | (simp [errW_none, errW_some] <;> rfl) | (simp [*, errW_none, errW_some] <;> rfl), by repeat (first | (with_reducible first | exact HB.out | apply below_alloc | apply pw_below_drewN | apply below_drew1 | refine below_set ?_ GE424.out | refine below_set ?_ GE426.out) | exact HB.out)⟩

/-- THE ONE PURE STATEMENT of laws_FnDivided: yours. -/
def laws_FnDivided.Pure : Prop := ∀ (l0 : List Int) (l1 : List Int), l0.length ≤ maxLen → l0.length * 1 ≤ 140737488351232 → (∀ x ∈ l0, (Lit.int .u8 x).wf = true) → l1.length ≤ maxLen → l1.length * 1 ≤ 140737488351232 → (∀ x ∈ l1, (Lit.int .u8 x).wf = true) → ∃ k, laws_FnDivided.f k l0 l1 = some true
theorem laws_FnDivided.walk (P : laws_FnDivided.Pure) (a0 : Option Addr) (len0 cap0 : Nat) (z0 : List Int) (a1 : Option Addr) (len1 cap1 : Nat) (z1 : List Int) (w : World) (w0 : (a0 = none ∧ len0 = 0 ∧ cap0 = 0 ∧ z0 = []) ∨ ∃ x, a0 = some x ∧ len0 ≤ cap0 ∧ cap0 ≤ maxLen ∧ z0.length = cap0 ∧ (∀ i, i < z0.length → w.cell? (x.add i) = some (.int .u8 (z0.getD i 0))) ∧ ∀ n ∈ z0, (Lit.int .u8 n).wf = true) (y0 : len0 * 1 ≤ 140737488351232) (w1 : (a1 = none ∧ len1 = 0 ∧ cap1 = 0 ∧ z1 = []) ∨ ∃ x, a1 = some x ∧ len1 ≤ cap1 ∧ cap1 ≤ maxLen ∧ z1.length = cap1 ∧ (∀ i, i < z1.length → w.cell? (x.add i) = some (.int .u8 (z1.getD i 0))) ∧ ∀ n ∈ z1, (Lit.int .u8 n).wf = true) (y1 : len1 * 1 ≤ 140737488351232) :
  Calls Tryd.prog 14 #[.slice a0 len0 cap0, .slice a1 len1 cap1] w fun e w' => e = .returned (.bool true) ∧ Below w.heap.size w w' := by
 obtain ⟨l0, rfl, hr0, hm0, hw0, hc0⟩ := ReadsInt.ofRowC w0
 obtain ⟨l1, rfl, hr1, hm1, hw1, hc1⟩ := ReadsInt.ofRowC w1
 obtain ⟨k, h⟩ := P l0 l1 hm0 y0 hw0 hm1 y1 hw1
 refine (laws_FnDivided.calls k _ _ l0 _ _ l1 true w (Kd.C_of_reads (d := (0 : Int)) (h1 := fun _ => rfl) hr0) hc0 (Kd.C_of_reads (d := (0 : Int)) (h1 := fun _ => rfl) hr1) hc1 h).mono ?_
 rintro e w' ⟨rfl, hd⟩
 exact ⟨rfl, hd⟩

end Go.Proofs.YtmipelgjmmgmnaaDoor.Pa

