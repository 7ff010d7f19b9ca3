-- Written for this claim by a program of this session.
import Derived.Test.YthgmolenlpagkaaFPax0
import Derived.Test.YthgmolenlpagkaaFKFPaxf4
import Derived.Test.YthgmolenlpagkaaFCoreF5
import Derived.Test.YthgmolenlpagkaaFCoreF2
import Derived.Test.YthgmolenlpagkaaFKFPaxf9
namespace Go.Proofs.Ythgmolenlpagkaa.Pa
open Go.RowKit Go.Proofs.YthgmolenlpagkaaW.PrintWords Go.Proofs.YthgmolenlpagkaaW.PrintLast Go.Proofs.YthgmolenlpagkaaW.PrintMore
attribute [local go_sem] max2_int min2_int max_two min_two max_three min_three max_four min_four   -- for this text's walks alone
set_option linter.unusedVariables false
set_option linter.unusedSimpArgs false

/-! ### laws_FnTight: function 3 -/
mutual
def laws_FnTight.j0 : Nat → List Int → Int → List (List Int) → List Int → Bool → Bool → Int → List (S36) → Option (Bool)
 | 0, _, _, _, _, _, _, _, _ => none
 | k + 1, x1, x6, x7, x9, x10, x47, x241000, x241001 => if x47 = true then (some false) else (if x10 = true then (laws_FnTight.l0 k x9 0 0 x241000 x241001) else (if (x7.length : Int) = x6 then (laws_FnTight.l1 k x1 x6 x7 0 x241000 x241001) else (some false)))
def laws_FnTight.l0 : Nat → List Int → Int → Int → Int → List (S36) → Option (Bool)
 | 0, _, _, _, _, _ => none
 | k + 1, x9, x11, x12, x241000, x241001 => if x12 < (x9.length : Int) then (if 0 ≤ x12 then (if (rd x9 x12) < 0 then (some false) else (if (rd x9 x12) ≥ (x241001.length : Int) then (some false) else (if 0 ≤ (rd x9 x12) then (if (rd x9 x12) < (x241001.length : Int) then (if (x9.length : Int) = 0 then (none) else (if 0 ≤ (Int.tmod (wrap64 (x12 + 1)) (x9.length : Int)) then (if (Int.tmod (wrap64 (x12 + 1)) (x9.length : Int)) < (x9.length : Int) then (if 0 ≤ (rd x9 (Int.tmod (wrap64 (x12 + 1)) (x9.length : Int))) then (if (rd x9 (Int.tmod (wrap64 (x12 + 1)) (x9.length : Int))) < (x241001.length : Int) then (if ((rd_T36 x241001 (rd x9 x12)).f1) = ((rd_T36 x241001 (rd x9 (Int.tmod (wrap64 (x12 + 1)) (x9.length : Int)))).f0) then (laws_FnTight.l0 k x9 (wrap64 (x11 + ((rd_T36 x241001 (rd x9 x12)).f2))) (wrap64 (x12 + 1)) x241000 x241001) else (some false)) else (none)) else (none)) else (none)) else (none))) else (none)) else (none)))) else (none)) else (if x11 < 0 then (some (decide ((x9.length : Int) ≥ 2))) else (some false))
def laws_FnTight.l1 : Nat → List Int → Int → List (List Int) → Int → Int → List (S36) → Option (Bool)
 | 0, _, _, _, _, _, _ => none
 | k + 1, x1, x6, x7, x13, x241000, x241001 => if x13 < x6 then (if 0 ≤ x13 then (if x13 < (x7.length : Int) then (if ((rd_L6 x7 x13).length : Int) = x6 then (if x13 < ((rd_L6 x7 x13).length : Int) then (laws_FnTight.j3 k x1 x6 x7 x13 ((rd (rd_L6 x7 x13) x13) != 0) x241000 x241001) else (none)) else (laws_FnTight.j3 k x1 x6 x7 x13 true x241000 x241001)) else (none)) else (none)) else (laws_FnTight.l4 k x1 x6 x7 0 x241000 x241001)
def laws_FnTight.j3 : Nat → List Int → Int → List (List Int) → Int → Bool → Int → List (S36) → Option (Bool)
 | 0, _, _, _, _, _, _, _ => none
 | k + 1, x1, x6, x7, x13, x138, x241000, x241001 => if x138 = true then (some false) else (laws_FnTight.l2 k x1 x6 x7 x13 0 x241000 x241001)
def laws_FnTight.l2 : Nat → List Int → Int → List (List Int) → Int → Int → Int → List (S36) → Option (Bool)
 | 0, _, _, _, _, _, _, _ => none
 | k + 1, x1, x6, x7, x13, x14, x241000, x241001 => if x14 < x6 then (laws_FnTight.l3 k x1 x6 x7 x13 x14 0 x241000 x241001) else (laws_FnTight.l1 k x1 x6 x7 (wrap64 (x13 + 1)) x241000 x241001)
def laws_FnTight.l3 : Nat → List Int → Int → List (List Int) → Int → Int → Int → Int → List (S36) → Option (Bool)
 | 0, _, _, _, _, _, _, _, _ => none
 | k + 1, x1, x6, x7, x13, x14, x15, x241000, x241001 => if x15 < x6 then (if 0 ≤ x13 then (if x13 < (x7.length : Int) then (if 0 ≤ x15 then (if x15 < ((rd_L6 x7 x13).length : Int) then (if (rd (rd_L6 x7 x13) x15) < 1000000 then (if x15 < (x7.length : Int) then (if 0 ≤ x14 then (if x14 < ((rd_L6 x7 x15).length : Int) then (if (rd (rd_L6 x7 x15) x14) < 1000000 then (if x14 < ((rd_L6 x7 x13).length : Int) then (if (rd (rd_L6 x7 x13) x14) > (wrap64 ((rd (rd_L6 x7 x13) x15) + (rd (rd_L6 x7 x15) x14))) then (some false) else (laws_FnTight.l3 k x1 x6 x7 x13 x14 (wrap64 (x15 + 1)) x241000 x241001)) else (none)) else (laws_FnTight.l3 k x1 x6 x7 x13 x14 (wrap64 (x15 + 1)) x241000 x241001)) else (none)) else (none)) else (none)) else (laws_FnTight.l3 k x1 x6 x7 x13 x14 (wrap64 (x15 + 1)) x241000 x241001)) else (none)) else (none)) else (none)) else (none)) else (laws_FnTight.l2 k x1 x6 x7 x13 (wrap64 (x14 + 1)) x241000 x241001)
def laws_FnTight.l4 : Nat → List Int → Int → List (List Int) → Int → Int → List (S36) → Option (Bool)
 | 0, _, _, _, _, _, _ => none
 | k + 1, x1, x6, x7, x16, x241000, x241001 => if x16 < (x241001.length : Int) then (if 0 ≤ x16 then (if 0 ≤ ((rd_T36 x241001 x16).f0) then (if ((rd_T36 x241001 x16).f0) < (x7.length : Int) then (if 0 ≤ ((rd_T36 x241001 x16).f1) then (if ((rd_T36 x241001 x16).f1) < ((rd_L6 x7 ((rd_T36 x241001 x16).f0)).length : Int) then (if (rd (rd_L6 x7 ((rd_T36 x241001 x16).f0)) ((rd_T36 x241001 x16).f1)) > ((rd_T36 x241001 x16).f2) then (some false) else (laws_FnTight.l4 k x1 x6 x7 (wrap64 (x16 + 1)) x241000 x241001)) else (none)) else (none)) else (none)) else (none)) else (none)) else ((laws_r8At.f x1 0 x6).bind fun t276 => ((impl_LatestTimes.f k x241000 x241001 t276).bind fun bt277 => (laws_FnTight.l5 k x6 x7 t276 bt277.1 bt277.2 true 0 x241000 x241001)))
def laws_FnTight.l5 : Nat → Int → List (List Int) → Int → List Int → Bool → Bool → Int → Int → List (S36) → Option (Bool)
 | 0, _, _, _, _, _, _, _, _, _ => none
 | k + 1, x6, x7, x17, x18, x19, x20, x21, x241000, x241001 => if x21 < x6 then (if x20 = true then (if 0 ≤ x17 then (if x17 < (x7.length : Int) then (if 0 ≤ x21 then (if x21 < ((rd_L6 x7 x17).length : Int) then (laws_FnTight.l5 k x6 x7 x17 x18 x19 (decide ((rd (rd_L6 x7 x17) x21) < 1000000)) (wrap64 (x21 + 1)) x241000 x241001) else (none)) else (none)) else (none)) else (none)) else (laws_FnTight.l5 k x6 x7 x17 x18 x19 false (wrap64 (x21 + 1)) x241000 x241001)) else (if (x19 != x20) = true then (some false) else (if x19 = true then (laws_FnTight.l6 k x6 x7 x17 x18 0 x241000 x241001) else (some true)))
def laws_FnTight.l6 : Nat → Int → List (List Int) → Int → List Int → Int → Int → List (S36) → Option (Bool)
 | 0, _, _, _, _, _, _, _ => none
 | k + 1, x6, x7, x17, x18, x22, x241000, x241001 => if x22 < x6 then (if 0 ≤ x22 then (if x22 < (x18.length : Int) then (if 0 ≤ x17 then (if x17 < (x7.length : Int) then (if x22 < ((rd_L6 x7 x17).length : Int) then (if (rd x18 x22) = (rd (rd_L6 x7 x17) x22) then (laws_FnTight.l6 k x6 x7 x17 x18 (wrap64 (x22 + 1)) x241000 x241001) else (some false)) else (none)) else (none)) else (none)) else (none)) else (none)) else ((impl_IsTiming.f x241000 x241001 x18).bind fun t286 => (some t286))
end
def laws_FnTight.f (k : Nat) (l0 : List Int) (l1 : List Int) : Option (Bool) := (laws_r8Long.f l0 l1).bind fun t235 => (if t235 = true then (some true) else ((spec_R8Diagram.f k l0).bind fun bt236 => ((impl_TightestBounds.f k bt236.1 bt236.2).bind fun bt241 => ((impl_FallingRing.f bt236.1 bt236.2).bind fun bt245 => (if (bt241.2 == bt245.2) = true then (laws_FnTight.j0 k l1 bt236.1 bt241.1 bt245.1 bt245.2 true bt236.1 bt236.2) else ((impl_ValidDiagram.f bt236.1 bt236.2).bind fun t249 => (laws_FnTight.j0 k l1 bt236.1 bt241.1 bt245.1 bt245.2 (!t249) bt236.1 bt236.2)))))))
theorem laws_FnTight.mono_l : ∀ k, (∀ y0 y1 y2 y3 y4 y5 y6 y7, LeO (laws_FnTight.j0 k y0 y1 y2 y3 y4 y5 y6 y7) (laws_FnTight.j0 (k + 1) y0 y1 y2 y3 y4 y5 y6 y7)) ∧ (∀ y0 y1 y2 y3 y4, LeO (laws_FnTight.l0 k y0 y1 y2 y3 y4) (laws_FnTight.l0 (k + 1) y0 y1 y2 y3 y4)) ∧ (∀ y0 y1 y2 y3 y4 y5, LeO (laws_FnTight.l1 k y0 y1 y2 y3 y4 y5) (laws_FnTight.l1 (k + 1) y0 y1 y2 y3 y4 y5)) ∧ (∀ y0 y1 y2 y3 y4 y5 y6, LeO (laws_FnTight.j3 k y0 y1 y2 y3 y4 y5 y6) (laws_FnTight.j3 (k + 1) y0 y1 y2 y3 y4 y5 y6)) ∧ (∀ y0 y1 y2 y3 y4 y5 y6, LeO (laws_FnTight.l2 k y0 y1 y2 y3 y4 y5 y6) (laws_FnTight.l2 (k + 1) y0 y1 y2 y3 y4 y5 y6)) ∧ (∀ y0 y1 y2 y3 y4 y5 y6 y7, LeO (laws_FnTight.l3 k y0 y1 y2 y3 y4 y5 y6 y7) (laws_FnTight.l3 (k + 1) y0 y1 y2 y3 y4 y5 y6 y7)) ∧ (∀ y0 y1 y2 y3 y4 y5, LeO (laws_FnTight.l4 k y0 y1 y2 y3 y4 y5) (laws_FnTight.l4 (k + 1) y0 y1 y2 y3 y4 y5)) ∧ (∀ y0 y1 y2 y3 y4 y5 y6 y7 y8, LeO (laws_FnTight.l5 k y0 y1 y2 y3 y4 y5 y6 y7 y8) (laws_FnTight.l5 (k + 1) y0 y1 y2 y3 y4 y5 y6 y7 y8)) ∧ (∀ y0 y1 y2 y3 y4 y5 y6, LeO (laws_FnTight.l6 k y0 y1 y2 y3 y4 y5 y6) (laws_FnTight.l6 (k + 1) y0 y1 y2 y3 y4 y5 y6))
 | 0 => ⟨fun _ _ _ _ _ _ _ _ r h => by simp [laws_FnTight.j0] at h, fun _ _ _ _ _ r h => by simp [laws_FnTight.l0] at h, fun _ _ _ _ _ _ r h => by simp [laws_FnTight.l1] at h, fun _ _ _ _ _ _ _ r h => by simp [laws_FnTight.j3] at h, fun _ _ _ _ _ _ _ r h => by simp [laws_FnTight.l2] at h, fun _ _ _ _ _ _ _ _ r h => by simp [laws_FnTight.l3] at h, fun _ _ _ _ _ _ r h => by simp [laws_FnTight.l4] at h, fun _ _ _ _ _ _ _ _ _ r h => by simp [laws_FnTight.l5] at h, fun _ _ _ _ _ _ _ r h => by simp [laws_FnTight.l6] at h⟩
 | k + 1 => by
  obtain ⟨ih0, ih1, ih2, ih3, ih4, ih5, ih6, ih7, ih8⟩ := laws_FnTight.mono_l k
  refine ⟨?_, ?_, ?_, ?_, ?_, ?_, ?_, ?_, ?_⟩
  ·intro y0 y1 y2 y3 y4 y5 y6 y7
   unfold laws_FnTight.j0
   repeat' first
   | (with_reducible exact ih0 _ _ _ _ _ _ _ _)
   | (with_reducible exact ih1 _ _ _ _ _)
   | (with_reducible exact ih2 _ _ _ _ _ _)
   | (with_reducible exact ih3 _ _ _ _ _ _ _)
   | (with_reducible exact ih4 _ _ _ _ _ _ _)
   | (with_reducible exact ih5 _ _ _ _ _ _ _ _)
   | (with_reducible exact ih6 _ _ _ _ _ _)
   | (with_reducible exact ih7 _ _ _ _ _ _ _ _ _)
   | (with_reducible exact ih8 _ _ _ _ _ _ _)
   | (with_reducible exact impl_LatestTimes.mono _ _ _ _)
   | (with_reducible exact impl_TightestBounds.mono _ _ _)
   | (with_reducible exact spec_R8Diagram.mono _ _)
   | (with_reducible exact LeO.refl _)
   | (with_reducible exact LeO.none _)
   | (with_reducible refine LeO.ite ?_ ?_)
   | (with_reducible refine LeO.bind ?_ (fun _ => ?_))
   | exact ih0 _ _ _ _ _ _ _ _
   | exact ih1 _ _ _ _ _
   | exact ih2 _ _ _ _ _ _
   | exact ih3 _ _ _ _ _ _ _
   | exact ih4 _ _ _ _ _ _ _
   | exact ih5 _ _ _ _ _ _ _ _
   | exact ih6 _ _ _ _ _ _
   | exact ih7 _ _ _ _ _ _ _ _ _
   | exact ih8 _ _ _ _ _ _ _
   | exact impl_LatestTimes.mono _ _ _ _
   | exact impl_TightestBounds.mono _ _ _
   | exact spec_R8Diagram.mono _ _
   | exact LeO.none _
   | refine LeO.ite ?_ ?_
   | refine LeO.bind ?_ (fun _ => ?_)
  ·intro y0 y1 y2 y3 y4
   unfold laws_FnTight.l0
   repeat' first
   | (with_reducible exact ih0 _ _ _ _ _ _ _ _)
   | (with_reducible exact ih1 _ _ _ _ _)
   | (with_reducible exact ih2 _ _ _ _ _ _)
   | (with_reducible exact ih3 _ _ _ _ _ _ _)
   | (with_reducible exact ih4 _ _ _ _ _ _ _)
   | (with_reducible exact ih5 _ _ _ _ _ _ _ _)
   | (with_reducible exact ih6 _ _ _ _ _ _)
   | (with_reducible exact ih7 _ _ _ _ _ _ _ _ _)
   | (with_reducible exact ih8 _ _ _ _ _ _ _)
   | (with_reducible exact impl_LatestTimes.mono _ _ _ _)
   | (with_reducible exact impl_TightestBounds.mono _ _ _)
   | (with_reducible exact spec_R8Diagram.mono _ _)
   | (with_reducible exact LeO.refl _)
   | (with_reducible exact LeO.none _)
   | (with_reducible refine LeO.ite ?_ ?_)
   | (with_reducible refine LeO.bind ?_ (fun _ => ?_))
   | exact ih0 _ _ _ _ _ _ _ _
   | exact ih1 _ _ _ _ _
   | exact ih2 _ _ _ _ _ _
   | exact ih3 _ _ _ _ _ _ _
   | exact ih4 _ _ _ _ _ _ _
   | exact ih5 _ _ _ _ _ _ _ _
   | exact ih6 _ _ _ _ _ _
   | exact ih7 _ _ _ _ _ _ _ _ _
   | exact ih8 _ _ _ _ _ _ _
   | exact impl_LatestTimes.mono _ _ _ _
   | exact impl_TightestBounds.mono _ _ _
   | exact spec_R8Diagram.mono _ _
   | exact LeO.none _
   | refine LeO.ite ?_ ?_
   | refine LeO.bind ?_ (fun _ => ?_)
  ·intro y0 y1 y2 y3 y4 y5
   unfold laws_FnTight.l1
   repeat' first
   | (with_reducible exact ih0 _ _ _ _ _ _ _ _)
   | (with_reducible exact ih1 _ _ _ _ _)
   | (with_reducible exact ih2 _ _ _ _ _ _)
   | (with_reducible exact ih3 _ _ _ _ _ _ _)
   | (with_reducible exact ih4 _ _ _ _ _ _ _)
   | (with_reducible exact ih5 _ _ _ _ _ _ _ _)
   | (with_reducible exact ih6 _ _ _ _ _ _)
   | (with_reducible exact ih7 _ _ _ _ _ _ _ _ _)
   | (with_reducible exact ih8 _ _ _ _ _ _ _)
   | (with_reducible exact impl_LatestTimes.mono _ _ _ _)
   | (with_reducible exact impl_TightestBounds.mono _ _ _)
   | (with_reducible exact spec_R8Diagram.mono _ _)
   | (with_reducible exact LeO.refl _)
   | (with_reducible exact LeO.none _)
   | (with_reducible refine LeO.ite ?_ ?_)
   | (with_reducible refine LeO.bind ?_ (fun _ => ?_))
   | exact ih0 _ _ _ _ _ _ _ _
   | exact ih1 _ _ _ _ _
   | exact ih2 _ _ _ _ _ _
   | exact ih3 _ _ _ _ _ _ _
   | exact ih4 _ _ _ _ _ _ _
   | exact ih5 _ _ _ _ _ _ _ _
   | exact ih6 _ _ _ _ _ _
   | exact ih7 _ _ _ _ _ _ _ _ _
   | exact ih8 _ _ _ _ _ _ _
   | exact impl_LatestTimes.mono _ _ _ _
   | exact impl_TightestBounds.mono _ _ _
   | exact spec_R8Diagram.mono _ _
   | exact LeO.none _
   | refine LeO.ite ?_ ?_
   | refine LeO.bind ?_ (fun _ => ?_)
  ·intro y0 y1 y2 y3 y4 y5 y6
   unfold laws_FnTight.j3
   repeat' first
   | (with_reducible exact ih0 _ _ _ _ _ _ _ _)
   | (with_reducible exact ih1 _ _ _ _ _)
   | (with_reducible exact ih2 _ _ _ _ _ _)
   | (with_reducible exact ih3 _ _ _ _ _ _ _)
   | (with_reducible exact ih4 _ _ _ _ _ _ _)
   | (with_reducible exact ih5 _ _ _ _ _ _ _ _)
   | (with_reducible exact ih6 _ _ _ _ _ _)
   | (with_reducible exact ih7 _ _ _ _ _ _ _ _ _)
   | (with_reducible exact ih8 _ _ _ _ _ _ _)
   | (with_reducible exact impl_LatestTimes.mono _ _ _ _)
   | (with_reducible exact impl_TightestBounds.mono _ _ _)
   | (with_reducible exact spec_R8Diagram.mono _ _)
   | (with_reducible exact LeO.refl _)
   | (with_reducible exact LeO.none _)
   | (with_reducible refine LeO.ite ?_ ?_)
   | (with_reducible refine LeO.bind ?_ (fun _ => ?_))
   | exact ih0 _ _ _ _ _ _ _ _
   | exact ih1 _ _ _ _ _
   | exact ih2 _ _ _ _ _ _
   | exact ih3 _ _ _ _ _ _ _
   | exact ih4 _ _ _ _ _ _ _
   | exact ih5 _ _ _ _ _ _ _ _
   | exact ih6 _ _ _ _ _ _
   | exact ih7 _ _ _ _ _ _ _ _ _
   | exact ih8 _ _ _ _ _ _ _
   | exact impl_LatestTimes.mono _ _ _ _
   | exact impl_TightestBounds.mono _ _ _
   | exact spec_R8Diagram.mono _ _
   | exact LeO.none _
   | refine LeO.ite ?_ ?_
   | refine LeO.bind ?_ (fun _ => ?_)
  ·intro y0 y1 y2 y3 y4 y5 y6
   unfold laws_FnTight.l2
   repeat' first
   | (with_reducible exact ih0 _ _ _ _ _ _ _ _)
   | (with_reducible exact ih1 _ _ _ _ _)
   | (with_reducible exact ih2 _ _ _ _ _ _)
   | (with_reducible exact ih3 _ _ _ _ _ _ _)
   | (with_reducible exact ih4 _ _ _ _ _ _ _)
   | (with_reducible exact ih5 _ _ _ _ _ _ _ _)
   | (with_reducible exact ih6 _ _ _ _ _ _)
   | (with_reducible exact ih7 _ _ _ _ _ _ _ _ _)
   | (with_reducible exact ih8 _ _ _ _ _ _ _)
   | (with_reducible exact impl_LatestTimes.mono _ _ _ _)
   | (with_reducible exact impl_TightestBounds.mono _ _ _)
   | (with_reducible exact spec_R8Diagram.mono _ _)
   | (with_reducible exact LeO.refl _)
   | (with_reducible exact LeO.none _)
   | (with_reducible refine LeO.ite ?_ ?_)
   | (with_reducible refine LeO.bind ?_ (fun _ => ?_))
   | exact ih0 _ _ _ _ _ _ _ _
   | exact ih1 _ _ _ _ _
   | exact ih2 _ _ _ _ _ _
   | exact ih3 _ _ _ _ _ _ _
   | exact ih4 _ _ _ _ _ _ _
   | exact ih5 _ _ _ _ _ _ _ _
   | exact ih6 _ _ _ _ _ _
   | exact ih7 _ _ _ _ _ _ _ _ _
   | exact ih8 _ _ _ _ _ _ _
   | exact impl_LatestTimes.mono _ _ _ _
   | exact impl_TightestBounds.mono _ _ _
   | exact spec_R8Diagram.mono _ _
   | exact LeO.none _
   | refine LeO.ite ?_ ?_
   | refine LeO.bind ?_ (fun _ => ?_)
  ·intro y0 y1 y2 y3 y4 y5 y6 y7
   unfold laws_FnTight.l3
   repeat' first
   | (with_reducible exact ih0 _ _ _ _ _ _ _ _)
   | (with_reducible exact ih1 _ _ _ _ _)
   | (with_reducible exact ih2 _ _ _ _ _ _)
   | (with_reducible exact ih3 _ _ _ _ _ _ _)
   | (with_reducible exact ih4 _ _ _ _ _ _ _)
   | (with_reducible exact ih5 _ _ _ _ _ _ _ _)
   | (with_reducible exact ih6 _ _ _ _ _ _)
   | (with_reducible exact ih7 _ _ _ _ _ _ _ _ _)
   | (with_reducible exact ih8 _ _ _ _ _ _ _)
   | (with_reducible exact impl_LatestTimes.mono _ _ _ _)
   | (with_reducible exact impl_TightestBounds.mono _ _ _)
   | (with_reducible exact spec_R8Diagram.mono _ _)
   | (with_reducible exact LeO.refl _)
   | (with_reducible exact LeO.none _)
   | (with_reducible refine LeO.ite ?_ ?_)
   | (with_reducible refine LeO.bind ?_ (fun _ => ?_))
   | exact ih0 _ _ _ _ _ _ _ _
   | exact ih1 _ _ _ _ _
   | exact ih2 _ _ _ _ _ _
   | exact ih3 _ _ _ _ _ _ _
   | exact ih4 _ _ _ _ _ _ _
   | exact ih5 _ _ _ _ _ _ _ _
   | exact ih6 _ _ _ _ _ _
   | exact ih7 _ _ _ _ _ _ _ _ _
   | exact ih8 _ _ _ _ _ _ _
   | exact impl_LatestTimes.mono _ _ _ _
   | exact impl_TightestBounds.mono _ _ _
   | exact spec_R8Diagram.mono _ _
   | exact LeO.none _
   | refine LeO.ite ?_ ?_
   | refine LeO.bind ?_ (fun _ => ?_)
  ·intro y0 y1 y2 y3 y4 y5
   unfold laws_FnTight.l4
   repeat' first
   | (with_reducible exact ih0 _ _ _ _ _ _ _ _)
   | (with_reducible exact ih1 _ _ _ _ _)
   | (with_reducible exact ih2 _ _ _ _ _ _)
   | (with_reducible exact ih3 _ _ _ _ _ _ _)
   | (with_reducible exact ih4 _ _ _ _ _ _ _)
   | (with_reducible exact ih5 _ _ _ _ _ _ _ _)
   | (with_reducible exact ih6 _ _ _ _ _ _)
   | (with_reducible exact ih7 _ _ _ _ _ _ _ _ _)
   | (with_reducible exact ih8 _ _ _ _ _ _ _)
   | (with_reducible exact impl_LatestTimes.mono _ _ _ _)
   | (with_reducible exact impl_TightestBounds.mono _ _ _)
   | (with_reducible exact spec_R8Diagram.mono _ _)
   | (with_reducible exact LeO.refl _)
   | (with_reducible exact LeO.none _)
   | (with_reducible refine LeO.ite ?_ ?_)
   | (with_reducible refine LeO.bind ?_ (fun _ => ?_))
   | exact ih0 _ _ _ _ _ _ _ _
   | exact ih1 _ _ _ _ _
   | exact ih2 _ _ _ _ _ _
   | exact ih3 _ _ _ _ _ _ _
   | exact ih4 _ _ _ _ _ _ _
   | exact ih5 _ _ _ _ _ _ _ _
   | exact ih6 _ _ _ _ _ _
   | exact ih7 _ _ _ _ _ _ _ _ _
   | exact ih8 _ _ _ _ _ _ _
   | exact impl_LatestTimes.mono _ _ _ _
   | exact impl_TightestBounds.mono _ _ _
   | exact spec_R8Diagram.mono _ _
   | exact LeO.none _
   | refine LeO.ite ?_ ?_
   | refine LeO.bind ?_ (fun _ => ?_)
  ·intro y0 y1 y2 y3 y4 y5 y6 y7 y8
   unfold laws_FnTight.l5
   repeat' first
   | (with_reducible exact ih0 _ _ _ _ _ _ _ _)
   | (with_reducible exact ih1 _ _ _ _ _)
   | (with_reducible exact ih2 _ _ _ _ _ _)
   | (with_reducible exact ih3 _ _ _ _ _ _ _)
   | (with_reducible exact ih4 _ _ _ _ _ _ _)
   | (with_reducible exact ih5 _ _ _ _ _ _ _ _)
   | (with_reducible exact ih6 _ _ _ _ _ _)
   | (with_reducible exact ih7 _ _ _ _ _ _ _ _ _)
   | (with_reducible exact ih8 _ _ _ _ _ _ _)
   | (with_reducible exact impl_LatestTimes.mono _ _ _ _)
   | (with_reducible exact impl_TightestBounds.mono _ _ _)
   | (with_reducible exact spec_R8Diagram.mono _ _)
   | (with_reducible exact LeO.refl _)
   | (with_reducible exact LeO.none _)
   | (with_reducible refine LeO.ite ?_ ?_)
   | (with_reducible refine LeO.bind ?_ (fun _ => ?_))
   | exact ih0 _ _ _ _ _ _ _ _
   | exact ih1 _ _ _ _ _
   | exact ih2 _ _ _ _ _ _
   | exact ih3 _ _ _ _ _ _ _
   | exact ih4 _ _ _ _ _ _ _
   | exact ih5 _ _ _ _ _ _ _ _
   | exact ih6 _ _ _ _ _ _
   | exact ih7 _ _ _ _ _ _ _ _ _
   | exact ih8 _ _ _ _ _ _ _
   | exact impl_LatestTimes.mono _ _ _ _
   | exact impl_TightestBounds.mono _ _ _
   | exact spec_R8Diagram.mono _ _
   | exact LeO.none _
   | refine LeO.ite ?_ ?_
   | refine LeO.bind ?_ (fun _ => ?_)
  ·intro y0 y1 y2 y3 y4 y5 y6
   unfold laws_FnTight.l6
   repeat' first
   | (with_reducible exact ih0 _ _ _ _ _ _ _ _)
   | (with_reducible exact ih1 _ _ _ _ _)
   | (with_reducible exact ih2 _ _ _ _ _ _)
   | (with_reducible exact ih3 _ _ _ _ _ _ _)
   | (with_reducible exact ih4 _ _ _ _ _ _ _)
   | (with_reducible exact ih5 _ _ _ _ _ _ _ _)
   | (with_reducible exact ih6 _ _ _ _ _ _)
   | (with_reducible exact ih7 _ _ _ _ _ _ _ _ _)
   | (with_reducible exact ih8 _ _ _ _ _ _ _)
   | (with_reducible exact impl_LatestTimes.mono _ _ _ _)
   | (with_reducible exact impl_TightestBounds.mono _ _ _)
   | (with_reducible exact spec_R8Diagram.mono _ _)
   | (with_reducible exact LeO.refl _)
   | (with_reducible exact LeO.none _)
   | (with_reducible refine LeO.ite ?_ ?_)
   | (with_reducible refine LeO.bind ?_ (fun _ => ?_))
   | exact ih0 _ _ _ _ _ _ _ _
   | exact ih1 _ _ _ _ _
   | exact ih2 _ _ _ _ _ _
   | exact ih3 _ _ _ _ _ _ _
   | exact ih4 _ _ _ _ _ _ _
   | exact ih5 _ _ _ _ _ _ _ _
   | exact ih6 _ _ _ _ _ _
   | exact ih7 _ _ _ _ _ _ _ _ _
   | exact ih8 _ _ _ _ _ _ _
   | exact impl_LatestTimes.mono _ _ _ _
   | exact impl_TightestBounds.mono _ _ _
   | exact spec_R8Diagram.mono _ _
   | exact LeO.none _
   | refine LeO.ite ?_ ?_
   | refine LeO.bind ?_ (fun _ => ?_)
set_option maxHeartbeats 8000000 in
set_option maxRecDepth 100000 in
theorem laws_FnTight.calls (k : Nat) (A0 : Option Addr) (c0 : Nat) (l0 : List Int) (A1 : Option Addr) (c1 : Nat) (l1 : List Int) (r : Bool) (w : World) (hr0 : Kd.C (Kd.int .u8) w A0 l0.length l0) (hc0 : l0.length ≤ c0) (hr1 : Kd.C (Kd.int .u8) w A1 l1.length l1) (hc1 : l1.length ≤ c1) (h : laws_FnTight.f k l0 l1 = some r) :
  Calls Try.prog 3 #[.slice A0 l0.length c0, .slice A1 l1.length c1] w fun e w' => e = .returned (.bool r) ∧ Below w.heap.size w w' := by
 have hu26 := Try.underlying26
 have HR0 := Aside0.mk hr0
 have HC0 := Aside0.mk hc0
 clear hr0 hc0
 have HR1 := Aside0.mk hr1
 have HC1 := Aside0.mk hc1
 clear hr1 hc1
 have HB := Aside0.mk (Below.refl w.heap.size w)
 have H : ((laws_r8Long.f l0 l1).bind fun t235 => (if t235 = true then (some true) else ((spec_R8Diagram.f k l0).bind fun bt236 => ((impl_TightestBounds.f k bt236.1 bt236.2).bind fun bt241 => ((impl_FallingRing.f bt236.1 bt236.2).bind fun bt245 => (if (bt241.2 == bt245.2) = true then (laws_FnTight.j0 k l1 bt236.1 bt241.1 bt245.1 bt245.2 true bt236.1 bt236.2) else ((impl_ValidDiagram.f bt236.1 bt236.2).bind fun t249 => (laws_FnTight.j0 k l1 bt236.1 bt241.1 bt245.1 bt245.2 (!t249) bt236.1 bt236.2)))))))) = some r := h
 clear h
 replace H := Option.bind_eq_some_iff.mp H
 obtain ⟨t235, A30, H⟩ := H
 replace H : (if t235 = true then (some true) else ((spec_R8Diagram.f k l0).bind fun bt236 => ((impl_TightestBounds.f k bt236.1 bt236.2).bind fun bt241 => ((impl_FallingRing.f bt236.1 bt236.2).bind fun bt245 => (if (bt241.2 == bt245.2) = true then (laws_FnTight.j0 k l1 bt236.1 bt241.1 bt245.1 bt245.2 true bt236.1 bt236.2) else ((impl_ValidDiagram.f bt236.1 bt236.2).bind fun t249 => (laws_FnTight.j0 k l1 bt236.1 bt241.1 bt245.1 bt245.2 (!t249) bt236.1 bt236.2))))))) = some r := H
 have A3 := Aside0.mk A30
 clear A30
 by_cases c4 : t235 = true
 ·subst c4
  have H1 : (some true) = some r := by rw [if_pos rfl] at H; exact H
  clear H
  have H := H1
  clear H1
  obtain rfl := Option.some.inj H
  go_enter Try.func3, Try.ntmps3
  go_wp2_with (first | (go_at_call 4; (with_reducible refine (laws_r8Long.calls _ _ l0 _ _ l1 true _ ?side1 ?side2 ?side3 ?side4 A3.out).mono ?_); (case side1 => repeat (first | exact HR0.out | (with_reducible refine Kd.C_alloc ?_ _) | (with_reducible refine Kd.C_drewN ?_ _) | (with_reducible refine Kd.C_drew ?_))); (case side2 => exact HC0.out); (case side3 => repeat (first | exact HR1.out | (with_reducible refine Kd.C_alloc ?_ _) | (with_reducible refine Kd.C_drewN ?_ _) | (with_reducible refine Kd.C_drew ?_))); (case side4 => exact HC1.out); rintro e w' ⟨rfl, ⟨nd, rfl⟩⟩; (try first | exact ⟨rfl, _, World.drewN_drewN _ _ _⟩ | exact ⟨rfl, _, Eq.trans (World.drewN_drewN _ _ _) (congrArg (World.drewN _) (Nat.add_assoc _ _ _))⟩)))
  repeat (go_quiet (first | (go_at_call 4; (with_reducible refine (laws_r8Long.calls _ _ l0 _ _ l1 true _ ?side1 ?side2 ?side3 ?side4 A3.out).mono ?_); (case side1 => repeat (first | exact HR0.out | (with_reducible refine Kd.C_alloc ?_ _) | (with_reducible refine Kd.C_drewN ?_ _) | (with_reducible refine Kd.C_drew ?_))); (case side2 => exact HC0.out); (case side3 => repeat (first | exact HR1.out | (with_reducible refine Kd.C_alloc ?_ _) | (with_reducible refine Kd.C_drewN ?_ _) | (with_reducible refine Kd.C_drew ?_))); (case side4 => exact HC1.out); rintro e w' ⟨rfl, ⟨nd, rfl⟩⟩; (try first | exact ⟨rfl, _, World.drewN_drewN _ _ _⟩ | exact ⟨rfl, _, Eq.trans (World.drewN_drewN _ _ _) (congrArg (World.drewN _) (Nat.add_assoc _ _ _))⟩))); try go_wp2_with (first | (go_at_call 4; (with_reducible refine (laws_r8Long.calls _ _ l0 _ _ l1 true _ ?side1 ?side2 ?side3 ?side4 A3.out).mono ?_); (case side1 => repeat (first | exact HR0.out | (with_reducible refine Kd.C_alloc ?_ _) | (with_reducible refine Kd.C_drewN ?_ _) | (with_reducible refine Kd.C_drew ?_))); (case side2 => exact HC0.out); (case side3 => repeat (first | exact HR1.out | (with_reducible refine Kd.C_alloc ?_ _) | (with_reducible refine Kd.C_drewN ?_ _) | (with_reducible refine Kd.C_drew ?_))); (case side4 => exact HC1.out); rintro e w' ⟨rfl, ⟨nd, rfl⟩⟩; (try first | exact ⟨rfl, _, World.drewN_drewN _ _ _⟩ | exact ⟨rfl, _, Eq.trans (World.drewN_drewN _ _ _) (congrArg (World.drewN _) (Nat.add_assoc _ _ _))⟩))))
  go_ret
  exact ⟨by first | rfl | (simp [errW_none, errW_some] <;> rfl) | (simp [*, errW_none, errW_some] <;> rfl), by repeat (first | (with_reducible first | exact HB.out | apply below_alloc | apply pw_below_drewN | apply below_drew1) | exact HB.out)⟩
 ·replace c4 := Bool.eq_false_iff.mpr c4
  subst c4
  have H1 : ((spec_R8Diagram.f k l0).bind fun bt236 => ((impl_TightestBounds.f k bt236.1 bt236.2).bind fun bt241 => ((impl_FallingRing.f bt236.1 bt236.2).bind fun bt245 => (if (bt241.2 == bt245.2) = true then (laws_FnTight.j0 k l1 bt236.1 bt241.1 bt245.1 bt245.2 true bt236.1 bt236.2) else ((impl_ValidDiagram.f bt236.1 bt236.2).bind fun t249 => (laws_FnTight.j0 k l1 bt236.1 bt241.1 bt245.1 bt245.2 (!t249) bt236.1 bt236.2)))))) = some r := by rw [if_neg (show ¬ (false = true) by decide)] at H; exact H
  clear H
  have H := H1
  clear H1
  replace H := Option.bind_eq_some_iff.mp H
  obtain ⟨⟨t236, t237⟩, A50, H⟩ := H
  replace H : ((impl_TightestBounds.f k t236 t237).bind fun bt241 => ((impl_FallingRing.f t236 t237).bind fun bt245 => (if (bt241.2 == bt245.2) = true then (laws_FnTight.j0 k l1 t236 bt241.1 bt245.1 bt245.2 true t236 t237) else ((impl_ValidDiagram.f t236 t237).bind fun t249 => (laws_FnTight.j0 k l1 t236 bt241.1 bt245.1 bt245.2 (!t249) t236 t237))))) = some r := H
  have A5 := Aside0.mk A50
  clear A50
  replace H := Option.bind_eq_some_iff.mp H
  obtain ⟨⟨t241, t244⟩, A60, H⟩ := H
  replace H : ((impl_FallingRing.f t236 t237).bind fun bt245 => (if (t244 == bt245.2) = true then (laws_FnTight.j0 k l1 t236 t241 bt245.1 bt245.2 true t236 t237) else ((impl_ValidDiagram.f t236 t237).bind fun t249 => (laws_FnTight.j0 k l1 t236 t241 bt245.1 bt245.2 (!t249) t236 t237)))) = some r := H
  have A6 := Aside0.mk A60
  clear A60
  replace H := Option.bind_eq_some_iff.mp H
  obtain ⟨⟨t245, t248⟩, A70, H⟩ := H
  replace H : (if (t244 == t248) = true then (laws_FnTight.j0 k l1 t236 t241 t245 t248 true t236 t237) else ((impl_ValidDiagram.f t236 t237).bind fun t249 => (laws_FnTight.j0 k l1 t236 t241 t245 t248 (!t249) t236 t237))) = some r := H
  have A7 := Aside0.mk A70
  clear A70
  have HC8 := Aside0.mk H
  clear H
  go_enter Try.func3, Try.ntmps3
  go_upto_region 7 with (first | (go_at_call 4; (with_reducible refine (laws_r8Long.calls _ _ l0 _ _ l1 false _ ?side1 ?side2 ?side3 ?side4 A3.out).mono ?_); (case side1 => repeat (first | exact HR0.out | (with_reducible refine Kd.C_alloc ?_ _) | (with_reducible refine Kd.C_drewN ?_ _) | (with_reducible refine Kd.C_drew ?_))); (case side2 => exact HC0.out); (case side3 => repeat (first | exact HR1.out | (with_reducible refine Kd.C_alloc ?_ _) | (with_reducible refine Kd.C_drewN ?_ _) | (with_reducible refine Kd.C_drew ?_))); (case side4 => exact HC1.out); rintro e w' ⟨rfl, ⟨nd, rfl⟩⟩; (try first | exact ⟨rfl, _, World.drewN_drewN _ _ _⟩ | exact ⟨rfl, _, Eq.trans (World.drewN_drewN _ _ _) (congrArg (World.drewN _) (Nat.add_assoc _ _ _))⟩)) | (go_at_call 5; (with_reducible refine (spec_R8Diagram.calls k _ _ l0 t236 t237 _ ?side1 ?side2 A5.out).mono ?_); (case side1 => repeat (first | exact HR0.out | (with_reducible refine Kd.C_alloc ?_ _) | (with_reducible refine Kd.C_drewN ?_ _) | (with_reducible refine Kd.C_drew ?_))); (case side2 => exact HC0.out); rintro e w9 ⟨v238, rfl, ho0, hb⟩; have n0_ := Aside0.mk (Kd.R_lower ho0 (below_size (by repeat (first | (with_reducible first | exact HB.out | apply below_alloc | apply pw_below_drewN | apply below_drew1) | exact HB.out)))); have n1_ := Aside0.mk (below_step (by repeat (first | (with_reducible first | exact HB.out | apply below_alloc | apply pw_below_drewN | apply below_drew1) | exact HB.out)) hb); clear HB; have HO239 := n0_; have HB := n1_; clear n0_ n1_; (try clear hb); (try clear hb2); (try clear hk); (try clear hi); (try clear ho0)) | ((with_reducible refine gate_dst (N := 5) rfl ?_); (try (refine gate_guard (by rfl) ?_; dsimp only)); refine box_event ?hg (N := 5) ?hd (cs := #[.int .i64 0, .slice none 0 0]) (t := 26) ?hr ?_; (case hd => rfl); (case hg => rfl); (case hr => first | (go_simp; done) | (go_simp; rfl)); intro gb240 hg w10 hbox hb; have n0_ := Aside0.mk (Kd.R_below (by (with_reducible repeat (first | apply Kd.R_alloc | apply Kd.R_drewN | apply Kd.R_drew)); exact HO239.out) hb); have n1_ := Aside0.mk (below_step (by repeat (first | (with_reducible first | exact HB.out | apply below_alloc | apply pw_below_drewN | apply below_drew1) | exact HB.out)) hb); have n2_ := Aside0.mk (hbox); have n3_ := Aside0.mk ((by rw [hg]; exact (below_size (by repeat (first | (with_reducible first | exact HB.out | apply below_alloc | apply pw_below_drewN | apply below_drew1) | exact HB.out))) : w.heap.size ≤ gb240)); have n4_ := Aside0.mk ((by rw [hg]; exact (below_size (by repeat (first | (with_reducible first | exact HB.out | apply below_alloc | apply pw_below_drewN | apply below_drew1) | exact HB.out))) : w.heap.size ≤ gb240)); clear HO239; clear HB; have HO239 := n0_; have HB := n1_; have BK240 := n2_; have GW240 := n3_; have GE240 := n4_; clear n0_ n1_ n2_ n3_ n4_; clear hb hbox hg; have hcz11_0 : w10.cell? ⟨gb240, 0, none⟩ = some (.int .i64 0) := (blk_cell BK240.out 0).trans rfl; have hcz11_1 : w10.cell? ⟨gb240, 1, none⟩ = some (.slice none 0 0) := (blk_cell BK240.out 1).trans rfl; have hfz11_0 := blk_frozen BK240.out 0; have hfz11_1 := blk_frozen BK240.out 1; obtain ⟨Ao12, co12, eo12⟩ := Kd.R_slice HO239.out; subst eo12) | (go_at_call 6; (with_reducible refine (impl_TightestBounds.calls k t236 _ _ t237 t241 t244 _ ?side1 ?side2 A6.out).mono ?_); (case side1 => refine (Kd.R_reads' (e := 36) (base := w.heap.size) (ok := fun k_ => True) (n := t237.length) (c := co12) ?_).2.2; exact (by (with_reducible repeat (first | apply Kd.R_alloc | apply Kd.R_drewN | apply Kd.R_drew)); exact (Kd.R_mono (Kd.R_far (p := ⟨gb240, 1, none⟩) (Kd.R_far (p := ⟨gb240, 0, none⟩) (Kd.R_types HO239.out BK240.out (by decide)) (fun _ hk => hk.2) (.int .i64 t236)) (fun _ hk => hk.2) (.slice Ao12 t237.length co12)) (fun _ h_ => h_.1)))); (case side2 => exact (Kd.R_reads' HO239.out).2.1); rintro e w13 ⟨v242, rfl, ho0, hb⟩; have n0_ := Aside0.mk (Kd.R_below (by (with_reducible repeat (first | apply Kd.R_alloc | apply Kd.R_drewN | apply Kd.R_drew)); exact (Kd.R_mono (Kd.R_far (p := ⟨gb240, 1, none⟩) (Kd.R_far (p := ⟨gb240, 0, none⟩) (Kd.R_types HO239.out BK240.out (by decide)) (fun _ hk => hk.2) (.int .i64 t236)) (fun _ hk => hk.2) (.slice Ao12 t237.length co12)) (fun _ h_ => h_.1))) hb); have n1_ := Aside0.mk (Kd.S_lower ho0 (below_size (by repeat (first | (with_reducible first | exact HB.out | apply below_alloc | apply pw_below_drewN | apply below_drew1 | refine below_set ?_ GE240.out) | exact HB.out)))); have n2_ := Aside0.mk (blk_below (g := gb240) (o := .cells #[.int .i64 t236, .slice Ao12 t237.length co12] 26 (0, 0)) (by (with_reducible repeat (first | refine blk_drewN ?_ _ | refine blk_drew ?_ | refine blk_alloc ?_ _)); refine blk_put (cs := #[.int .i64 t236, .slice none 0 0]) ?_ 1 _ rfl; (with_reducible repeat (first | refine blk_drewN ?_ _ | refine blk_drew ?_ | refine blk_alloc ?_ _)); refine blk_put (cs := #[.int .i64 0, .slice none 0 0]) ?_ 0 _ rfl; (with_reducible repeat (first | refine blk_drewN ?_ _ | refine blk_drew ?_ | refine blk_alloc ?_ _)); exact BK240.out) hb); have n3_ := Aside0.mk (below_step (by repeat (first | (with_reducible first | exact HB.out | apply below_alloc | apply pw_below_drewN | apply below_drew1 | refine below_set ?_ GE240.out) | exact HB.out)) hb); clear HO239; clear BK240; clear HB; have HO239 := n0_; have HO243 := n1_; have BK240 := n2_; have HB := n3_; clear n0_ n1_ n2_ n3_; (try clear hb); (try clear hb2); (try clear hk); (try clear hi); (try clear ho0); have hcz14_0 : w13.cell? ⟨gb240, 0, none⟩ = some (.int .i64 t236) := (blk_cell BK240.out 0).trans rfl; have hcz14_1 : w13.cell? ⟨gb240, 1, none⟩ = some (.slice Ao12 t237.length co12) := (blk_cell BK240.out 1).trans rfl; have hfz14_0 := blk_frozen BK240.out 0; have hfz14_1 := blk_frozen BK240.out 1) | (go_at_call 7; (with_reducible refine (impl_FallingRing.calls t236 _ _ t237 t245 t248 _ ?side1 ?side2 A7.out).mono ?_); (case side1 => repeat (first | exact (Kd.R_reads' HO239.out).2.2 | (with_reducible refine Kd.C_alloc ?_ _) | (with_reducible refine Kd.C_drewN ?_ _) | (with_reducible refine Kd.C_drew ?_))); (case side2 => exact (Kd.R_reads' HO239.out).2.1); rintro e w15 ⟨v246, rfl, ho0, hb⟩; have n0_ := Aside0.mk (Kd.R_below (by (with_reducible repeat (first | apply Kd.R_alloc | apply Kd.R_drewN | apply Kd.R_drew)); exact HO239.out) hb); have n1_ := Aside0.mk (Kd.S_elder' (by (with_reducible repeat (first | apply Kd.S_alloc | apply Kd.S_drewN | apply Kd.S_drew)); exact HO243.out) (Kd.R_base ho0) hb); have n2_ := Aside0.mk (Kd.R_lower ho0 (below_size (by repeat (first | (with_reducible first | exact HB.out | apply below_alloc | apply pw_below_drewN | apply below_drew1 | refine below_set ?_ GE240.out) | exact HB.out)))); have n3_ := Aside0.mk (blk_below (g := gb240) (o := .cells #[.int .i64 t236, .slice Ao12 t237.length co12] 26 (0, 0)) (by (with_reducible repeat (first | refine blk_drewN ?_ _ | refine blk_drew ?_ | refine blk_alloc ?_ _)); exact BK240.out) hb); have n4_ := Aside0.mk (below_step (by repeat (first | (with_reducible first | exact HB.out | apply below_alloc | apply pw_below_drewN | apply below_drew1 | refine below_set ?_ GE240.out) | exact HB.out)) hb); clear HO239; clear HO243; clear BK240; clear HB; have HO239 := n0_; have HO243 := n1_; have HO247 := n2_; have BK240 := n3_; have HB := n4_; clear n0_ n1_ n2_ n3_ n4_; (try clear hb); (try clear hb2); (try clear hk); (try clear hi); (try clear ho0)))
  repeat (go_quiet (first | (go_at_call 4; (with_reducible refine (laws_r8Long.calls _ _ l0 _ _ l1 false _ ?side1 ?side2 ?side3 ?side4 A3.out).mono ?_); (case side1 => repeat (first | exact HR0.out | (with_reducible refine Kd.C_alloc ?_ _) | (with_reducible refine Kd.C_drewN ?_ _) | (with_reducible refine Kd.C_drew ?_))); (case side2 => exact HC0.out); (case side3 => repeat (first | exact HR1.out | (with_reducible refine Kd.C_alloc ?_ _) | (with_reducible refine Kd.C_drewN ?_ _) | (with_reducible refine Kd.C_drew ?_))); (case side4 => exact HC1.out); rintro e w' ⟨rfl, ⟨nd, rfl⟩⟩; (try first | exact ⟨rfl, _, World.drewN_drewN _ _ _⟩ | exact ⟨rfl, _, Eq.trans (World.drewN_drewN _ _ _) (congrArg (World.drewN _) (Nat.add_assoc _ _ _))⟩)) | (go_at_call 5; (with_reducible refine (spec_R8Diagram.calls k _ _ l0 t236 t237 _ ?side1 ?side2 A5.out).mono ?_); (case side1 => repeat (first | exact HR0.out | (with_reducible refine Kd.C_alloc ?_ _) | (with_reducible refine Kd.C_drewN ?_ _) | (with_reducible refine Kd.C_drew ?_))); (case side2 => exact HC0.out); rintro e w9 ⟨v238, rfl, ho0, hb⟩; have n0_ := Aside0.mk (Kd.R_lower ho0 (below_size (by repeat (first | (with_reducible first | exact HB.out | apply below_alloc | apply pw_below_drewN | apply below_drew1) | exact HB.out)))); have n1_ := Aside0.mk (below_step (by repeat (first | (with_reducible first | exact HB.out | apply below_alloc | apply pw_below_drewN | apply below_drew1) | exact HB.out)) hb); clear HB; have HO239 := n0_; have HB := n1_; clear n0_ n1_; (try clear hb); (try clear hb2); (try clear hk); (try clear hi); (try clear ho0)) | ((with_reducible refine gate_dst (N := 5) rfl ?_); (try (refine gate_guard (by rfl) ?_; dsimp only)); refine box_event ?hg (N := 5) ?hd (cs := #[.int .i64 0, .slice none 0 0]) (t := 26) ?hr ?_; (case hd => rfl); (case hg => rfl); (case hr => first | (go_simp; done) | (go_simp; rfl)); intro gb240 hg w10 hbox hb; have n0_ := Aside0.mk (Kd.R_below (by (with_reducible repeat (first | apply Kd.R_alloc | apply Kd.R_drewN | apply Kd.R_drew)); exact HO239.out) hb); have n1_ := Aside0.mk (below_step (by repeat (first | (with_reducible first | exact HB.out | apply below_alloc | apply pw_below_drewN | apply below_drew1) | exact HB.out)) hb); have n2_ := Aside0.mk (hbox); have n3_ := Aside0.mk ((by rw [hg]; exact (below_size (by repeat (first | (with_reducible first | exact HB.out | apply below_alloc | apply pw_below_drewN | apply below_drew1) | exact HB.out))) : w.heap.size ≤ gb240)); have n4_ := Aside0.mk ((by rw [hg]; exact (below_size (by repeat (first | (with_reducible first | exact HB.out | apply below_alloc | apply pw_below_drewN | apply below_drew1) | exact HB.out))) : w.heap.size ≤ gb240)); clear HO239; clear HB; have HO239 := n0_; have HB := n1_; have BK240 := n2_; have GW240 := n3_; have GE240 := n4_; clear n0_ n1_ n2_ n3_ n4_; clear hb hbox hg; have hcz11_0 : w10.cell? ⟨gb240, 0, none⟩ = some (.int .i64 0) := (blk_cell BK240.out 0).trans rfl; have hcz11_1 : w10.cell? ⟨gb240, 1, none⟩ = some (.slice none 0 0) := (blk_cell BK240.out 1).trans rfl; have hfz11_0 := blk_frozen BK240.out 0; have hfz11_1 := blk_frozen BK240.out 1; obtain ⟨Ao12, co12, eo12⟩ := Kd.R_slice HO239.out; subst eo12) | (go_at_call 6; (with_reducible refine (impl_TightestBounds.calls k t236 _ _ t237 t241 t244 _ ?side1 ?side2 A6.out).mono ?_); (case side1 => refine (Kd.R_reads' (e := 36) (base := w.heap.size) (ok := fun k_ => True) (n := t237.length) (c := co12) ?_).2.2; exact (by (with_reducible repeat (first | apply Kd.R_alloc | apply Kd.R_drewN | apply Kd.R_drew)); exact (Kd.R_mono (Kd.R_far (p := ⟨gb240, 1, none⟩) (Kd.R_far (p := ⟨gb240, 0, none⟩) (Kd.R_types HO239.out BK240.out (by decide)) (fun _ hk => hk.2) (.int .i64 t236)) (fun _ hk => hk.2) (.slice Ao12 t237.length co12)) (fun _ h_ => h_.1)))); (case side2 => exact (Kd.R_reads' HO239.out).2.1); rintro e w13 ⟨v242, rfl, ho0, hb⟩; have n0_ := Aside0.mk (Kd.R_below (by (with_reducible repeat (first | apply Kd.R_alloc | apply Kd.R_drewN | apply Kd.R_drew)); exact (Kd.R_mono (Kd.R_far (p := ⟨gb240, 1, none⟩) (Kd.R_far (p := ⟨gb240, 0, none⟩) (Kd.R_types HO239.out BK240.out (by decide)) (fun _ hk => hk.2) (.int .i64 t236)) (fun _ hk => hk.2) (.slice Ao12 t237.length co12)) (fun _ h_ => h_.1))) hb); have n1_ := Aside0.mk (Kd.S_lower ho0 (below_size (by repeat (first | (with_reducible first | exact HB.out | apply below_alloc | apply pw_below_drewN | apply below_drew1 | refine below_set ?_ GE240.out) | exact HB.out)))); have n2_ := Aside0.mk (blk_below (g := gb240) (o := .cells #[.int .i64 t236, .slice Ao12 t237.length co12] 26 (0, 0)) (by (with_reducible repeat (first | refine blk_drewN ?_ _ | refine blk_drew ?_ | refine blk_alloc ?_ _)); refine blk_put (cs := #[.int .i64 t236, .slice none 0 0]) ?_ 1 _ rfl; (with_reducible repeat (first | refine blk_drewN ?_ _ | refine blk_drew ?_ | refine blk_alloc ?_ _)); refine blk_put (cs := #[.int .i64 0, .slice none 0 0]) ?_ 0 _ rfl; (with_reducible repeat (first | refine blk_drewN ?_ _ | refine blk_drew ?_ | refine blk_alloc ?_ _)); exact BK240.out) hb); have n3_ := Aside0.mk (below_step (by repeat (first | (with_reducible first | exact HB.out | apply below_alloc | apply pw_below_drewN | apply below_drew1 | refine below_set ?_ GE240.out) | exact HB.out)) hb); clear HO239; clear BK240; clear HB; have HO239 := n0_; have HO243 := n1_; have BK240 := n2_; have HB := n3_; clear n0_ n1_ n2_ n3_; (try clear hb); (try clear hb2); (try clear hk); (try clear hi); (try clear ho0); have hcz14_0 : w13.cell? ⟨gb240, 0, none⟩ = some (.int .i64 t236) := (blk_cell BK240.out 0).trans rfl; have hcz14_1 : w13.cell? ⟨gb240, 1, none⟩ = some (.slice Ao12 t237.length co12) := (blk_cell BK240.out 1).trans rfl; have hfz14_0 := blk_frozen BK240.out 0; have hfz14_1 := blk_frozen BK240.out 1) | (go_at_call 7; (with_reducible refine (impl_FallingRing.calls t236 _ _ t237 t245 t248 _ ?side1 ?side2 A7.out).mono ?_); (case side1 => repeat (first | exact (Kd.R_reads' HO239.out).2.2 | (with_reducible refine Kd.C_alloc ?_ _) | (with_reducible refine Kd.C_drewN ?_ _) | (with_reducible refine Kd.C_drew ?_))); (case side2 => exact (Kd.R_reads' HO239.out).2.1); rintro e w15 ⟨v246, rfl, ho0, hb⟩; have n0_ := Aside0.mk (Kd.R_below (by (with_reducible repeat (first | apply Kd.R_alloc | apply Kd.R_drewN | apply Kd.R_drew)); exact HO239.out) hb); have n1_ := Aside0.mk (Kd.S_elder' (by (with_reducible repeat (first | apply Kd.S_alloc | apply Kd.S_drewN | apply Kd.S_drew)); exact HO243.out) (Kd.R_base ho0) hb); have n2_ := Aside0.mk (Kd.R_lower ho0 (below_size (by repeat (first | (with_reducible first | exact HB.out | apply below_alloc | apply pw_below_drewN | apply below_drew1 | refine below_set ?_ GE240.out) | exact HB.out)))); have n3_ := Aside0.mk (blk_below (g := gb240) (o := .cells #[.int .i64 t236, .slice Ao12 t237.length co12] 26 (0, 0)) (by (with_reducible repeat (first | refine blk_drewN ?_ _ | refine blk_drew ?_ | refine blk_alloc ?_ _)); exact BK240.out) hb); have n4_ := Aside0.mk (below_step (by repeat (first | (with_reducible first | exact HB.out | apply below_alloc | apply pw_below_drewN | apply below_drew1 | refine below_set ?_ GE240.out) | exact HB.out)) hb); clear HO239; clear HO243; clear BK240; clear HB; have HO239 := n0_; have HO243 := n1_; have HO247 := n2_; have BK240 := n3_; have HB := n4_; clear n0_ n1_ n2_ n3_ n4_; (try clear hb); (try clear hb2); (try clear hk); (try clear hi); (try clear ho0))); go_upto_region 7 with (first | (go_at_call 4; (with_reducible refine (laws_r8Long.calls _ _ l0 _ _ l1 false _ ?side1 ?side2 ?side3 ?side4 A3.out).mono ?_); (case side1 => repeat (first | exact HR0.out | (with_reducible refine Kd.C_alloc ?_ _) | (with_reducible refine Kd.C_drewN ?_ _) | (with_reducible refine Kd.C_drew ?_))); (case side2 => exact HC0.out); (case side3 => repeat (first | exact HR1.out | (with_reducible refine Kd.C_alloc ?_ _) | (with_reducible refine Kd.C_drewN ?_ _) | (with_reducible refine Kd.C_drew ?_))); (case side4 => exact HC1.out); rintro e w' ⟨rfl, ⟨nd, rfl⟩⟩; (try first | exact ⟨rfl, _, World.drewN_drewN _ _ _⟩ | exact ⟨rfl, _, Eq.trans (World.drewN_drewN _ _ _) (congrArg (World.drewN _) (Nat.add_assoc _ _ _))⟩)) | (go_at_call 5; (with_reducible refine (spec_R8Diagram.calls k _ _ l0 t236 t237 _ ?side1 ?side2 A5.out).mono ?_); (case side1 => repeat (first | exact HR0.out | (with_reducible refine Kd.C_alloc ?_ _) | (with_reducible refine Kd.C_drewN ?_ _) | (with_reducible refine Kd.C_drew ?_))); (case side2 => exact HC0.out); rintro e w9 ⟨v238, rfl, ho0, hb⟩; have n0_ := Aside0.mk (Kd.R_lower ho0 (below_size (by repeat (first | (with_reducible first | exact HB.out | apply below_alloc | apply pw_below_drewN | apply below_drew1) | exact HB.out)))); have n1_ := Aside0.mk (below_step (by repeat (first | (with_reducible first | exact HB.out | apply below_alloc | apply pw_below_drewN | apply below_drew1) | exact HB.out)) hb); clear HB; have HO239 := n0_; have HB := n1_; clear n0_ n1_; (try clear hb); (try clear hb2); (try clear hk); (try clear hi); (try clear ho0)) | ((with_reducible refine gate_dst (N := 5) rfl ?_); (try (refine gate_guard (by rfl) ?_; dsimp only)); refine box_event ?hg (N := 5) ?hd (cs := #[.int .i64 0, .slice none 0 0]) (t := 26) ?hr ?_; (case hd => rfl); (case hg => rfl); (case hr => first | (go_simp; done) | (go_simp; rfl)); intro gb240 hg w10 hbox hb; have n0_ := Aside0.mk (Kd.R_below (by (with_reducible repeat (first | apply Kd.R_alloc | apply Kd.R_drewN | apply Kd.R_drew)); exact HO239.out) hb); have n1_ := Aside0.mk (below_step (by repeat (first | (with_reducible first | exact HB.out | apply below_alloc | apply pw_below_drewN | apply below_drew1) | exact HB.out)) hb); have n2_ := Aside0.mk (hbox); have n3_ := Aside0.mk ((by rw [hg]; exact (below_size (by repeat (first | (with_reducible first | exact HB.out | apply below_alloc | apply pw_below_drewN | apply below_drew1) | exact HB.out))) : w.heap.size ≤ gb240)); have n4_ := Aside0.mk ((by rw [hg]; exact (below_size (by repeat (first | (with_reducible first | exact HB.out | apply below_alloc | apply pw_below_drewN | apply below_drew1) | exact HB.out))) : w.heap.size ≤ gb240)); clear HO239; clear HB; have HO239 := n0_; have HB := n1_; have BK240 := n2_; have GW240 := n3_; have GE240 := n4_; clear n0_ n1_ n2_ n3_ n4_; clear hb hbox hg; have hcz11_0 : w10.cell? ⟨gb240, 0, none⟩ = some (.int .i64 0) := (blk_cell BK240.out 0).trans rfl; have hcz11_1 : w10.cell? ⟨gb240, 1, none⟩ = some (.slice none 0 0) := (blk_cell BK240.out 1).trans rfl; have hfz11_0 := blk_frozen BK240.out 0; have hfz11_1 := blk_frozen BK240.out 1; obtain ⟨Ao12, co12, eo12⟩ := Kd.R_slice HO239.out; subst eo12) | (go_at_call 6; (with_reducible refine (impl_TightestBounds.calls k t236 _ _ t237 t241 t244 _ ?side1 ?side2 A6.out).mono ?_); (case side1 => refine (Kd.R_reads' (e := 36) (base := w.heap.size) (ok := fun k_ => True) (n := t237.length) (c := co12) ?_).2.2; exact (by (with_reducible repeat (first | apply Kd.R_alloc | apply Kd.R_drewN | apply Kd.R_drew)); exact (Kd.R_mono (Kd.R_far (p := ⟨gb240, 1, none⟩) (Kd.R_far (p := ⟨gb240, 0, none⟩) (Kd.R_types HO239.out BK240.out (by decide)) (fun _ hk => hk.2) (.int .i64 t236)) (fun _ hk => hk.2) (.slice Ao12 t237.length co12)) (fun _ h_ => h_.1)))); (case side2 => exact (Kd.R_reads' HO239.out).2.1); rintro e w13 ⟨v242, rfl, ho0, hb⟩; have n0_ := Aside0.mk (Kd.R_below (by (with_reducible repeat (first | apply Kd.R_alloc | apply Kd.R_drewN | apply Kd.R_drew)); exact (Kd.R_mono (Kd.R_far (p := ⟨gb240, 1, none⟩) (Kd.R_far (p := ⟨gb240, 0, none⟩) (Kd.R_types HO239.out BK240.out (by decide)) (fun _ hk => hk.2) (.int .i64 t236)) (fun _ hk => hk.2) (.slice Ao12 t237.length co12)) (fun _ h_ => h_.1))) hb); have n1_ := Aside0.mk (Kd.S_lower ho0 (below_size (by repeat (first | (with_reducible first | exact HB.out | apply below_alloc | apply pw_below_drewN | apply below_drew1 | refine below_set ?_ GE240.out) | exact HB.out)))); have n2_ := Aside0.mk (blk_below (g := gb240) (o := .cells #[.int .i64 t236, .slice Ao12 t237.length co12] 26 (0, 0)) (by (with_reducible repeat (first | refine blk_drewN ?_ _ | refine blk_drew ?_ | refine blk_alloc ?_ _)); refine blk_put (cs := #[.int .i64 t236, .slice none 0 0]) ?_ 1 _ rfl; (with_reducible repeat (first | refine blk_drewN ?_ _ | refine blk_drew ?_ | refine blk_alloc ?_ _)); refine blk_put (cs := #[.int .i64 0, .slice none 0 0]) ?_ 0 _ rfl; (with_reducible repeat (first | refine blk_drewN ?_ _ | refine blk_drew ?_ | refine blk_alloc ?_ _)); exact BK240.out) hb); have n3_ := Aside0.mk (below_step (by repeat (first | (with_reducible first | exact HB.out | apply below_alloc | apply pw_below_drewN | apply below_drew1 | refine below_set ?_ GE240.out) | exact HB.out)) hb); clear HO239; clear BK240; clear HB; have HO239 := n0_; have HO243 := n1_; have BK240 := n2_; have HB := n3_; clear n0_ n1_ n2_ n3_; (try clear hb); (try clear hb2); (try clear hk); (try clear hi); (try clear ho0); have hcz14_0 : w13.cell? ⟨gb240, 0, none⟩ = some (.int .i64 t236) := (blk_cell BK240.out 0).trans rfl; have hcz14_1 : w13.cell? ⟨gb240, 1, none⟩ = some (.slice Ao12 t237.length co12) := (blk_cell BK240.out 1).trans rfl; have hfz14_0 := blk_frozen BK240.out 0; have hfz14_1 := blk_frozen BK240.out 1) | (go_at_call 7; (with_reducible refine (impl_FallingRing.calls t236 _ _ t237 t245 t248 _ ?side1 ?side2 A7.out).mono ?_); (case side1 => repeat (first | exact (Kd.R_reads' HO239.out).2.2 | (with_reducible refine Kd.C_alloc ?_ _) | (with_reducible refine Kd.C_drewN ?_ _) | (with_reducible refine Kd.C_drew ?_))); (case side2 => exact (Kd.R_reads' HO239.out).2.1); rintro e w15 ⟨v246, rfl, ho0, hb⟩; have n0_ := Aside0.mk (Kd.R_below (by (with_reducible repeat (first | apply Kd.R_alloc | apply Kd.R_drewN | apply Kd.R_drew)); exact HO239.out) hb); have n1_ := Aside0.mk (Kd.S_elder' (by (with_reducible repeat (first | apply Kd.S_alloc | apply Kd.S_drewN | apply Kd.S_drew)); exact HO243.out) (Kd.R_base ho0) hb); have n2_ := Aside0.mk (Kd.R_lower ho0 (below_size (by repeat (first | (with_reducible first | exact HB.out | apply below_alloc | apply pw_below_drewN | apply below_drew1 | refine below_set ?_ GE240.out) | exact HB.out)))); have n3_ := Aside0.mk (blk_below (g := gb240) (o := .cells #[.int .i64 t236, .slice Ao12 t237.length co12] 26 (0, 0)) (by (with_reducible repeat (first | refine blk_drewN ?_ _ | refine blk_drew ?_ | refine blk_alloc ?_ _)); exact BK240.out) hb); have n4_ := Aside0.mk (below_step (by repeat (first | (with_reducible first | exact HB.out | apply below_alloc | apply pw_below_drewN | apply below_drew1 | refine below_set ?_ GE240.out) | exact HB.out)) hb); clear HO239; clear HO243; clear BK240; clear HB; have HO239 := n0_; have HO243 := n1_; have HO247 := n2_; have BK240 := n3_; have HB := n4_; clear n0_ n1_ n2_ n3_ n4_; (try clear hb); (try clear hb2); (try clear hk); (try clear hi); (try clear ho0))))
  (try simp only [Act.put, List.setIfInBounds_toArray, List.set_cons_zero, List.set_cons_succ])
  go_cut [47] (fun v47 wc => ∃ (kq : Nat) (x47_7 : Bool), v47 = .bool x47_7 ∧ Aside0 (laws_FnTight.j0 kq l1 t236 t241 t245 t248 x47_7 t236 t237 = some r) ∧ Aside0 (kq ≤ k) ∧ Aside0 (Kd.S (Kd.slice 2 (Kd.int .i64)) 31 wc w.heap.size (fun k_ => some k_ ≠ (v246 : Value).ownBlock) v242 t241) ∧ Aside0 (Kd.R (Kd.int .i64) 2 wc w.heap.size (fun _ => True) v246 t245) ∧ Aside0 (Kd.R k36 36 wc w.heap.size (fun _ => True) (.slice Ao12 t237.length co12) t237) ∧ Aside0 (wc.heap[gb240]? = some (.cells #[.int .i64 t236, (.slice Ao12 t237.length co12)] 26 (0, 0))) ∧ Aside0 (Below w.heap.size w wc))
  case first => as_aux_lemma =>
   have H := HC8.out
   clear HC8
   by_cases c16 : (t244 == t248) = true
   ·rw [if_pos c16] at H
    have c16b0 : (t244 == t248) = true := c16
    (try (have c16b1 : decide (t244 = t248) = true := by simpa using c16))
    (try (have c16b2 : (t244 == t248) = true := by simpa using c16))
    clear c16
    (first | rw [c16b0] | (simp only [i64_w, i32_w]; rw [c16b0]) | skip)
    have H' := Aside0.mk H
    clear H
    go_wp2
    repeat (go_quiet (fail); try go_wp2)
    go_meet
    case rel => exact ⟨_, (true), (by first | rfl | (simp; done) | (simp [*]; done)), H', ⟨by first | omega | exact Nat.le_refl _⟩, ⟨by (with_reducible repeat (first | apply Kd.S_alloc | apply Kd.S_drewN | apply Kd.S_drew)); exact Kd.S_mono HO243.out (fun _ hk => hk.2)⟩, ⟨by (with_reducible repeat (first | apply Kd.R_alloc | apply Kd.R_drewN | apply Kd.R_drew)); exact HO247.out⟩, ⟨by (with_reducible repeat (first | apply Kd.R_alloc | apply Kd.R_drewN | apply Kd.R_drew)); exact HO239.out⟩, ⟨by (with_reducible repeat (first | refine blk_drewN ?_ _ | refine blk_drew ?_ | refine blk_alloc ?_ _)); exact BK240.out⟩, ⟨by repeat (first | (with_reducible first | exact HB.out | apply below_alloc | apply pw_below_drewN | apply below_drew1 | refine below_set ?_ GE240.out) | exact HB.out)⟩⟩
   ·rw [if_neg c16] at H
    have c16b0 : (t244 == t248) = false := by simpa using c16
    (try (have c16b1 : decide (t244 = t248) = false := by simpa using c16))
    (try (have c16b2 : (t244 == t248) = false := by simpa using c16))
    (try (have c16b3 : ¬ (t244 = t248) := by simpa using c16))
    clear c16
    (first | rw [c16b0] | (simp only [i64_w, i32_w]; rw [c16b0]) | skip)
    replace H := Option.bind_eq_some_iff.mp H
    obtain ⟨t249, A170, H⟩ := H
    replace H : (laws_FnTight.j0 k l1 t236 t241 t245 t248 (!t249) t236 t237) = some r := H
    have A17 := Aside0.mk A170
    clear A170
    have H' := Aside0.mk H
    clear H
    have hcz18_0 : w15.cell? ⟨gb240, 0, none⟩ = some (.int .i64 t236) := (blk_cell BK240.out 0).trans rfl
    have hcz18_1 : w15.cell? ⟨gb240, 1, none⟩ = some (.slice Ao12 t237.length co12) := (blk_cell BK240.out 1).trans rfl
    have hfz18_0 := blk_frozen BK240.out 0
    have hfz18_1 := blk_frozen BK240.out 1
    go_wp2_with (first | (go_at_call 8; (with_reducible refine (impl_ValidDiagram.calls t236 _ _ t237 t249 _ ?side1 ?side2 A17.out).mono ?_); (case side1 => repeat (first | exact (Kd.R_reads' HO239.out).2.2 | (with_reducible refine Kd.C_alloc ?_ _) | (with_reducible refine Kd.C_drewN ?_ _) | (with_reducible refine Kd.C_drew ?_))); (case side2 => exact (Kd.R_reads' HO239.out).2.1); rintro e w19 ⟨rfl, hb⟩; have n0_ := Aside0.mk (Kd.R_below (by (with_reducible repeat (first | apply Kd.R_alloc | apply Kd.R_drewN | apply Kd.R_drew)); exact HO239.out) hb); have n1_ := Aside0.mk (Kd.S_below (by (with_reducible repeat (first | apply Kd.S_alloc | apply Kd.S_drewN | apply Kd.S_drew)); exact HO243.out) hb); have n2_ := Aside0.mk (Kd.R_below (by (with_reducible repeat (first | apply Kd.R_alloc | apply Kd.R_drewN | apply Kd.R_drew)); exact HO247.out) hb); have n3_ := Aside0.mk (blk_below (g := gb240) (o := .cells #[.int .i64 t236, .slice Ao12 t237.length co12] 26 (0, 0)) (by (with_reducible repeat (first | refine blk_drewN ?_ _ | refine blk_drew ?_ | refine blk_alloc ?_ _)); exact BK240.out) hb); have n4_ := Aside0.mk (below_step (by repeat (first | (with_reducible first | exact HB.out | apply below_alloc | apply pw_below_drewN | apply below_drew1 | refine below_set ?_ GE240.out) | exact HB.out)) hb); clear HO239; clear HO243; clear HO247; clear BK240; clear HB; have HO239 := n0_; have HO243 := n1_; have HO247 := n2_; have BK240 := n3_; have HB := n4_; clear n0_ n1_ n2_ n3_ n4_; (try clear hb); (try clear hb2); (try clear hk); (try clear hi)))
    repeat (go_quiet (first | (go_at_call 8; (with_reducible refine (impl_ValidDiagram.calls t236 _ _ t237 t249 _ ?side1 ?side2 A17.out).mono ?_); (case side1 => repeat (first | exact (Kd.R_reads' HO239.out).2.2 | (with_reducible refine Kd.C_alloc ?_ _) | (with_reducible refine Kd.C_drewN ?_ _) | (with_reducible refine Kd.C_drew ?_))); (case side2 => exact (Kd.R_reads' HO239.out).2.1); rintro e w19 ⟨rfl, hb⟩; have n0_ := Aside0.mk (Kd.R_below (by (with_reducible repeat (first | apply Kd.R_alloc | apply Kd.R_drewN | apply Kd.R_drew)); exact HO239.out) hb); have n1_ := Aside0.mk (Kd.S_below (by (with_reducible repeat (first | apply Kd.S_alloc | apply Kd.S_drewN | apply Kd.S_drew)); exact HO243.out) hb); have n2_ := Aside0.mk (Kd.R_below (by (with_reducible repeat (first | apply Kd.R_alloc | apply Kd.R_drewN | apply Kd.R_drew)); exact HO247.out) hb); have n3_ := Aside0.mk (blk_below (g := gb240) (o := .cells #[.int .i64 t236, .slice Ao12 t237.length co12] 26 (0, 0)) (by (with_reducible repeat (first | refine blk_drewN ?_ _ | refine blk_drew ?_ | refine blk_alloc ?_ _)); exact BK240.out) hb); have n4_ := Aside0.mk (below_step (by repeat (first | (with_reducible first | exact HB.out | apply below_alloc | apply pw_below_drewN | apply below_drew1 | refine below_set ?_ GE240.out) | exact HB.out)) hb); clear HO239; clear HO243; clear HO247; clear BK240; clear HB; have HO239 := n0_; have HO243 := n1_; have HO247 := n2_; have BK240 := n3_; have HB := n4_; clear n0_ n1_ n2_ n3_ n4_; (try clear hb); (try clear hb2); (try clear hk); (try clear hi))); try go_wp2_with (first | (go_at_call 8; (with_reducible refine (impl_ValidDiagram.calls t236 _ _ t237 t249 _ ?side1 ?side2 A17.out).mono ?_); (case side1 => repeat (first | exact (Kd.R_reads' HO239.out).2.2 | (with_reducible refine Kd.C_alloc ?_ _) | (with_reducible refine Kd.C_drewN ?_ _) | (with_reducible refine Kd.C_drew ?_))); (case side2 => exact (Kd.R_reads' HO239.out).2.1); rintro e w19 ⟨rfl, hb⟩; have n0_ := Aside0.mk (Kd.R_below (by (with_reducible repeat (first | apply Kd.R_alloc | apply Kd.R_drewN | apply Kd.R_drew)); exact HO239.out) hb); have n1_ := Aside0.mk (Kd.S_below (by (with_reducible repeat (first | apply Kd.S_alloc | apply Kd.S_drewN | apply Kd.S_drew)); exact HO243.out) hb); have n2_ := Aside0.mk (Kd.R_below (by (with_reducible repeat (first | apply Kd.R_alloc | apply Kd.R_drewN | apply Kd.R_drew)); exact HO247.out) hb); have n3_ := Aside0.mk (blk_below (g := gb240) (o := .cells #[.int .i64 t236, .slice Ao12 t237.length co12] 26 (0, 0)) (by (with_reducible repeat (first | refine blk_drewN ?_ _ | refine blk_drew ?_ | refine blk_alloc ?_ _)); exact BK240.out) hb); have n4_ := Aside0.mk (below_step (by repeat (first | (with_reducible first | exact HB.out | apply below_alloc | apply pw_below_drewN | apply below_drew1 | refine below_set ?_ GE240.out) | exact HB.out)) hb); clear HO239; clear HO243; clear HO247; clear BK240; clear HB; have HO239 := n0_; have HO243 := n1_; have HO247 := n2_; have BK240 := n3_; have HB := n4_; clear n0_ n1_ n2_ n3_ n4_; (try clear hb); (try clear hb2); (try clear hk); (try clear hi))))
    go_meet
    case rel => exact ⟨_, (!t249), (by first | rfl | (simp; done) | (simp [*]; done)), H', ⟨by first | omega | exact Nat.le_refl _⟩, ⟨by (with_reducible repeat (first | apply Kd.S_alloc | apply Kd.S_drewN | apply Kd.S_drew)); exact Kd.S_mono HO243.out (fun _ hk => hk.2)⟩, ⟨by (with_reducible repeat (first | apply Kd.R_alloc | apply Kd.R_drewN | apply Kd.R_drew)); exact HO247.out⟩, ⟨by (with_reducible repeat (first | apply Kd.R_alloc | apply Kd.R_drewN | apply Kd.R_drew)); exact HO239.out⟩, ⟨by (with_reducible repeat (first | refine blk_drewN ?_ _ | refine blk_drew ?_ | refine blk_alloc ?_ _)); exact BK240.out⟩, ⟨by repeat (first | (with_reducible first | exact HB.out | apply below_alloc | apply pw_below_drewN | apply below_drew1 | refine below_set ?_ GE240.out) | exact HB.out)⟩⟩
  case rest => as_aux_lemma =>
   clear HC8
   try clear c1
   try clear p2
   try clear c3
   try clear c4
   try clear c16
   try clear c16b0
   try clear c16b1
   try clear c16b2
   try clear hcz11_0
   try clear hcz11_1
   try clear hcz14_0
   try clear hcz14_1
   try clear hcz18_0
   try clear hcz18_1
   try clear hfz11_0
   try clear hfz11_1
   try clear hfz14_0
   try clear hfz14_1
   try clear hfz18_0
   try clear hfz18_1
   obtain ⟨kq, x47_7, rfl, HA, HJ7, HO_7, HO_9, HO_241001, BK240, HB⟩ := hcut
   cases kq with
   | zero => exact absurd HA.out (by simp [laws_FnTight.j0])
   | succ kj7 =>
    have H := HA.out
    clear HA
    simp only [laws_FnTight.j0] at H
    by_cases c20 : x47_7 = true
    ·subst c20
     have H1 : (some false) = some r := by rw [if_pos rfl] at H; exact H
     clear H
     have H := H1
     clear H1
     obtain rfl := Option.some.inj H
     go_wp2
     repeat (go_quiet (fail); try go_wp2)
     go_ret
     exact ⟨by first | rfl | (simp [errW_none, errW_some] <;> rfl) | (simp [*, errW_none, errW_some] <;> rfl), by repeat (first | (with_reducible first | exact HB.out | apply below_alloc | apply pw_below_drewN | apply below_drew1 | refine below_set ?_ GE240.out) | exact HB.out)⟩
    ·replace c20 := Bool.eq_false_iff.mpr c20
     subst c20
     have H1 : (if t248 = true then (laws_FnTight.l0 kj7 t245 0 0 t236 t237) else (if (t241.length : Int) = t236 then (laws_FnTight.l1 kj7 l1 t236 t241 0 t236 t237) else (some false))) = some r := by rw [if_neg (show ¬ (false = true) by decide)] at H; exact H
     clear H
     have H := H1
     clear H1
     by_cases c21 : t248 = true
     ·subst c21
      have H1 : (laws_FnTight.l0 kj7 t245 0 0 t236 t237) = some r := by rw [if_pos rfl] at H; exact H
      clear H
      have H := H1
      clear H1
      have H' := Aside0.mk H
      clear H
      go_wp2
      repeat (go_quiet (fail); try go_wp2)
      go_loopg [11, 12] kj7 (fun kq v11 v12 w' => ∃ (x11_2 : Int) (x12_2 : Int), v11 = .int .i64 x11_2 ∧ v12 = .int .i64 x12_2 ∧ Aside0 (laws_FnTight.l0 kq t245 x11_2 x12_2 t236 t237 = some r) ∧ Aside0 (kq ≤ kj7) ∧ Aside0 (Kd.R (Kd.int .i64) 2 w' w.heap.size (fun _ => True) v246 t245) ∧ Aside0 (Kd.R k36 36 w' w.heap.size (fun _ => True) (.slice Ao12 t237.length co12) t237) ∧ Aside0 (w'.heap[gb240]? = some (.cells #[.int .i64 t236, (.slice Ao12 t237.length co12)] 26 (0, 0))) ∧ Aside0 (Below w.heap.size w w'))
      case atStart => exact ⟨(0), (0), (by first | rfl | (simp; done) | (simp [*]; done)), (by first | rfl | (simp; done) | (simp [*]; done)), H', ⟨Nat.le_refl _⟩, ⟨by (with_reducible repeat (first | apply Kd.R_alloc | apply Kd.R_drewN | apply Kd.R_drew)); exact HO_9.out⟩, ⟨by (with_reducible repeat (first | apply Kd.R_alloc | apply Kd.R_drewN | apply Kd.R_drew)); exact HO_241001.out⟩, ⟨by (with_reducible repeat (first | refine blk_drewN ?_ _ | refine blk_drew ?_ | refine blk_alloc ?_ _)); exact BK240.out⟩, ⟨by repeat (first | (with_reducible first | exact HB.out | apply below_alloc | apply pw_below_drewN | apply below_drew1 | refine below_set ?_ GE240.out) | exact HB.out)⟩⟩
      case round =>
       clear H'
       try clear c1
       try clear c2
       try clear p2
       try clear c3
       try clear c4
       try clear c16
       try clear c16b0
       try clear c16b1
       try clear c16b2
       try clear c20
       try clear c21
       try clear hcz11_0
       try clear hcz11_1
       try clear hcz14_0
       try clear hcz14_1
       try clear hcz18_0
       try clear hcz18_1
       try clear hfz11_0
       try clear hfz11_1
       try clear hfz14_0
       try clear hfz14_1
       try clear hfz18_0
       try clear hfz18_1
       try clear p2
       obtain ⟨x11_2, x12_2, rfl, rfl, HA, HK2, HO_9, HO_241001, BK240, HB⟩ := hrel
       cases gk with
       | zero => exact absurd HA.out (by simp [laws_FnTight.l0])
       | succ k2 =>
        have H := HA.out
        clear HA
        simp only [laws_FnTight.l0] at H
        by_cases c22 : x12_2 < (t245.length : Int)
        ·rw [if_pos c22] at H
         have c22b0 : decide (x12_2 < (t245.length : Int)) = true := decide_eq_true c22
         clear c22
         by_cases c23 : 0 ≤ x12_2
         ·rw [if_pos c23] at H
          have c23b0 : decide (0 ≤ x12_2) = true := decide_eq_true c23
          clear c23
          by_cases c24 : (rd t245 x12_2) < 0
          ·rw [if_pos c24] at H
           have c24b0 : decide ((rd t245 x12_2) < 0) = true := decide_eq_true c24
           clear c24
           obtain rfl := Option.some.inj H
           obtain ⟨Ao25, co25, eo25⟩ := Kd.R_slice HO_9.out
           subst eo25
           have p250 : 0 ≤ (x12_2 : Int) := of_decide_eq_true (by with_reducible assumption)
           have q250 : x12_2 < (t245.length : Int) := of_decide_eq_true (by with_reducible assumption)
           obtain ⟨ad250, e250, hx250_0⟩ := Kd.at_int (Kd.R_reads' HO_9.out).2.2 x12_2 p250 q250
           cases e250
           replace p250 := eq_true p250
           replace q250 := eq_true q250
           go_wp2
           repeat (go_quiet (fail); try go_wp2)
           go_ret
           exact ⟨by first | rfl | (simp [errW_none, errW_some] <;> rfl) | (simp [*, errW_none, errW_some] <;> rfl), by repeat (first | (with_reducible first | exact HB.out | apply below_alloc | apply pw_below_drewN | apply below_drew1 | refine below_set ?_ GE240.out) | exact HB.out)⟩
          ·rw [if_neg c24] at H
           have c24b0 : decide ((rd t245 x12_2) < 0) = false := decide_eq_false c24
           clear c24
           by_cases c26 : (rd t245 x12_2) ≥ (t237.length : Int)
           ·rw [if_pos c26] at H
            have c26b0 : decide ((t237.length : Int) ≤ (rd t245 x12_2)) = true := decide_eq_true c26
            clear c26
            obtain rfl := Option.some.inj H
            obtain ⟨Ao27, co27, eo27⟩ := Kd.R_slice HO_9.out
            subst eo27
            have p250 : 0 ≤ (x12_2 : Int) := of_decide_eq_true (by with_reducible assumption)
            have q250 : x12_2 < (t245.length : Int) := of_decide_eq_true (by with_reducible assumption)
            obtain ⟨ad250, e250, hx250_0⟩ := Kd.at_int (Kd.R_reads' HO_9.out).2.2 x12_2 p250 q250
            cases e250
            replace p250 := eq_true p250
            replace q250 := eq_true q250
            have p251 : 0 ≤ (x12_2 : Int) := of_decide_eq_true (by with_reducible assumption)
            have q251 : x12_2 < (t245.length : Int) := of_decide_eq_true (by with_reducible assumption)
            obtain ⟨ad251, e251, hx251_0⟩ := Kd.at_int (Kd.R_reads' HO_9.out).2.2 x12_2 p251 q251
            obtain rfl : ad250 = ad251 := (by injection e251)
            replace p251 := eq_true p251
            replace q251 := eq_true q251
            have hcz28_0 : wr.cell? ⟨gb240, 0, none⟩ = some (.int .i64 t236) := (blk_cell BK240.out 0).trans rfl
            have hcz28_1 : wr.cell? ⟨gb240, 1, none⟩ = some (.slice Ao12 t237.length co12) := (blk_cell BK240.out 1).trans rfl
            have hfz28_0 := blk_frozen BK240.out 0
            have hfz28_1 := blk_frozen BK240.out 1
            go_wp2
            repeat (go_quiet (fail); try go_wp2)
            go_ret
            exact ⟨by first | rfl | (simp [errW_none, errW_some] <;> rfl) | (simp [*, errW_none, errW_some] <;> rfl), by repeat (first | (with_reducible first | exact HB.out | apply below_alloc | apply pw_below_drewN | apply below_drew1 | refine below_set ?_ GE240.out) | exact HB.out)⟩
           ·rw [if_neg c26] at H
            have c26b0 : decide ((t237.length : Int) ≤ (rd t245 x12_2)) = false := decide_eq_false c26
            clear c26
            by_cases c29 : 0 ≤ (rd t245 x12_2)
            ·rw [if_pos c29] at H
             have c29b0 : decide (0 ≤ (rd t245 x12_2)) = true := decide_eq_true c29
             clear c29
             by_cases c30 : (rd t245 x12_2) < (t237.length : Int)
             ·rw [if_pos c30] at H
              have c30b0 : decide ((rd t245 x12_2) < (t237.length : Int)) = true := decide_eq_true c30
              clear c30
              by_cases c31 : (t245.length : Int) = 0
              ·rw [if_pos c31] at H
               exact absurd H (by simp)
              ·rw [if_neg c31] at H
               have c31b0 : ((t245.length : Int) == 0) = false := beq_eq_false_iff_ne.mpr c31
               have c31b1 : ((t245.length : Int) != 0) = true := bne_iff_ne.mpr c31
               have c31b2 : ¬ (t245 = []) := fun h_ => c31 (by rw [h_]; rfl)
               obtain ⟨ji32, hji32⟩ : ∃ j_ : Int, (Int.tmod (wrap64 (x12_2 + 1)) (t245.length : Int)) = j_ := ⟨_, rfl⟩
               replace H : (if 0 ≤ (ji32) then (if (ji32) < (t245.length : Int) then (if 0 ≤ (rd t245 (ji32)) then (if (rd t245 (ji32)) < (t237.length : Int) then (if ((rd_T36 t237 (rd t245 x12_2)).f1) = ((rd_T36 t237 (rd t245 (ji32))).f0) then (laws_FnTight.l0 k2 t245 (wrap64 (x11_2 + ((rd_T36 t237 (rd t245 x12_2)).f2))) (wrap64 (x12_2 + 1)) t236 t237) else (some false)) else (none)) else (none)) else (none)) else (none)) = some r := by first | (rw [hji32] at H; exact H) | (simp only [hji32] at H ⊢; exact H)
               by_cases c33 : 0 ≤ (ji32)
               ·rw [if_pos c33] at H
                have c33b0 : decide (0 ≤ (ji32)) = true := decide_eq_true c33
                clear c33
                by_cases c34 : (ji32) < (t245.length : Int)
                ·rw [if_pos c34] at H
                 have c34b0 : decide ((ji32) < (t245.length : Int)) = true := decide_eq_true c34
                 clear c34
                 by_cases c35 : 0 ≤ (rd t245 (ji32))
                 ·rw [if_pos c35] at H
                  have c35b0 : decide (0 ≤ (rd t245 (ji32))) = true := decide_eq_true c35
                  clear c35
                  by_cases c36 : (rd t245 (ji32)) < (t237.length : Int)
                  ·rw [if_pos c36] at H
                   have c36b0 : decide ((rd t245 (ji32)) < (t237.length : Int)) = true := decide_eq_true c36
                   clear c36
                   by_cases c37 : ((rd_T36 t237 (rd t245 x12_2)).f1) = ((rd_T36 t237 (rd t245 (ji32))).f0)
                   ·rw [if_pos c37] at H
                    have c37b0 : (((rd_T36 t237 (rd t245 x12_2)).f1) == ((rd_T36 t237 (rd t245 (ji32))).f0)) = true := beq_iff_eq.mpr c37
                    have c37b1 : (((rd_T36 t237 (rd t245 x12_2)).f1) != ((rd_T36 t237 (rd t245 (ji32))).f0)) = false := bne_eq_false_iff_eq.mpr c37
                    clear c37
                    have H' := Aside0.mk H
                    clear H
                    obtain ⟨Ao38, co38, eo38⟩ := Kd.R_slice HO_9.out
                    subst eo38
                    have p250 : 0 ≤ (x12_2 : Int) := of_decide_eq_true (by with_reducible assumption)
                    have q250 : x12_2 < (t245.length : Int) := of_decide_eq_true (by with_reducible assumption)
                    obtain ⟨ad250, e250, hx250_0⟩ := Kd.at_int (Kd.R_reads' HO_9.out).2.2 x12_2 p250 q250
                    cases e250
                    replace p250 := eq_true p250
                    replace q250 := eq_true q250
                    have p251 : 0 ≤ (x12_2 : Int) := of_decide_eq_true (by with_reducible assumption)
                    have q251 : x12_2 < (t245.length : Int) := of_decide_eq_true (by with_reducible assumption)
                    obtain ⟨ad251, e251, hx251_0⟩ := Kd.at_int (Kd.R_reads' HO_9.out).2.2 x12_2 p251 q251
                    obtain rfl : ad250 = ad251 := (by injection e251)
                    replace p251 := eq_true p251
                    replace q251 := eq_true q251
                    have hcz39_0 : wr.cell? ⟨gb240, 0, none⟩ = some (.int .i64 t236) := (blk_cell BK240.out 0).trans rfl
                    have hcz39_1 : wr.cell? ⟨gb240, 1, none⟩ = some (.slice Ao12 t237.length co12) := (blk_cell BK240.out 1).trans rfl
                    have hfz39_0 := blk_frozen BK240.out 0
                    have hfz39_1 := blk_frozen BK240.out 1
                    have p252 : 0 ≤ (x12_2 : Int) := of_decide_eq_true (by with_reducible assumption)
                    have q252 : x12_2 < (t245.length : Int) := of_decide_eq_true (by with_reducible assumption)
                    obtain ⟨ad252, e252, hx252_0⟩ := Kd.at_int (Kd.R_reads' HO_9.out).2.2 x12_2 p252 q252
                    obtain rfl : ad250 = ad252 := (by injection e252)
                    replace p252 := eq_true p252
                    replace q252 := eq_true q252
                    have p253 : 0 ≤ ((rd t245 x12_2) : Int) := of_decide_eq_true (by with_reducible assumption)
                    have q253 : (rd t245 x12_2) < (t237.length : Int) := of_decide_eq_true (by with_reducible assumption)
                    obtain ⟨ad253, e253, hx253_0, hx253_1, hx253_2⟩ := at_T36 (Kd.R_reads' HO_241001.out).2.2 (rd t245 x12_2) p253 q253
                    cases e253
                    replace p253 := eq_true p253
                    replace q253 := eq_true q253
                    have p254 : 0 ≤ ((ji32) : Int) := of_decide_eq_true (by with_reducible assumption)
                    have q254 : (ji32) < (t245.length : Int) := of_decide_eq_true (by with_reducible assumption)
                    obtain ⟨ad254, e254, hx254_0⟩ := Kd.at_int (Kd.R_reads' HO_9.out).2.2 (ji32) p254 q254
                    obtain rfl : ad250 = ad254 := (by injection e254)
                    replace p254 := eq_true p254
                    replace q254 := eq_true q254
                    have p255 : 0 ≤ ((rd t245 (ji32)) : Int) := of_decide_eq_true (by with_reducible assumption)
                    have q255 : (rd t245 (ji32)) < (t237.length : Int) := of_decide_eq_true (by with_reducible assumption)
                    obtain ⟨ad255, e255, hx255_0, hx255_1, hx255_2⟩ := at_T36 (Kd.R_reads' HO_241001.out).2.2 (rd t245 (ji32)) p255 q255
                    obtain rfl : ad253 = ad255 := (by injection e255)
                    replace p255 := eq_true p255
                    replace q255 := eq_true q255
                    have p256 : 0 ≤ (x12_2 : Int) := of_decide_eq_true (by with_reducible assumption)
                    have q256 : x12_2 < (t245.length : Int) := of_decide_eq_true (by with_reducible assumption)
                    obtain ⟨ad256, e256, hx256_0⟩ := Kd.at_int (Kd.R_reads' HO_9.out).2.2 x12_2 p256 q256
                    obtain rfl : ad250 = ad256 := (by injection e256)
                    replace p256 := eq_true p256
                    replace q256 := eq_true q256
                    have p257 : 0 ≤ ((rd t245 x12_2) : Int) := of_decide_eq_true (by with_reducible assumption)
                    have q257 : (rd t245 x12_2) < (t237.length : Int) := of_decide_eq_true (by with_reducible assumption)
                    obtain ⟨ad257, e257, hx257_0, hx257_1, hx257_2⟩ := at_T36 (Kd.R_reads' HO_241001.out).2.2 (rd t245 x12_2) p257 q257
                    obtain rfl : ad253 = ad257 := (by injection e257)
                    replace p257 := eq_true p257
                    replace q257 := eq_true q257
                    go_wp2
                    repeat (go_quiet (fail); try go_wp2)
                    go_roundg k2
                    case measure => have := HJ7.out; have := HK2.out; omega
                    case rel => exact ⟨(wrap64 (x11_2 + ((rd_T36 t237 (rd t245 x12_2)).f2))), (wrap64 (x12_2 + 1)), (by first | rfl | (simp; done) | (simp [*]; done)), (by first | rfl | (simp; done) | (simp [*]; done)), H', ⟨by have := HJ7.out; have := HK2.out; omega⟩, ⟨by (with_reducible repeat (first | apply Kd.R_alloc | apply Kd.R_drewN | apply Kd.R_drew)); exact HO_9.out⟩, ⟨by (with_reducible repeat (first | apply Kd.R_alloc | apply Kd.R_drewN | apply Kd.R_drew)); exact HO_241001.out⟩, ⟨by (with_reducible repeat (first | refine blk_drewN ?_ _ | refine blk_drew ?_ | refine blk_alloc ?_ _)); exact BK240.out⟩, ⟨by repeat (first | (with_reducible first | exact HB.out | apply below_alloc | apply pw_below_drewN | apply below_drew1 | refine below_set ?_ GE240.out) | exact HB.out)⟩⟩
                   ·rw [if_neg c37] at H
                    have c37b0 : (((rd_T36 t237 (rd t245 x12_2)).f1) == ((rd_T36 t237 (rd t245 (ji32))).f0)) = false := beq_eq_false_iff_ne.mpr c37
                    have c37b1 : (((rd_T36 t237 (rd t245 x12_2)).f1) != ((rd_T36 t237 (rd t245 (ji32))).f0)) = true := bne_iff_ne.mpr c37
                    obtain rfl := Option.some.inj H
                    obtain ⟨Ao40, co40, eo40⟩ := Kd.R_slice HO_9.out
                    subst eo40
                    have p250 : 0 ≤ (x12_2 : Int) := of_decide_eq_true (by with_reducible assumption)
                    have q250 : x12_2 < (t245.length : Int) := of_decide_eq_true (by with_reducible assumption)
                    obtain ⟨ad250, e250, hx250_0⟩ := Kd.at_int (Kd.R_reads' HO_9.out).2.2 x12_2 p250 q250
                    cases e250
                    replace p250 := eq_true p250
                    replace q250 := eq_true q250
                    have p251 : 0 ≤ (x12_2 : Int) := of_decide_eq_true (by with_reducible assumption)
                    have q251 : x12_2 < (t245.length : Int) := of_decide_eq_true (by with_reducible assumption)
                    obtain ⟨ad251, e251, hx251_0⟩ := Kd.at_int (Kd.R_reads' HO_9.out).2.2 x12_2 p251 q251
                    obtain rfl : ad250 = ad251 := (by injection e251)
                    replace p251 := eq_true p251
                    replace q251 := eq_true q251
                    have hcz41_0 : wr.cell? ⟨gb240, 0, none⟩ = some (.int .i64 t236) := (blk_cell BK240.out 0).trans rfl
                    have hcz41_1 : wr.cell? ⟨gb240, 1, none⟩ = some (.slice Ao12 t237.length co12) := (blk_cell BK240.out 1).trans rfl
                    have hfz41_0 := blk_frozen BK240.out 0
                    have hfz41_1 := blk_frozen BK240.out 1
                    have p252 : 0 ≤ (x12_2 : Int) := of_decide_eq_true (by with_reducible assumption)
                    have q252 : x12_2 < (t245.length : Int) := of_decide_eq_true (by with_reducible assumption)
                    obtain ⟨ad252, e252, hx252_0⟩ := Kd.at_int (Kd.R_reads' HO_9.out).2.2 x12_2 p252 q252
                    obtain rfl : ad250 = ad252 := (by injection e252)
                    replace p252 := eq_true p252
                    replace q252 := eq_true q252
                    have p253 : 0 ≤ ((rd t245 x12_2) : Int) := of_decide_eq_true (by with_reducible assumption)
                    have q253 : (rd t245 x12_2) < (t237.length : Int) := of_decide_eq_true (by with_reducible assumption)
                    obtain ⟨ad253, e253, hx253_0, hx253_1, hx253_2⟩ := at_T36 (Kd.R_reads' HO_241001.out).2.2 (rd t245 x12_2) p253 q253
                    cases e253
                    replace p253 := eq_true p253
                    replace q253 := eq_true q253
                    have p254 : 0 ≤ ((ji32) : Int) := of_decide_eq_true (by with_reducible assumption)
                    have q254 : (ji32) < (t245.length : Int) := of_decide_eq_true (by with_reducible assumption)
                    obtain ⟨ad254, e254, hx254_0⟩ := Kd.at_int (Kd.R_reads' HO_9.out).2.2 (ji32) p254 q254
                    obtain rfl : ad250 = ad254 := (by injection e254)
                    replace p254 := eq_true p254
                    replace q254 := eq_true q254
                    have p255 : 0 ≤ ((rd t245 (ji32)) : Int) := of_decide_eq_true (by with_reducible assumption)
                    have q255 : (rd t245 (ji32)) < (t237.length : Int) := of_decide_eq_true (by with_reducible assumption)
                    obtain ⟨ad255, e255, hx255_0, hx255_1, hx255_2⟩ := at_T36 (Kd.R_reads' HO_241001.out).2.2 (rd t245 (ji32)) p255 q255
                    obtain rfl : ad253 = ad255 := (by injection e255)
                    replace p255 := eq_true p255
                    replace q255 := eq_true q255
                    go_wp2
                    repeat (go_quiet (fail); try go_wp2)
                    go_ret
                    exact ⟨by first | rfl | (simp [errW_none, errW_some] <;> rfl) | (simp only [← hji32]; first | rfl | (simp [errW_none, errW_some] <;> rfl)) | (simp [*, errW_none, errW_some] <;> rfl), by repeat (first | (with_reducible first | exact HB.out | apply below_alloc | apply pw_below_drewN | apply below_drew1 | refine below_set ?_ GE240.out) | exact HB.out)⟩
                  ·rw [if_neg c36] at H
                   exact absurd H (by simp)
                 ·rw [if_neg c35] at H
                  exact absurd H (by simp)
                ·rw [if_neg c34] at H
                 exact absurd H (by simp)
               ·rw [if_neg c33] at H
                exact absurd H (by simp)
             ·rw [if_neg c30] at H
              exact absurd H (by simp)
            ·rw [if_neg c29] at H
             exact absurd H (by simp)
         ·rw [if_neg c23] at H
          exact absurd H (by simp)
        ·rw [if_neg c22] at H
         have c22b0 : decide (x12_2 < (t245.length : Int)) = false := decide_eq_false c22
         clear c22
         by_cases c42 : x11_2 < 0
         ·rw [if_pos c42] at H
          have c42b0 : decide (x11_2 < 0) = true := decide_eq_true c42
          clear c42
          obtain rfl := Option.some.inj H
          obtain ⟨Ao43, co43, eo43⟩ := Kd.R_slice HO_9.out
          subst eo43
          go_wp2
          repeat (go_quiet (fail); try go_wp2)
          go_ret
          exact ⟨by first | rfl | (simp [errW_none, errW_some] <;> rfl) | (simp [*, errW_none, errW_some] <;> rfl), by repeat (first | (with_reducible first | exact HB.out | apply below_alloc | apply pw_below_drewN | apply below_drew1 | refine below_set ?_ GE240.out) | exact HB.out)⟩
         ·rw [if_neg c42] at H
          have c42b0 : decide (x11_2 < 0) = false := decide_eq_false c42
          clear c42
          obtain rfl := Option.some.inj H
          obtain ⟨Ao44, co44, eo44⟩ := Kd.R_slice HO_9.out
          subst eo44
          go_wp2
          repeat (go_quiet (fail); try go_wp2)
          go_ret
          exact ⟨by first | rfl | (simp [errW_none, errW_some] <;> rfl) | (simp [*, errW_none, errW_some] <;> rfl), by repeat (first | (with_reducible first | exact HB.out | apply below_alloc | apply pw_below_drewN | apply below_drew1 | refine below_set ?_ GE240.out) | exact HB.out)⟩
     ·replace c21 := Bool.eq_false_iff.mpr c21
      subst c21
      have H1 : (if (t241.length : Int) = t236 then (laws_FnTight.l1 kj7 l1 t236 t241 0 t236 t237) else (some false)) = some r := by rw [if_neg (show ¬ (false = true) by decide)] at H; exact H
      clear H
      have H := H1
      clear H1
      by_cases c45 : (t241.length : Int) = t236
      ·rw [if_pos c45] at H
       have c45b0 : ((t241.length : Int) == t236) = true := beq_iff_eq.mpr c45
       have c45b1 : ((t241.length : Int) != t236) = false := bne_eq_false_iff_eq.mpr c45
       clear c45
       have H' := Aside0.mk H
       clear H
       obtain ⟨Ao46, co46, eo46⟩ := Kd.S_slice HO_7.out
       subst eo46
       go_wp2
       repeat (go_quiet (fail); try go_wp2)
       go_loopg [13] kj7 (fun kq v13 w' => ∃ (x13_2 : Int), v13 = .int .i64 x13_2 ∧ Aside0 (laws_FnTight.l1 kq l1 t236 t241 x13_2 t236 t237 = some r) ∧ Aside0 (kq ≤ kj7) ∧ Aside0 (Kd.S (Kd.slice 2 (Kd.int .i64)) 31 w' w.heap.size (fun _ => True) (.slice Ao46 t241.length co46) t241) ∧ Aside0 (Kd.R k36 36 w' w.heap.size (fun _ => True) (.slice Ao12 t237.length co12) t237) ∧ Aside0 (w'.heap[gb240]? = some (.cells #[.int .i64 t236, (.slice Ao12 t237.length co12)] 26 (0, 0))) ∧ Aside0 (Below w.heap.size w w'))
       case atStart => exact ⟨(0), (by first | rfl | (simp; done) | (simp [*]; done)), H', ⟨Nat.le_refl _⟩, ⟨by (with_reducible repeat (first | apply Kd.S_alloc | apply Kd.S_drewN | apply Kd.S_drew)); exact Kd.S_mono HO_7.out (fun _ hk => trivial)⟩, ⟨by (with_reducible repeat (first | apply Kd.R_alloc | apply Kd.R_drewN | apply Kd.R_drew)); exact HO_241001.out⟩, ⟨by (with_reducible repeat (first | refine blk_drewN ?_ _ | refine blk_drew ?_ | refine blk_alloc ?_ _)); exact BK240.out⟩, ⟨by repeat (first | (with_reducible first | exact HB.out | apply below_alloc | apply pw_below_drewN | apply below_drew1 | refine below_set ?_ GE240.out) | exact HB.out)⟩⟩
       case round =>
        clear H'
        try clear c1
        try clear c2
        try clear p2
        try clear q2
        try clear hx2
        try clear c3
        try clear c4
        try clear p6
        try clear c16
        try clear c16b0
        try clear c16b1
        try clear c16b2
        try clear c20
        try clear c21
        try clear c22
        try clear c22b0
        try clear c23
        try clear c23b0
        try clear c24
        try clear c24b0
        try clear p25
        try clear q25
        try clear hx25
        try clear c26
        try clear c26b0
        try clear c29
        try clear c29b0
        try clear c30
        try clear c30b0
        try clear c31
        try clear c31b0
        try clear c31b1
        try clear c31b2
        try clear c33
        try clear c33b0
        try clear c34
        try clear c34b0
        try clear c35
        try clear c35b0
        try clear c36
        try clear c36b0
        try clear c37
        try clear c37b0
        try clear c37b1
        try clear c42
        try clear c42b0
        try clear c45
        try clear c45b0
        try clear c45b1
        try clear hcz11_0
        try clear hcz11_1
        try clear hcz14_0
        try clear hcz14_1
        try clear hcz18_0
        try clear hcz18_1
        try clear hcz28_0
        try clear hcz28_1
        try clear hcz39_0
        try clear hcz39_1
        try clear hcz41_0
        try clear hcz41_1
        try clear hfz11_0
        try clear hfz11_1
        try clear hfz14_0
        try clear hfz14_1
        try clear hfz18_0
        try clear hfz18_1
        try clear hfz28_0
        try clear hfz28_1
        try clear hfz39_0
        try clear hfz39_1
        try clear hfz41_0
        try clear hfz41_1
        try clear hx250_0
        try clear hx251_0
        try clear hx252_0
        try clear hx253_0
        try clear hx253_1
        try clear hx253_2
        try clear hx254_0
        try clear hx255_0
        try clear hx255_1
        try clear hx255_2
        try clear hx256_0
        try clear hx257_0
        try clear hx257_1
        try clear hx257_2
        try clear p2
        try clear p250
        try clear p251
        try clear p252
        try clear p253
        try clear p254
        try clear p255
        try clear p256
        try clear p257
        try clear q250
        try clear q251
        try clear q252
        try clear q253
        try clear q254
        try clear q255
        try clear q256
        try clear q257
        obtain ⟨x13_2, rfl, HA, HK2, HO_7, HO_241001, BK240, HB⟩ := hrel
        cases gk with
        | zero => exact absurd HA.out (by simp [laws_FnTight.l1])
        | succ k2 =>
         have H := HA.out
         clear HA
         simp only [laws_FnTight.l1] at H
         by_cases c47 : x13_2 < t236
         ·rw [if_pos c47] at H
          have c47b0 : decide (x13_2 < t236) = true := decide_eq_true c47
          clear c47
          have HC48 := Aside0.mk H
          clear H
          go_upto_region 23 with (fail)
          repeat (go_quiet (fail); go_upto_region 23 with (fail))
          go_cut [138] (fun v138 wc => ∃ (kq : Nat) (x138_47 : Bool), v138 = .bool x138_47 ∧ Aside0 (laws_FnTight.j3 kq l1 t236 t241 x13_2 x138_47 t236 t237 = some r) ∧ Aside0 (kq ≤ k2) ∧ Aside0 (Kd.S (Kd.slice 2 (Kd.int .i64)) 31 wc w.heap.size (fun _ => True) (.slice Ao46 t241.length co46) t241) ∧ Aside0 (Kd.R k36 36 wc w.heap.size (fun _ => True) (.slice Ao12 t237.length co12) t237) ∧ Aside0 (wc.heap[gb240]? = some (.cells #[.int .i64 t236, (.slice Ao12 t237.length co12)] 26 (0, 0))) ∧ Aside0 (Below w.heap.size w wc))
          case first => as_aux_lemma =>
           have H := HC48.out
           clear HC48
           by_cases c49 : 0 ≤ x13_2
           ·rw [if_pos c49] at H
            have c49b0 : decide (0 ≤ x13_2) = true := decide_eq_true c49
            clear c49
            (first | rw [c49b0] | (simp only [i64_w, i32_w]; rw [c49b0]) | skip)
            by_cases c50 : x13_2 < (t241.length : Int)
            ·rw [if_pos c50] at H
             have c50b0 : decide (x13_2 < (t241.length : Int)) = true := decide_eq_true c50
             clear c50
             by_cases c51 : ((rd_L6 t241 x13_2).length : Int) = t236
             ·rw [if_pos c51] at H
              have c51b0 : (((rd_L6 t241 x13_2).length : Int) == t236) = true := beq_iff_eq.mpr c51
              have c51b1 : (((rd_L6 t241 x13_2).length : Int) != t236) = false := bne_eq_false_iff_eq.mpr c51
              clear c51
              by_cases c52 : x13_2 < ((rd_L6 t241 x13_2).length : Int)
              ·rw [if_pos c52] at H
               have c52b0 : decide (x13_2 < ((rd_L6 t241 x13_2).length : Int)) = true := decide_eq_true c52
               clear c52
               have H' := Aside0.mk H
               clear H
               have p258 : 0 ≤ (x13_2 : Int) := of_decide_eq_true (by with_reducible assumption)
               have q258 : x13_2 < (t241.length : Int) := of_decide_eq_true (by with_reducible assumption)
               obtain ⟨ad258, A258_0, c258_0, e258, hx258_0, hl258_0, hi258_0⟩ := at_L6 (Kd.S_reads' HO_7.out).2.2 x13_2 p258 q258
               cases e258
               obtain ⟨ce258, hce258, hMe258, hcc258⟩ := Kd.S_get HO_7.out [] x13_2 p258 (by first | exact q258 | exact of_decide_eq_true (by with_reducible assumption) | (have e_ := (Kd.S_reads' HO_7.out).1; omega))
               obtain ⟨ve258_0, rfl, ge258_0⟩ := hMe258
               have hv258_0 := hcc258 0 _ rfl
               rw [Nat.add_zero, show ((Kd.slice 2 (Kd.int .i64))).sz = 1 from rfl, Nat.mul_one] at hv258_0
               replace hv258_0 := Option.some.inj (hv258_0.symm.trans hx258_0)
               rw [hv258_0] at ge258_0
               have HL258_0 := Aside0.mk (show Kd.R (Kd.int .i64) 2 _ _ _ _ (rd_L6 t241 x13_2) from ge258_0)
               clear hv258_0 ge258_0
               clear hcc258 hce258
               have HR258_0 := Aside0.mk hi258_0
               have HC258_0 := Aside0.mk hl258_0
               clear hi258_0 hl258_0
               replace p258 := eq_true p258
               replace q258 := eq_true q258
               have p259 : 0 ≤ (x13_2 : Int) := of_decide_eq_true (by with_reducible assumption)
               have q259 : x13_2 < (t241.length : Int) := of_decide_eq_true (by with_reducible assumption)
               obtain ⟨ad259, A259_0, c259_0, e259, hx259_0, hl259_0, hi259_0⟩ := at_L6 (Kd.S_reads' HO_7.out).2.2 x13_2 p259 q259
               obtain rfl : ad258 = ad259 := (by injection e259)
               obtain ⟨ce259, hce259, hMe259, hcc259⟩ := Kd.S_get HO_7.out [] x13_2 p259 (by first | exact q259 | exact of_decide_eq_true (by with_reducible assumption) | (have e_ := (Kd.S_reads' HO_7.out).1; omega))
               obtain ⟨ve259_0, rfl, ge259_0⟩ := hMe259
               have hv259_0 := hcc259 0 _ rfl
               rw [Nat.add_zero, show ((Kd.slice 2 (Kd.int .i64))).sz = 1 from rfl, Nat.mul_one] at hv259_0
               replace hv259_0 := Option.some.inj (hv259_0.symm.trans hx259_0)
               rw [hv259_0] at ge259_0
               have HL259_0 := Aside0.mk (show Kd.R (Kd.int .i64) 2 _ _ _ _ (rd_L6 t241 x13_2) from ge259_0)
               clear hv259_0 ge259_0
               clear hcc259 hce259
               have HR259_0 := Aside0.mk hi259_0
               have HC259_0 := Aside0.mk hl259_0
               clear hi259_0 hl259_0
               replace p259 := eq_true p259
               replace q259 := eq_true q259
               have ea_ := Option.some.inj (hx258_0.symm.trans hx259_0)
               injection ea_ with ea_ en_ ec_
               subst ea_
               subst ec_
               clear en_
               have p260 : 0 ≤ (x13_2 : Int) := of_decide_eq_true (by with_reducible assumption)
               have q260 : x13_2 < ((rd_L6 t241 x13_2).length : Int) := of_decide_eq_true (by with_reducible assumption)
               obtain ⟨ad260, e260, hx260_0⟩ := Kd.at_int (by repeat (first | (with_reducible exact HR259_0.out) | (with_reducible refine Kd.C_alloc ?_ _) | (with_reducible refine Kd.C_drewN ?_ _) | (with_reducible refine Kd.C_drew ?_) | exact HR259_0.out)) x13_2 p260 q260
               cases e260
               replace p260 := eq_true p260
               replace q260 := eq_true q260
               go_wp2
               repeat (go_quiet (fail); try go_wp2)
               go_meet
               case rel => exact ⟨_, (((rd (rd_L6 t241 x13_2) x13_2) != 0)), (by first | rfl | (simp; done) | (simp [*]; done)), H', ⟨by have := HJ7.out; have := HK2.out; first | omega | exact Nat.le_refl _⟩, ⟨by (with_reducible repeat (first | apply Kd.S_alloc | apply Kd.S_drewN | apply Kd.S_drew)); exact HO_7.out⟩, ⟨by (with_reducible repeat (first | apply Kd.R_alloc | apply Kd.R_drewN | apply Kd.R_drew)); exact HO_241001.out⟩, ⟨by (with_reducible repeat (first | refine blk_drewN ?_ _ | refine blk_drew ?_ | refine blk_alloc ?_ _)); exact BK240.out⟩, ⟨by repeat (first | (with_reducible first | exact HB.out | apply below_alloc | apply pw_below_drewN | apply below_drew1 | refine below_set ?_ GE240.out) | exact HB.out)⟩⟩
              ·rw [if_neg c52] at H
               exact absurd H (by simp)
             ·rw [if_neg c51] at H
              have c51b0 : (((rd_L6 t241 x13_2).length : Int) == t236) = false := beq_eq_false_iff_ne.mpr c51
              have c51b1 : (((rd_L6 t241 x13_2).length : Int) != t236) = true := bne_iff_ne.mpr c51
              have H' := Aside0.mk H
              clear H
              have p258 : 0 ≤ (x13_2 : Int) := of_decide_eq_true (by with_reducible assumption)
              have q258 : x13_2 < (t241.length : Int) := of_decide_eq_true (by with_reducible assumption)
              obtain ⟨ad258, A258_0, c258_0, e258, hx258_0, hl258_0, hi258_0⟩ := at_L6 (Kd.S_reads' HO_7.out).2.2 x13_2 p258 q258
              cases e258
              obtain ⟨ce258, hce258, hMe258, hcc258⟩ := Kd.S_get HO_7.out [] x13_2 p258 (by first | exact q258 | exact of_decide_eq_true (by with_reducible assumption) | (have e_ := (Kd.S_reads' HO_7.out).1; omega))
              obtain ⟨ve258_0, rfl, ge258_0⟩ := hMe258
              have hv258_0 := hcc258 0 _ rfl
              rw [Nat.add_zero, show ((Kd.slice 2 (Kd.int .i64))).sz = 1 from rfl, Nat.mul_one] at hv258_0
              replace hv258_0 := Option.some.inj (hv258_0.symm.trans hx258_0)
              rw [hv258_0] at ge258_0
              have HL258_0 := Aside0.mk (show Kd.R (Kd.int .i64) 2 _ _ _ _ (rd_L6 t241 x13_2) from ge258_0)
              clear hv258_0 ge258_0
              clear hcc258 hce258
              have HR258_0 := Aside0.mk hi258_0
              have HC258_0 := Aside0.mk hl258_0
              clear hi258_0 hl258_0
              replace p258 := eq_true p258
              replace q258 := eq_true q258
              go_wp2
              repeat (go_quiet (fail); try go_wp2)
              go_meet
              case rel => exact ⟨_, (true), (by first | rfl | (simp; done) | (simp [*]; done)), H', ⟨by have := HJ7.out; have := HK2.out; first | omega | exact Nat.le_refl _⟩, ⟨by (with_reducible repeat (first | apply Kd.S_alloc | apply Kd.S_drewN | apply Kd.S_drew)); exact HO_7.out⟩, ⟨by (with_reducible repeat (first | apply Kd.R_alloc | apply Kd.R_drewN | apply Kd.R_drew)); exact HO_241001.out⟩, ⟨by (with_reducible repeat (first | refine blk_drewN ?_ _ | refine blk_drew ?_ | refine blk_alloc ?_ _)); exact BK240.out⟩, ⟨by repeat (first | (with_reducible first | exact HB.out | apply below_alloc | apply pw_below_drewN | apply below_drew1 | refine below_set ?_ GE240.out) | exact HB.out)⟩⟩
            ·rw [if_neg c50] at H
             exact absurd H (by simp)
           ·rw [if_neg c49] at H
            exact absurd H (by simp)
          case rest => as_aux_lemma =>
           clear HC48
           try clear c1
           try clear c2
           try clear p2
           try clear q2
           try clear hx2
           try clear c3
           try clear c4
           try clear c5
           try clear p6
           try clear c16
           try clear c16b0
           try clear c16b1
           try clear c16b2
           try clear c20
           try clear c21
           try clear c22
           try clear c22b0
           try clear c23
           try clear c23b0
           try clear c24
           try clear c24b0
           try clear c25
           try clear p25
           try clear q25
           try clear hx25
           try clear c26
           try clear c26b0
           try clear p26
           try clear q26
           try clear hx26
           try clear c29
           try clear c29b0
           try clear c30
           try clear c30b0
           try clear c31
           try clear c31b0
           try clear c31b1
           try clear c31b2
           try clear c33
           try clear c33b0
           try clear c34
           try clear c34b0
           try clear c35
           try clear c35b0
           try clear c36
           try clear c36b0
           try clear c37
           try clear c37b0
           try clear c37b1
           try clear c42
           try clear c42b0
           try clear c45
           try clear c45b0
           try clear c45b1
           try clear c47
           try clear c47b0
           try clear c49
           try clear c49b0
           try clear c50
           try clear c50b0
           try clear c51
           try clear c51b0
           try clear c51b1
           try clear c52
           try clear c52b0
           try clear hcz11_0
           try clear hcz11_1
           try clear hcz14_0
           try clear hcz14_1
           try clear hcz18_0
           try clear hcz18_1
           try clear hcz28_0
           try clear hcz28_1
           try clear hcz39_0
           try clear hcz39_1
           try clear hcz41_0
           try clear hcz41_1
           try clear hfz11_0
           try clear hfz11_1
           try clear hfz14_0
           try clear hfz14_1
           try clear hfz18_0
           try clear hfz18_1
           try clear hfz28_0
           try clear hfz28_1
           try clear hfz39_0
           try clear hfz39_1
           try clear hfz41_0
           try clear hfz41_1
           try clear hx250_0
           try clear hx251_0
           try clear hx252_0
           try clear hx253_0
           try clear hx253_1
           try clear hx253_2
           try clear hx254_0
           try clear hx255_0
           try clear hx255_1
           try clear hx255_2
           try clear hx256_0
           try clear hx257_0
           try clear hx257_1
           try clear hx257_2
           try clear hx258_0
           try clear hx259_0
           try clear hx260_0
           try clear p2
           try clear p25
           try clear p250
           try clear p251
           try clear p252
           try clear p253
           try clear p254
           try clear p255
           try clear p256
           try clear p257
           try clear p258
           try clear p259
           try clear p260
           try clear p6
           try clear q2
           try clear q25
           try clear q250
           try clear q251
           try clear q252
           try clear q253
           try clear q254
           try clear q255
           try clear q256
           try clear q257
           try clear q258
           try clear q259
           try clear q260
           obtain ⟨kq, x138_47, rfl, HA, HJ47, HO_7, HO_241001, BK240, HB⟩ := hcut
           cases kq with
           | zero => exact absurd HA.out (by simp [laws_FnTight.j3])
           | succ kj47 =>
            have H := HA.out
            clear HA
            simp only [laws_FnTight.j3] at H
            by_cases c53 : x138_47 = true
            ·subst c53
             have H1 : (some false) = some r := by rw [if_pos rfl] at H; exact H
             clear H
             have H := H1
             clear H1
             obtain rfl := Option.some.inj H
             go_wp2
             repeat (go_quiet (fail); try go_wp2)
             go_ret
             exact ⟨by first | rfl | (simp [errW_none, errW_some] <;> rfl) | (simp [*, errW_none, errW_some] <;> rfl), by repeat (first | (with_reducible first | exact HB.out | apply below_alloc | apply pw_below_drewN | apply below_drew1 | refine below_set ?_ GE240.out) | exact HB.out)⟩
            ·replace c53 := Bool.eq_false_iff.mpr c53
             subst c53
             have H1 : (laws_FnTight.l2 kj47 l1 t236 t241 x13_2 0 t236 t237) = some r := by rw [if_neg (show ¬ (false = true) by decide)] at H; exact H
             clear H
             have H := H1
             clear H1
             have H' := Aside0.mk H
             clear H
             go_wp2
             repeat (go_quiet (fail); try go_wp2)
             go_loopg [14] kj47 (fun kq v14 w' => ∃ (x14_4 : Int), v14 = .int .i64 x14_4 ∧ Aside0 (laws_FnTight.l2 kq l1 t236 t241 x13_2 x14_4 t236 t237 = some r) ∧ Aside0 (kq ≤ kj47) ∧ Aside0 (Kd.S (Kd.slice 2 (Kd.int .i64)) 31 w' w.heap.size (fun _ => True) (.slice Ao46 t241.length co46) t241) ∧ Aside0 (Kd.R k36 36 w' w.heap.size (fun _ => True) (.slice Ao12 t237.length co12) t237) ∧ Aside0 (w'.heap[gb240]? = some (.cells #[.int .i64 t236, (.slice Ao12 t237.length co12)] 26 (0, 0))) ∧ Aside0 (Below w.heap.size w w'))
             case atStart => exact ⟨(0), (by first | rfl | (simp; done) | (simp [*]; done)), H', ⟨Nat.le_refl _⟩, ⟨by (with_reducible repeat (first | apply Kd.S_alloc | apply Kd.S_drewN | apply Kd.S_drew)); exact HO_7.out⟩, ⟨by (with_reducible repeat (first | apply Kd.R_alloc | apply Kd.R_drewN | apply Kd.R_drew)); exact HO_241001.out⟩, ⟨by (with_reducible repeat (first | refine blk_drewN ?_ _ | refine blk_drew ?_ | refine blk_alloc ?_ _)); exact BK240.out⟩, ⟨by repeat (first | (with_reducible first | exact HB.out | apply below_alloc | apply pw_below_drewN | apply below_drew1 | refine below_set ?_ GE240.out) | exact HB.out)⟩⟩
             case round =>
              clear H'
              try clear c1
              try clear c2
              try clear p2
              try clear q2
              try clear hx2
              try clear c3
              try clear c4
              try clear c5
              try clear p6
              try clear c16
              try clear c16b0
              try clear c16b1
              try clear c16b2
              try clear c20
              try clear c21
              try clear c22
              try clear c22b0
              try clear c23
              try clear c23b0
              try clear c24
              try clear c24b0
              try clear c25
              try clear p25
              try clear q25
              try clear hx25
              try clear c26
              try clear c26b0
              try clear p26
              try clear q26
              try clear hx26
              try clear c29
              try clear c29b0
              try clear c30
              try clear c30b0
              try clear c31
              try clear c31b0
              try clear c31b1
              try clear c31b2
              try clear c33
              try clear c33b0
              try clear c34
              try clear c34b0
              try clear c35
              try clear c35b0
              try clear c36
              try clear c36b0
              try clear c37
              try clear c37b0
              try clear c37b1
              try clear c42
              try clear c42b0
              try clear c45
              try clear c45b0
              try clear c45b1
              try clear c47
              try clear c47b0
              try clear c49
              try clear c49b0
              try clear c50
              try clear c50b0
              try clear c51
              try clear c51b0
              try clear c51b1
              try clear c52
              try clear c52b0
              try clear c53
              try clear hcz11_0
              try clear hcz11_1
              try clear hcz14_0
              try clear hcz14_1
              try clear hcz18_0
              try clear hcz18_1
              try clear hcz28_0
              try clear hcz28_1
              try clear hcz39_0
              try clear hcz39_1
              try clear hcz41_0
              try clear hcz41_1
              try clear hfz11_0
              try clear hfz11_1
              try clear hfz14_0
              try clear hfz14_1
              try clear hfz18_0
              try clear hfz18_1
              try clear hfz28_0
              try clear hfz28_1
              try clear hfz39_0
              try clear hfz39_1
              try clear hfz41_0
              try clear hfz41_1
              try clear hx250_0
              try clear hx251_0
              try clear hx252_0
              try clear hx253_0
              try clear hx253_1
              try clear hx253_2
              try clear hx254_0
              try clear hx255_0
              try clear hx255_1
              try clear hx255_2
              try clear hx256_0
              try clear hx257_0
              try clear hx257_1
              try clear hx257_2
              try clear hx258_0
              try clear hx259_0
              try clear hx260_0
              try clear p2
              try clear p25
              try clear p250
              try clear p251
              try clear p252
              try clear p253
              try clear p254
              try clear p255
              try clear p256
              try clear p257
              try clear p258
              try clear p259
              try clear p26
              try clear p260
              try clear p6
              try clear q2
              try clear q25
              try clear q250
              try clear q251
              try clear q252
              try clear q253
              try clear q254
              try clear q255
              try clear q256
              try clear q257
              try clear q258
              try clear q259
              try clear q26
              try clear q260
              obtain ⟨x14_4, rfl, HA, HK4, HO_7, HO_241001, BK240, HB⟩ := hrel
              cases gk with
              | zero => exact absurd HA.out (by simp [laws_FnTight.l2])
              | succ k4 =>
               have H := HA.out
               clear HA
               simp only [laws_FnTight.l2] at H
               by_cases c54 : x14_4 < t236
               ·rw [if_pos c54] at H
                have c54b0 : decide (x14_4 < t236) = true := decide_eq_true c54
                clear c54
                have H' := Aside0.mk H
                clear H
                go_wp2
                repeat (go_quiet (fail); try go_wp2)
                go_loopg [15] k4 (fun kq v15 w' => ∃ (x15_5 : Int), v15 = .int .i64 x15_5 ∧ Aside0 (laws_FnTight.l3 kq l1 t236 t241 x13_2 x14_4 x15_5 t236 t237 = some r) ∧ Aside0 (kq ≤ k4) ∧ Aside0 (Kd.S (Kd.slice 2 (Kd.int .i64)) 31 w' w.heap.size (fun _ => True) (.slice Ao46 t241.length co46) t241) ∧ Aside0 (Kd.R k36 36 w' w.heap.size (fun _ => True) (.slice Ao12 t237.length co12) t237) ∧ Aside0 (w'.heap[gb240]? = some (.cells #[.int .i64 t236, (.slice Ao12 t237.length co12)] 26 (0, 0))) ∧ Aside0 (Below w.heap.size w w'))
                case atStart => exact ⟨(0), (by first | rfl | (simp; done) | (simp [*]; done)), H', ⟨Nat.le_refl _⟩, ⟨by (with_reducible repeat (first | apply Kd.S_alloc | apply Kd.S_drewN | apply Kd.S_drew)); exact HO_7.out⟩, ⟨by (with_reducible repeat (first | apply Kd.R_alloc | apply Kd.R_drewN | apply Kd.R_drew)); exact HO_241001.out⟩, ⟨by (with_reducible repeat (first | refine blk_drewN ?_ _ | refine blk_drew ?_ | refine blk_alloc ?_ _)); exact BK240.out⟩, ⟨by repeat (first | (with_reducible first | exact HB.out | apply below_alloc | apply pw_below_drewN | apply below_drew1 | refine below_set ?_ GE240.out) | exact HB.out)⟩⟩
                case round =>
                 clear H'
                 try clear c1
                 try clear c2
                 try clear p2
                 try clear q2
                 try clear hx2
                 try clear c3
                 try clear c4
                 try clear c5
                 try clear p6
                 try clear c16
                 try clear c16b0
                 try clear c16b1
                 try clear c16b2
                 try clear c20
                 try clear c21
                 try clear c22
                 try clear c22b0
                 try clear c23
                 try clear c23b0
                 try clear c24
                 try clear c24b0
                 try clear c25
                 try clear p25
                 try clear q25
                 try clear hx25
                 try clear c26
                 try clear c26b0
                 try clear p26
                 try clear q26
                 try clear hx26
                 try clear c29
                 try clear c29b0
                 try clear c30
                 try clear c30b0
                 try clear c31
                 try clear c31b0
                 try clear c31b1
                 try clear c31b2
                 try clear c33
                 try clear c33b0
                 try clear c34
                 try clear c34b0
                 try clear c35
                 try clear c35b0
                 try clear c36
                 try clear c36b0
                 try clear c37
                 try clear c37b0
                 try clear c37b1
                 try clear c42
                 try clear c42b0
                 try clear c45
                 try clear c45b0
                 try clear c45b1
                 try clear c47
                 try clear c47b0
                 try clear c49
                 try clear c49b0
                 try clear c50
                 try clear c50b0
                 try clear c51
                 try clear c51b0
                 try clear c51b1
                 try clear c52
                 try clear c52b0
                 try clear c53
                 try clear c54
                 try clear c54b0
                 try clear hcz11_0
                 try clear hcz11_1
                 try clear hcz14_0
                 try clear hcz14_1
                 try clear hcz18_0
                 try clear hcz18_1
                 try clear hcz28_0
                 try clear hcz28_1
                 try clear hcz39_0
                 try clear hcz39_1
                 try clear hcz41_0
                 try clear hcz41_1
                 try clear hfz11_0
                 try clear hfz11_1
                 try clear hfz14_0
                 try clear hfz14_1
                 try clear hfz18_0
                 try clear hfz18_1
                 try clear hfz28_0
                 try clear hfz28_1
                 try clear hfz39_0
                 try clear hfz39_1
                 try clear hfz41_0
                 try clear hfz41_1
                 try clear hx250_0
                 try clear hx251_0
                 try clear hx252_0
                 try clear hx253_0
                 try clear hx253_1
                 try clear hx253_2
                 try clear hx254_0
                 try clear hx255_0
                 try clear hx255_1
                 try clear hx255_2
                 try clear hx256_0
                 try clear hx257_0
                 try clear hx257_1
                 try clear hx257_2
                 try clear hx258_0
                 try clear hx259_0
                 try clear hx260_0
                 try clear p2
                 try clear p25
                 try clear p250
                 try clear p251
                 try clear p252
                 try clear p253
                 try clear p254
                 try clear p255
                 try clear p256
                 try clear p257
                 try clear p258
                 try clear p259
                 try clear p26
                 try clear p260
                 try clear p6
                 try clear q2
                 try clear q25
                 try clear q250
                 try clear q251
                 try clear q252
                 try clear q253
                 try clear q254
                 try clear q255
                 try clear q256
                 try clear q257
                 try clear q258
                 try clear q259
                 try clear q26
                 try clear q260
                 obtain ⟨x15_5, rfl, HA, HK5, HO_7, HO_241001, BK240, HB⟩ := hrel
                 cases gk with
                 | zero => exact absurd HA.out (by simp [laws_FnTight.l3])
                 | succ k5 =>
                  have H := HA.out
                  clear HA
                  simp only [laws_FnTight.l3] at H
                  by_cases c55 : x15_5 < t236
                  ·rw [if_pos c55] at H
                   have c55b0 : decide (x15_5 < t236) = true := decide_eq_true c55
                   clear c55
                   by_cases c56 : 0 ≤ x13_2
                   ·rw [if_pos c56] at H
                    have c56b0 : decide (0 ≤ x13_2) = true := decide_eq_true c56
                    clear c56
                    by_cases c57 : x13_2 < (t241.length : Int)
                    ·rw [if_pos c57] at H
                     have c57b0 : decide (x13_2 < (t241.length : Int)) = true := decide_eq_true c57
                     clear c57
                     by_cases c58 : 0 ≤ x15_5
                     ·rw [if_pos c58] at H
                      have c58b0 : decide (0 ≤ x15_5) = true := decide_eq_true c58
                      clear c58
                      by_cases c59 : x15_5 < ((rd_L6 t241 x13_2).length : Int)
                      ·rw [if_pos c59] at H
                       have c59b0 : decide (x15_5 < ((rd_L6 t241 x13_2).length : Int)) = true := decide_eq_true c59
                       clear c59
                       by_cases c60 : (rd (rd_L6 t241 x13_2) x15_5) < 1000000
                       ·rw [if_pos c60] at H
                        have c60b0 : decide ((rd (rd_L6 t241 x13_2) x15_5) < 1000000) = true := decide_eq_true c60
                        clear c60
                        by_cases c61 : x15_5 < (t241.length : Int)
                        ·rw [if_pos c61] at H
                         have c61b0 : decide (x15_5 < (t241.length : Int)) = true := decide_eq_true c61
                         clear c61
                         by_cases c62 : 0 ≤ x14_4
                         ·rw [if_pos c62] at H
                          have c62b0 : decide (0 ≤ x14_4) = true := decide_eq_true c62
                          clear c62
                          by_cases c63 : x14_4 < ((rd_L6 t241 x15_5).length : Int)
                          ·rw [if_pos c63] at H
                           have c63b0 : decide (x14_4 < ((rd_L6 t241 x15_5).length : Int)) = true := decide_eq_true c63
                           clear c63
                           by_cases c64 : (rd (rd_L6 t241 x15_5) x14_4) < 1000000
                           ·rw [if_pos c64] at H
                            have c64b0 : decide ((rd (rd_L6 t241 x15_5) x14_4) < 1000000) = true := decide_eq_true c64
                            clear c64
                            by_cases c65 : x14_4 < ((rd_L6 t241 x13_2).length : Int)
                            ·rw [if_pos c65] at H
                             have c65b0 : decide (x14_4 < ((rd_L6 t241 x13_2).length : Int)) = true := decide_eq_true c65
                             clear c65
                             by_cases c66 : (rd (rd_L6 t241 x13_2) x14_4) > (wrap64 ((rd (rd_L6 t241 x13_2) x15_5) + (rd (rd_L6 t241 x15_5) x14_4)))
                             ·rw [if_pos c66] at H
                              have c66b0 : decide ((wrap64 ((rd (rd_L6 t241 x13_2) x15_5) + (rd (rd_L6 t241 x15_5) x14_4))) < (rd (rd_L6 t241 x13_2) x14_4)) = true := decide_eq_true c66
                              clear c66
                              obtain rfl := Option.some.inj H
                              have p261 : 0 ≤ (x13_2 : Int) := of_decide_eq_true (by with_reducible assumption)
                              have q261 : x13_2 < (t241.length : Int) := of_decide_eq_true (by with_reducible assumption)
                              obtain ⟨ad261, A261_0, c261_0, e261, hx261_0, hl261_0, hi261_0⟩ := at_L6 (Kd.S_reads' HO_7.out).2.2 x13_2 p261 q261
                              cases e261
                              obtain ⟨ce261, hce261, hMe261, hcc261⟩ := Kd.S_get HO_7.out [] x13_2 p261 (by first | exact q261 | exact of_decide_eq_true (by with_reducible assumption) | (have e_ := (Kd.S_reads' HO_7.out).1; omega))
                              obtain ⟨ve261_0, rfl, ge261_0⟩ := hMe261
                              have hv261_0 := hcc261 0 _ rfl
                              rw [Nat.add_zero, show ((Kd.slice 2 (Kd.int .i64))).sz = 1 from rfl, Nat.mul_one] at hv261_0
                              replace hv261_0 := Option.some.inj (hv261_0.symm.trans hx261_0)
                              rw [hv261_0] at ge261_0
                              have HL261_0 := Aside0.mk (show Kd.R (Kd.int .i64) 2 _ _ _ _ (rd_L6 t241 x13_2) from ge261_0)
                              clear hv261_0 ge261_0
                              clear hcc261 hce261
                              have HR261_0 := Aside0.mk hi261_0
                              have HC261_0 := Aside0.mk hl261_0
                              clear hi261_0 hl261_0
                              replace p261 := eq_true p261
                              replace q261 := eq_true q261
                              have p262 : 0 ≤ (x15_5 : Int) := of_decide_eq_true (by with_reducible assumption)
                              have q262 : x15_5 < ((rd_L6 t241 x13_2).length : Int) := of_decide_eq_true (by with_reducible assumption)
                              obtain ⟨ad262, e262, hx262_0⟩ := Kd.at_int (by repeat (first | (with_reducible exact HR261_0.out) | (with_reducible refine Kd.C_alloc ?_ _) | (with_reducible refine Kd.C_drewN ?_ _) | (with_reducible refine Kd.C_drew ?_) | exact HR261_0.out)) x15_5 p262 q262
                              cases e262
                              replace p262 := eq_true p262
                              replace q262 := eq_true q262
                              have p263 : 0 ≤ (x15_5 : Int) := of_decide_eq_true (by with_reducible assumption)
                              have q263 : x15_5 < (t241.length : Int) := of_decide_eq_true (by with_reducible assumption)
                              obtain ⟨ad263, A263_0, c263_0, e263, hx263_0, hl263_0, hi263_0⟩ := at_L6 (Kd.S_reads' HO_7.out).2.2 x15_5 p263 q263
                              obtain rfl : ad261 = ad263 := (by injection e263)
                              obtain ⟨ce263, hce263, hMe263, hcc263⟩ := Kd.S_get HO_7.out [] x15_5 p263 (by first | exact q263 | exact of_decide_eq_true (by with_reducible assumption) | (have e_ := (Kd.S_reads' HO_7.out).1; omega))
                              obtain ⟨ve263_0, rfl, ge263_0⟩ := hMe263
                              have hv263_0 := hcc263 0 _ rfl
                              rw [Nat.add_zero, show ((Kd.slice 2 (Kd.int .i64))).sz = 1 from rfl, Nat.mul_one] at hv263_0
                              replace hv263_0 := Option.some.inj (hv263_0.symm.trans hx263_0)
                              rw [hv263_0] at ge263_0
                              have HL263_0 := Aside0.mk (show Kd.R (Kd.int .i64) 2 _ _ _ _ (rd_L6 t241 x15_5) from ge263_0)
                              clear hv263_0 ge263_0
                              clear hcc263 hce263
                              have HR263_0 := Aside0.mk hi263_0
                              have HC263_0 := Aside0.mk hl263_0
                              clear hi263_0 hl263_0
                              replace p263 := eq_true p263
                              replace q263 := eq_true q263
                              have p264 : 0 ≤ (x14_4 : Int) := of_decide_eq_true (by with_reducible assumption)
                              have q264 : x14_4 < ((rd_L6 t241 x15_5).length : Int) := of_decide_eq_true (by with_reducible assumption)
                              obtain ⟨ad264, e264, hx264_0⟩ := Kd.at_int (by repeat (first | (with_reducible exact HR263_0.out) | (with_reducible refine Kd.C_alloc ?_ _) | (with_reducible refine Kd.C_drewN ?_ _) | (with_reducible refine Kd.C_drew ?_) | exact HR263_0.out)) x14_4 p264 q264
                              cases e264
                              replace p264 := eq_true p264
                              replace q264 := eq_true q264
                              have p265 : 0 ≤ (x13_2 : Int) := of_decide_eq_true (by with_reducible assumption)
                              have q265 : x13_2 < (t241.length : Int) := of_decide_eq_true (by with_reducible assumption)
                              obtain ⟨ad265, A265_0, c265_0, e265, hx265_0, hl265_0, hi265_0⟩ := at_L6 (Kd.S_reads' HO_7.out).2.2 x13_2 p265 q265
                              obtain rfl : ad261 = ad265 := (by injection e265)
                              obtain ⟨ce265, hce265, hMe265, hcc265⟩ := Kd.S_get HO_7.out [] x13_2 p265 (by first | exact q265 | exact of_decide_eq_true (by with_reducible assumption) | (have e_ := (Kd.S_reads' HO_7.out).1; omega))
                              obtain ⟨ve265_0, rfl, ge265_0⟩ := hMe265
                              have hv265_0 := hcc265 0 _ rfl
                              rw [Nat.add_zero, show ((Kd.slice 2 (Kd.int .i64))).sz = 1 from rfl, Nat.mul_one] at hv265_0
                              replace hv265_0 := Option.some.inj (hv265_0.symm.trans hx265_0)
                              rw [hv265_0] at ge265_0
                              have HL265_0 := Aside0.mk (show Kd.R (Kd.int .i64) 2 _ _ _ _ (rd_L6 t241 x13_2) from ge265_0)
                              clear hv265_0 ge265_0
                              clear hcc265 hce265
                              have HR265_0 := Aside0.mk hi265_0
                              have HC265_0 := Aside0.mk hl265_0
                              clear hi265_0 hl265_0
                              replace p265 := eq_true p265
                              replace q265 := eq_true q265
                              have ea_ := Option.some.inj (hx261_0.symm.trans hx265_0)
                              injection ea_ with ea_ en_ ec_
                              subst ea_
                              subst ec_
                              clear en_
                              have p266 : 0 ≤ (x14_4 : Int) := of_decide_eq_true (by with_reducible assumption)
                              have q266 : x14_4 < ((rd_L6 t241 x13_2).length : Int) := of_decide_eq_true (by with_reducible assumption)
                              obtain ⟨ad266, e266, hx266_0⟩ := Kd.at_int (by repeat (first | (with_reducible exact HR265_0.out) | (with_reducible refine Kd.C_alloc ?_ _) | (with_reducible refine Kd.C_drewN ?_ _) | (with_reducible refine Kd.C_drew ?_) | exact HR265_0.out)) x14_4 p266 q266
                              cases e266
                              replace p266 := eq_true p266
                              replace q266 := eq_true q266
                              have p267 : 0 ≤ (x13_2 : Int) := of_decide_eq_true (by with_reducible assumption)
                              have q267 : x13_2 < (t241.length : Int) := of_decide_eq_true (by with_reducible assumption)
                              obtain ⟨ad267, A267_0, c267_0, e267, hx267_0, hl267_0, hi267_0⟩ := at_L6 (Kd.S_reads' HO_7.out).2.2 x13_2 p267 q267
                              obtain rfl : ad261 = ad267 := (by injection e267)
                              obtain ⟨ce267, hce267, hMe267, hcc267⟩ := Kd.S_get HO_7.out [] x13_2 p267 (by first | exact q267 | exact of_decide_eq_true (by with_reducible assumption) | (have e_ := (Kd.S_reads' HO_7.out).1; omega))
                              obtain ⟨ve267_0, rfl, ge267_0⟩ := hMe267
                              have hv267_0 := hcc267 0 _ rfl
                              rw [Nat.add_zero, show ((Kd.slice 2 (Kd.int .i64))).sz = 1 from rfl, Nat.mul_one] at hv267_0
                              replace hv267_0 := Option.some.inj (hv267_0.symm.trans hx267_0)
                              rw [hv267_0] at ge267_0
                              have HL267_0 := Aside0.mk (show Kd.R (Kd.int .i64) 2 _ _ _ _ (rd_L6 t241 x13_2) from ge267_0)
                              clear hv267_0 ge267_0
                              clear hcc267 hce267
                              have HR267_0 := Aside0.mk hi267_0
                              have HC267_0 := Aside0.mk hl267_0
                              clear hi267_0 hl267_0
                              replace p267 := eq_true p267
                              replace q267 := eq_true q267
                              have ea_ := Option.some.inj (hx261_0.symm.trans hx267_0)
                              injection ea_ with ea_ en_ ec_
                              subst ea_
                              subst ec_
                              clear en_
                              have p268 : 0 ≤ (x15_5 : Int) := of_decide_eq_true (by with_reducible assumption)
                              have q268 : x15_5 < ((rd_L6 t241 x13_2).length : Int) := of_decide_eq_true (by with_reducible assumption)
                              obtain ⟨ad268, e268, hx268_0⟩ := Kd.at_int (by repeat (first | (with_reducible exact HR267_0.out) | (with_reducible refine Kd.C_alloc ?_ _) | (with_reducible refine Kd.C_drewN ?_ _) | (with_reducible refine Kd.C_drew ?_) | exact HR267_0.out)) x15_5 p268 q268
                              cases e268
                              replace p268 := eq_true p268
                              replace q268 := eq_true q268
                              have p269 : 0 ≤ (x15_5 : Int) := of_decide_eq_true (by with_reducible assumption)
                              have q269 : x15_5 < (t241.length : Int) := of_decide_eq_true (by with_reducible assumption)
                              obtain ⟨ad269, A269_0, c269_0, e269, hx269_0, hl269_0, hi269_0⟩ := at_L6 (Kd.S_reads' HO_7.out).2.2 x15_5 p269 q269
                              obtain rfl : ad261 = ad269 := (by injection e269)
                              obtain ⟨ce269, hce269, hMe269, hcc269⟩ := Kd.S_get HO_7.out [] x15_5 p269 (by first | exact q269 | exact of_decide_eq_true (by with_reducible assumption) | (have e_ := (Kd.S_reads' HO_7.out).1; omega))
                              obtain ⟨ve269_0, rfl, ge269_0⟩ := hMe269
                              have hv269_0 := hcc269 0 _ rfl
                              rw [Nat.add_zero, show ((Kd.slice 2 (Kd.int .i64))).sz = 1 from rfl, Nat.mul_one] at hv269_0
                              replace hv269_0 := Option.some.inj (hv269_0.symm.trans hx269_0)
                              rw [hv269_0] at ge269_0
                              have HL269_0 := Aside0.mk (show Kd.R (Kd.int .i64) 2 _ _ _ _ (rd_L6 t241 x15_5) from ge269_0)
                              clear hv269_0 ge269_0
                              clear hcc269 hce269
                              have HR269_0 := Aside0.mk hi269_0
                              have HC269_0 := Aside0.mk hl269_0
                              clear hi269_0 hl269_0
                              replace p269 := eq_true p269
                              replace q269 := eq_true q269
                              have ea_ := Option.some.inj (hx263_0.symm.trans hx269_0)
                              injection ea_ with ea_ en_ ec_
                              subst ea_
                              subst ec_
                              clear en_
                              have p270 : 0 ≤ (x14_4 : Int) := of_decide_eq_true (by with_reducible assumption)
                              have q270 : x14_4 < ((rd_L6 t241 x15_5).length : Int) := of_decide_eq_true (by with_reducible assumption)
                              obtain ⟨ad270, e270, hx270_0⟩ := Kd.at_int (by repeat (first | (with_reducible exact HR269_0.out) | (with_reducible refine Kd.C_alloc ?_ _) | (with_reducible refine Kd.C_drewN ?_ _) | (with_reducible refine Kd.C_drew ?_) | exact HR269_0.out)) x14_4 p270 q270
                              cases e270
                              replace p270 := eq_true p270
                              replace q270 := eq_true q270
                              go_wp2
                              repeat (go_quiet (fail); try go_wp2)
                              go_ret
                              exact ⟨by first | rfl | (simp [errW_none, errW_some] <;> rfl) | (simp [*, errW_none, errW_some] <;> rfl), by repeat (first | (with_reducible first | exact HB.out | apply below_alloc | apply pw_below_drewN | apply below_drew1 | refine below_set ?_ GE240.out) | exact HB.out)⟩
                             ·rw [if_neg c66] at H
                              have c66b0 : decide ((wrap64 ((rd (rd_L6 t241 x13_2) x15_5) + (rd (rd_L6 t241 x15_5) x14_4))) < (rd (rd_L6 t241 x13_2) x14_4)) = false := decide_eq_false c66
                              clear c66
                              have H' := Aside0.mk H
                              clear H
                              have p261 : 0 ≤ (x13_2 : Int) := of_decide_eq_true (by with_reducible assumption)
                              have q261 : x13_2 < (t241.length : Int) := of_decide_eq_true (by with_reducible assumption)
                              obtain ⟨ad261, A261_0, c261_0, e261, hx261_0, hl261_0, hi261_0⟩ := at_L6 (Kd.S_reads' HO_7.out).2.2 x13_2 p261 q261
                              cases e261
                              obtain ⟨ce261, hce261, hMe261, hcc261⟩ := Kd.S_get HO_7.out [] x13_2 p261 (by first | exact q261 | exact of_decide_eq_true (by with_reducible assumption) | (have e_ := (Kd.S_reads' HO_7.out).1; omega))
                              obtain ⟨ve261_0, rfl, ge261_0⟩ := hMe261
                              have hv261_0 := hcc261 0 _ rfl
                              rw [Nat.add_zero, show ((Kd.slice 2 (Kd.int .i64))).sz = 1 from rfl, Nat.mul_one] at hv261_0
                              replace hv261_0 := Option.some.inj (hv261_0.symm.trans hx261_0)
                              rw [hv261_0] at ge261_0
                              have HL261_0 := Aside0.mk (show Kd.R (Kd.int .i64) 2 _ _ _ _ (rd_L6 t241 x13_2) from ge261_0)
                              clear hv261_0 ge261_0
                              clear hcc261 hce261
                              have HR261_0 := Aside0.mk hi261_0
                              have HC261_0 := Aside0.mk hl261_0
                              clear hi261_0 hl261_0
                              replace p261 := eq_true p261
                              replace q261 := eq_true q261
                              have p262 : 0 ≤ (x15_5 : Int) := of_decide_eq_true (by with_reducible assumption)
                              have q262 : x15_5 < ((rd_L6 t241 x13_2).length : Int) := of_decide_eq_true (by with_reducible assumption)
                              obtain ⟨ad262, e262, hx262_0⟩ := Kd.at_int (by repeat (first | (with_reducible exact HR261_0.out) | (with_reducible refine Kd.C_alloc ?_ _) | (with_reducible refine Kd.C_drewN ?_ _) | (with_reducible refine Kd.C_drew ?_) | exact HR261_0.out)) x15_5 p262 q262
                              cases e262
                              replace p262 := eq_true p262
                              replace q262 := eq_true q262
                              have p263 : 0 ≤ (x15_5 : Int) := of_decide_eq_true (by with_reducible assumption)
                              have q263 : x15_5 < (t241.length : Int) := of_decide_eq_true (by with_reducible assumption)
                              obtain ⟨ad263, A263_0, c263_0, e263, hx263_0, hl263_0, hi263_0⟩ := at_L6 (Kd.S_reads' HO_7.out).2.2 x15_5 p263 q263
                              obtain rfl : ad261 = ad263 := (by injection e263)
                              obtain ⟨ce263, hce263, hMe263, hcc263⟩ := Kd.S_get HO_7.out [] x15_5 p263 (by first | exact q263 | exact of_decide_eq_true (by with_reducible assumption) | (have e_ := (Kd.S_reads' HO_7.out).1; omega))
                              obtain ⟨ve263_0, rfl, ge263_0⟩ := hMe263
                              have hv263_0 := hcc263 0 _ rfl
                              rw [Nat.add_zero, show ((Kd.slice 2 (Kd.int .i64))).sz = 1 from rfl, Nat.mul_one] at hv263_0
                              replace hv263_0 := Option.some.inj (hv263_0.symm.trans hx263_0)
                              rw [hv263_0] at ge263_0
                              have HL263_0 := Aside0.mk (show Kd.R (Kd.int .i64) 2 _ _ _ _ (rd_L6 t241 x15_5) from ge263_0)
                              clear hv263_0 ge263_0
                              clear hcc263 hce263
                              have HR263_0 := Aside0.mk hi263_0
                              have HC263_0 := Aside0.mk hl263_0
                              clear hi263_0 hl263_0
                              replace p263 := eq_true p263
                              replace q263 := eq_true q263
                              have p264 : 0 ≤ (x14_4 : Int) := of_decide_eq_true (by with_reducible assumption)
                              have q264 : x14_4 < ((rd_L6 t241 x15_5).length : Int) := of_decide_eq_true (by with_reducible assumption)
                              obtain ⟨ad264, e264, hx264_0⟩ := Kd.at_int (by repeat (first | (with_reducible exact HR263_0.out) | (with_reducible refine Kd.C_alloc ?_ _) | (with_reducible refine Kd.C_drewN ?_ _) | (with_reducible refine Kd.C_drew ?_) | exact HR263_0.out)) x14_4 p264 q264
                              cases e264
                              replace p264 := eq_true p264
                              replace q264 := eq_true q264
                              have p265 : 0 ≤ (x13_2 : Int) := of_decide_eq_true (by with_reducible assumption)
                              have q265 : x13_2 < (t241.length : Int) := of_decide_eq_true (by with_reducible assumption)
                              obtain ⟨ad265, A265_0, c265_0, e265, hx265_0, hl265_0, hi265_0⟩ := at_L6 (Kd.S_reads' HO_7.out).2.2 x13_2 p265 q265
                              obtain rfl : ad261 = ad265 := (by injection e265)
                              obtain ⟨ce265, hce265, hMe265, hcc265⟩ := Kd.S_get HO_7.out [] x13_2 p265 (by first | exact q265 | exact of_decide_eq_true (by with_reducible assumption) | (have e_ := (Kd.S_reads' HO_7.out).1; omega))
                              obtain ⟨ve265_0, rfl, ge265_0⟩ := hMe265
                              have hv265_0 := hcc265 0 _ rfl
                              rw [Nat.add_zero, show ((Kd.slice 2 (Kd.int .i64))).sz = 1 from rfl, Nat.mul_one] at hv265_0
                              replace hv265_0 := Option.some.inj (hv265_0.symm.trans hx265_0)
                              rw [hv265_0] at ge265_0
                              have HL265_0 := Aside0.mk (show Kd.R (Kd.int .i64) 2 _ _ _ _ (rd_L6 t241 x13_2) from ge265_0)
                              clear hv265_0 ge265_0
                              clear hcc265 hce265
                              have HR265_0 := Aside0.mk hi265_0
                              have HC265_0 := Aside0.mk hl265_0
                              clear hi265_0 hl265_0
                              replace p265 := eq_true p265
                              replace q265 := eq_true q265
                              have ea_ := Option.some.inj (hx261_0.symm.trans hx265_0)
                              injection ea_ with ea_ en_ ec_
                              subst ea_
                              subst ec_
                              clear en_
                              have p266 : 0 ≤ (x14_4 : Int) := of_decide_eq_true (by with_reducible assumption)
                              have q266 : x14_4 < ((rd_L6 t241 x13_2).length : Int) := of_decide_eq_true (by with_reducible assumption)
                              obtain ⟨ad266, e266, hx266_0⟩ := Kd.at_int (by repeat (first | (with_reducible exact HR265_0.out) | (with_reducible refine Kd.C_alloc ?_ _) | (with_reducible refine Kd.C_drewN ?_ _) | (with_reducible refine Kd.C_drew ?_) | exact HR265_0.out)) x14_4 p266 q266
                              cases e266
                              replace p266 := eq_true p266
                              replace q266 := eq_true q266
                              have p267 : 0 ≤ (x13_2 : Int) := of_decide_eq_true (by with_reducible assumption)
                              have q267 : x13_2 < (t241.length : Int) := of_decide_eq_true (by with_reducible assumption)
                              obtain ⟨ad267, A267_0, c267_0, e267, hx267_0, hl267_0, hi267_0⟩ := at_L6 (Kd.S_reads' HO_7.out).2.2 x13_2 p267 q267
                              obtain rfl : ad261 = ad267 := (by injection e267)
                              obtain ⟨ce267, hce267, hMe267, hcc267⟩ := Kd.S_get HO_7.out [] x13_2 p267 (by first | exact q267 | exact of_decide_eq_true (by with_reducible assumption) | (have e_ := (Kd.S_reads' HO_7.out).1; omega))
                              obtain ⟨ve267_0, rfl, ge267_0⟩ := hMe267
                              have hv267_0 := hcc267 0 _ rfl
                              rw [Nat.add_zero, show ((Kd.slice 2 (Kd.int .i64))).sz = 1 from rfl, Nat.mul_one] at hv267_0
                              replace hv267_0 := Option.some.inj (hv267_0.symm.trans hx267_0)
                              rw [hv267_0] at ge267_0
                              have HL267_0 := Aside0.mk (show Kd.R (Kd.int .i64) 2 _ _ _ _ (rd_L6 t241 x13_2) from ge267_0)
                              clear hv267_0 ge267_0
                              clear hcc267 hce267
                              have HR267_0 := Aside0.mk hi267_0
                              have HC267_0 := Aside0.mk hl267_0
                              clear hi267_0 hl267_0
                              replace p267 := eq_true p267
                              replace q267 := eq_true q267
                              have ea_ := Option.some.inj (hx261_0.symm.trans hx267_0)
                              injection ea_ with ea_ en_ ec_
                              subst ea_
                              subst ec_
                              clear en_
                              have p268 : 0 ≤ (x15_5 : Int) := of_decide_eq_true (by with_reducible assumption)
                              have q268 : x15_5 < ((rd_L6 t241 x13_2).length : Int) := of_decide_eq_true (by with_reducible assumption)
                              obtain ⟨ad268, e268, hx268_0⟩ := Kd.at_int (by repeat (first | (with_reducible exact HR267_0.out) | (with_reducible refine Kd.C_alloc ?_ _) | (with_reducible refine Kd.C_drewN ?_ _) | (with_reducible refine Kd.C_drew ?_) | exact HR267_0.out)) x15_5 p268 q268
                              cases e268
                              replace p268 := eq_true p268
                              replace q268 := eq_true q268
                              have p269 : 0 ≤ (x15_5 : Int) := of_decide_eq_true (by with_reducible assumption)
                              have q269 : x15_5 < (t241.length : Int) := of_decide_eq_true (by with_reducible assumption)
                              obtain ⟨ad269, A269_0, c269_0, e269, hx269_0, hl269_0, hi269_0⟩ := at_L6 (Kd.S_reads' HO_7.out).2.2 x15_5 p269 q269
                              obtain rfl : ad261 = ad269 := (by injection e269)
                              obtain ⟨ce269, hce269, hMe269, hcc269⟩ := Kd.S_get HO_7.out [] x15_5 p269 (by first | exact q269 | exact of_decide_eq_true (by with_reducible assumption) | (have e_ := (Kd.S_reads' HO_7.out).1; omega))
                              obtain ⟨ve269_0, rfl, ge269_0⟩ := hMe269
                              have hv269_0 := hcc269 0 _ rfl
                              rw [Nat.add_zero, show ((Kd.slice 2 (Kd.int .i64))).sz = 1 from rfl, Nat.mul_one] at hv269_0
                              replace hv269_0 := Option.some.inj (hv269_0.symm.trans hx269_0)
                              rw [hv269_0] at ge269_0
                              have HL269_0 := Aside0.mk (show Kd.R (Kd.int .i64) 2 _ _ _ _ (rd_L6 t241 x15_5) from ge269_0)
                              clear hv269_0 ge269_0
                              clear hcc269 hce269
                              have HR269_0 := Aside0.mk hi269_0
                              have HC269_0 := Aside0.mk hl269_0
                              clear hi269_0 hl269_0
                              replace p269 := eq_true p269
                              replace q269 := eq_true q269
                              have ea_ := Option.some.inj (hx263_0.symm.trans hx269_0)
                              injection ea_ with ea_ en_ ec_
                              subst ea_
                              subst ec_
                              clear en_
                              have p270 : 0 ≤ (x14_4 : Int) := of_decide_eq_true (by with_reducible assumption)
                              have q270 : x14_4 < ((rd_L6 t241 x15_5).length : Int) := of_decide_eq_true (by with_reducible assumption)
                              obtain ⟨ad270, e270, hx270_0⟩ := Kd.at_int (by repeat (first | (with_reducible exact HR269_0.out) | (with_reducible refine Kd.C_alloc ?_ _) | (with_reducible refine Kd.C_drewN ?_ _) | (with_reducible refine Kd.C_drew ?_) | exact HR269_0.out)) x14_4 p270 q270
                              cases e270
                              replace p270 := eq_true p270
                              replace q270 := eq_true q270
                              go_wp2
                              repeat (go_quiet (fail); try go_wp2)
                              go_roundg k5
                              case measure => have := HJ7.out; have := HK2.out; have := HJ47.out; have := HK4.out; have := HK5.out; omega
                              case rel => exact ⟨(wrap64 (x15_5 + 1)), (by first | rfl | (simp; done) | (simp [*]; done)), H', ⟨by have := HJ7.out; have := HK2.out; have := HJ47.out; have := HK4.out; have := HK5.out; omega⟩, ⟨by (with_reducible repeat (first | apply Kd.S_alloc | apply Kd.S_drewN | apply Kd.S_drew)); exact HO_7.out⟩, ⟨by (with_reducible repeat (first | apply Kd.R_alloc | apply Kd.R_drewN | apply Kd.R_drew)); exact HO_241001.out⟩, ⟨by (with_reducible repeat (first | refine blk_drewN ?_ _ | refine blk_drew ?_ | refine blk_alloc ?_ _)); exact BK240.out⟩, ⟨by repeat (first | (with_reducible first | exact HB.out | apply below_alloc | apply pw_below_drewN | apply below_drew1 | refine below_set ?_ GE240.out) | exact HB.out)⟩⟩
                            ·rw [if_neg c65] at H
                             exact absurd H (by simp)
                           ·rw [if_neg c64] at H
                            have c64b0 : decide ((rd (rd_L6 t241 x15_5) x14_4) < 1000000) = false := decide_eq_false c64
                            clear c64
                            have H' := Aside0.mk H
                            clear H
                            have p261 : 0 ≤ (x13_2 : Int) := of_decide_eq_true (by with_reducible assumption)
                            have q261 : x13_2 < (t241.length : Int) := of_decide_eq_true (by with_reducible assumption)
                            obtain ⟨ad261, A261_0, c261_0, e261, hx261_0, hl261_0, hi261_0⟩ := at_L6 (Kd.S_reads' HO_7.out).2.2 x13_2 p261 q261
                            cases e261
                            obtain ⟨ce261, hce261, hMe261, hcc261⟩ := Kd.S_get HO_7.out [] x13_2 p261 (by first | exact q261 | exact of_decide_eq_true (by with_reducible assumption) | (have e_ := (Kd.S_reads' HO_7.out).1; omega))
                            obtain ⟨ve261_0, rfl, ge261_0⟩ := hMe261
                            have hv261_0 := hcc261 0 _ rfl
                            rw [Nat.add_zero, show ((Kd.slice 2 (Kd.int .i64))).sz = 1 from rfl, Nat.mul_one] at hv261_0
                            replace hv261_0 := Option.some.inj (hv261_0.symm.trans hx261_0)
                            rw [hv261_0] at ge261_0
                            have HL261_0 := Aside0.mk (show Kd.R (Kd.int .i64) 2 _ _ _ _ (rd_L6 t241 x13_2) from ge261_0)
                            clear hv261_0 ge261_0
                            clear hcc261 hce261
                            have HR261_0 := Aside0.mk hi261_0
                            have HC261_0 := Aside0.mk hl261_0
                            clear hi261_0 hl261_0
                            replace p261 := eq_true p261
                            replace q261 := eq_true q261
                            have p262 : 0 ≤ (x15_5 : Int) := of_decide_eq_true (by with_reducible assumption)
                            have q262 : x15_5 < ((rd_L6 t241 x13_2).length : Int) := of_decide_eq_true (by with_reducible assumption)
                            obtain ⟨ad262, e262, hx262_0⟩ := Kd.at_int (by repeat (first | (with_reducible exact HR261_0.out) | (with_reducible refine Kd.C_alloc ?_ _) | (with_reducible refine Kd.C_drewN ?_ _) | (with_reducible refine Kd.C_drew ?_) | exact HR261_0.out)) x15_5 p262 q262
                            cases e262
                            replace p262 := eq_true p262
                            replace q262 := eq_true q262
                            have p263 : 0 ≤ (x15_5 : Int) := of_decide_eq_true (by with_reducible assumption)
                            have q263 : x15_5 < (t241.length : Int) := of_decide_eq_true (by with_reducible assumption)
                            obtain ⟨ad263, A263_0, c263_0, e263, hx263_0, hl263_0, hi263_0⟩ := at_L6 (Kd.S_reads' HO_7.out).2.2 x15_5 p263 q263
                            obtain rfl : ad261 = ad263 := (by injection e263)
                            obtain ⟨ce263, hce263, hMe263, hcc263⟩ := Kd.S_get HO_7.out [] x15_5 p263 (by first | exact q263 | exact of_decide_eq_true (by with_reducible assumption) | (have e_ := (Kd.S_reads' HO_7.out).1; omega))
                            obtain ⟨ve263_0, rfl, ge263_0⟩ := hMe263
                            have hv263_0 := hcc263 0 _ rfl
                            rw [Nat.add_zero, show ((Kd.slice 2 (Kd.int .i64))).sz = 1 from rfl, Nat.mul_one] at hv263_0
                            replace hv263_0 := Option.some.inj (hv263_0.symm.trans hx263_0)
                            rw [hv263_0] at ge263_0
                            have HL263_0 := Aside0.mk (show Kd.R (Kd.int .i64) 2 _ _ _ _ (rd_L6 t241 x15_5) from ge263_0)
                            clear hv263_0 ge263_0
                            clear hcc263 hce263
                            have HR263_0 := Aside0.mk hi263_0
                            have HC263_0 := Aside0.mk hl263_0
                            clear hi263_0 hl263_0
                            replace p263 := eq_true p263
                            replace q263 := eq_true q263
                            have p264 : 0 ≤ (x14_4 : Int) := of_decide_eq_true (by with_reducible assumption)
                            have q264 : x14_4 < ((rd_L6 t241 x15_5).length : Int) := of_decide_eq_true (by with_reducible assumption)
                            obtain ⟨ad264, e264, hx264_0⟩ := Kd.at_int (by repeat (first | (with_reducible exact HR263_0.out) | (with_reducible refine Kd.C_alloc ?_ _) | (with_reducible refine Kd.C_drewN ?_ _) | (with_reducible refine Kd.C_drew ?_) | exact HR263_0.out)) x14_4 p264 q264
                            cases e264
                            replace p264 := eq_true p264
                            replace q264 := eq_true q264
                            go_wp2
                            repeat (go_quiet (fail); try go_wp2)
                            go_roundg k5
                            case measure => have := HJ7.out; have := HK2.out; have := HJ47.out; have := HK4.out; have := HK5.out; omega
                            case rel => exact ⟨(wrap64 (x15_5 + 1)), (by first | rfl | (simp; done) | (simp [*]; done)), H', ⟨by have := HJ7.out; have := HK2.out; have := HJ47.out; have := HK4.out; have := HK5.out; omega⟩, ⟨by (with_reducible repeat (first | apply Kd.S_alloc | apply Kd.S_drewN | apply Kd.S_drew)); exact HO_7.out⟩, ⟨by (with_reducible repeat (first | apply Kd.R_alloc | apply Kd.R_drewN | apply Kd.R_drew)); exact HO_241001.out⟩, ⟨by (with_reducible repeat (first | refine blk_drewN ?_ _ | refine blk_drew ?_ | refine blk_alloc ?_ _)); exact BK240.out⟩, ⟨by repeat (first | (with_reducible first | exact HB.out | apply below_alloc | apply pw_below_drewN | apply below_drew1 | refine below_set ?_ GE240.out) | exact HB.out)⟩⟩
                          ·rw [if_neg c63] at H
                           exact absurd H (by simp)
                         ·rw [if_neg c62] at H
                          exact absurd H (by simp)
                        ·rw [if_neg c61] at H
                         exact absurd H (by simp)
                       ·rw [if_neg c60] at H
                        have c60b0 : decide ((rd (rd_L6 t241 x13_2) x15_5) < 1000000) = false := decide_eq_false c60
                        clear c60
                        have H' := Aside0.mk H
                        clear H
                        have p261 : 0 ≤ (x13_2 : Int) := of_decide_eq_true (by with_reducible assumption)
                        have q261 : x13_2 < (t241.length : Int) := of_decide_eq_true (by with_reducible assumption)
                        obtain ⟨ad261, A261_0, c261_0, e261, hx261_0, hl261_0, hi261_0⟩ := at_L6 (Kd.S_reads' HO_7.out).2.2 x13_2 p261 q261
                        cases e261
                        obtain ⟨ce261, hce261, hMe261, hcc261⟩ := Kd.S_get HO_7.out [] x13_2 p261 (by first | exact q261 | exact of_decide_eq_true (by with_reducible assumption) | (have e_ := (Kd.S_reads' HO_7.out).1; omega))
                        obtain ⟨ve261_0, rfl, ge261_0⟩ := hMe261
                        have hv261_0 := hcc261 0 _ rfl
                        rw [Nat.add_zero, show ((Kd.slice 2 (Kd.int .i64))).sz = 1 from rfl, Nat.mul_one] at hv261_0
                        replace hv261_0 := Option.some.inj (hv261_0.symm.trans hx261_0)
                        rw [hv261_0] at ge261_0
                        have HL261_0 := Aside0.mk (show Kd.R (Kd.int .i64) 2 _ _ _ _ (rd_L6 t241 x13_2) from ge261_0)
                        clear hv261_0 ge261_0
                        clear hcc261 hce261
                        have HR261_0 := Aside0.mk hi261_0
                        have HC261_0 := Aside0.mk hl261_0
                        clear hi261_0 hl261_0
                        replace p261 := eq_true p261
                        replace q261 := eq_true q261
                        have p262 : 0 ≤ (x15_5 : Int) := of_decide_eq_true (by with_reducible assumption)
                        have q262 : x15_5 < ((rd_L6 t241 x13_2).length : Int) := of_decide_eq_true (by with_reducible assumption)
                        obtain ⟨ad262, e262, hx262_0⟩ := Kd.at_int (by repeat (first | (with_reducible exact HR261_0.out) | (with_reducible refine Kd.C_alloc ?_ _) | (with_reducible refine Kd.C_drewN ?_ _) | (with_reducible refine Kd.C_drew ?_) | exact HR261_0.out)) x15_5 p262 q262
                        cases e262
                        replace p262 := eq_true p262
                        replace q262 := eq_true q262
                        go_wp2
                        repeat (go_quiet (fail); try go_wp2)
                        go_roundg k5
                        case measure => have := HJ7.out; have := HK2.out; have := HJ47.out; have := HK4.out; have := HK5.out; omega
                        case rel => exact ⟨(wrap64 (x15_5 + 1)), (by first | rfl | (simp; done) | (simp [*]; done)), H', ⟨by have := HJ7.out; have := HK2.out; have := HJ47.out; have := HK4.out; have := HK5.out; omega⟩, ⟨by (with_reducible repeat (first | apply Kd.S_alloc | apply Kd.S_drewN | apply Kd.S_drew)); exact HO_7.out⟩, ⟨by (with_reducible repeat (first | apply Kd.R_alloc | apply Kd.R_drewN | apply Kd.R_drew)); exact HO_241001.out⟩, ⟨by (with_reducible repeat (first | refine blk_drewN ?_ _ | refine blk_drew ?_ | refine blk_alloc ?_ _)); exact BK240.out⟩, ⟨by repeat (first | (with_reducible first | exact HB.out | apply below_alloc | apply pw_below_drewN | apply below_drew1 | refine below_set ?_ GE240.out) | exact HB.out)⟩⟩
                      ·rw [if_neg c59] at H
                       exact absurd H (by simp)
                     ·rw [if_neg c58] at H
                      exact absurd H (by simp)
                    ·rw [if_neg c57] at H
                     exact absurd H (by simp)
                   ·rw [if_neg c56] at H
                    exact absurd H (by simp)
                  ·rw [if_neg c55] at H
                   have c55b0 : decide (x15_5 < t236) = false := decide_eq_false c55
                   clear c55
                   have H' := Aside0.mk H
                   clear H
                   go_wp2
                   repeat (go_quiet (fail); try go_wp2)
                   go_roundg k5
                   case measure => have := HJ7.out; have := HK2.out; have := HJ47.out; have := HK4.out; have := HK5.out; omega
                   case rel => exact ⟨(wrap64 (x14_4 + 1)), (by first | rfl | (simp; done) | (simp [*]; done)), H', ⟨by have := HJ7.out; have := HK2.out; have := HJ47.out; have := HK4.out; have := HK5.out; omega⟩, ⟨by (with_reducible repeat (first | apply Kd.S_alloc | apply Kd.S_drewN | apply Kd.S_drew)); exact HO_7.out⟩, ⟨by (with_reducible repeat (first | apply Kd.R_alloc | apply Kd.R_drewN | apply Kd.R_drew)); exact HO_241001.out⟩, ⟨by (with_reducible repeat (first | refine blk_drewN ?_ _ | refine blk_drew ?_ | refine blk_alloc ?_ _)); exact BK240.out⟩, ⟨by repeat (first | (with_reducible first | exact HB.out | apply below_alloc | apply pw_below_drewN | apply below_drew1 | refine below_set ?_ GE240.out) | exact HB.out)⟩⟩
               ·rw [if_neg c54] at H
                have c54b0 : decide (x14_4 < t236) = false := decide_eq_false c54
                clear c54
                have H' := Aside0.mk H
                clear H
                go_wp2
                repeat (go_quiet (fail); try go_wp2)
                go_roundg k4
                case measure => have := HJ7.out; have := HK2.out; have := HJ47.out; have := HK4.out; omega
                case rel => exact ⟨(wrap64 (x13_2 + 1)), (by first | rfl | (simp; done) | (simp [*]; done)), H', ⟨by have := HJ7.out; have := HK2.out; have := HJ47.out; have := HK4.out; omega⟩, ⟨by (with_reducible repeat (first | apply Kd.S_alloc | apply Kd.S_drewN | apply Kd.S_drew)); exact HO_7.out⟩, ⟨by (with_reducible repeat (first | apply Kd.R_alloc | apply Kd.R_drewN | apply Kd.R_drew)); exact HO_241001.out⟩, ⟨by (with_reducible repeat (first | refine blk_drewN ?_ _ | refine blk_drew ?_ | refine blk_alloc ?_ _)); exact BK240.out⟩, ⟨by repeat (first | (with_reducible first | exact HB.out | apply below_alloc | apply pw_below_drewN | apply below_drew1 | refine below_set ?_ GE240.out) | exact HB.out)⟩⟩
         ·rw [if_neg c47] at H
          have c47b0 : decide (x13_2 < t236) = false := decide_eq_false c47
          clear c47
          have H' := Aside0.mk H
          clear H
          go_wp2
          repeat (go_quiet (fail); try go_wp2)
          go_loopg [16] k2 (fun kq v16 w' => ∃ (x16_3 : Int), v16 = .int .i64 x16_3 ∧ Aside0 (laws_FnTight.l4 kq l1 t236 t241 x16_3 t236 t237 = some r) ∧ Aside0 (kq ≤ k2) ∧ Aside0 (Kd.S (Kd.slice 2 (Kd.int .i64)) 31 w' w.heap.size (fun _ => True) (.slice Ao46 t241.length co46) t241) ∧ Aside0 (Kd.R k36 36 w' w.heap.size (fun _ => True) (.slice Ao12 t237.length co12) t237) ∧ Aside0 (w'.heap[gb240]? = some (.cells #[.int .i64 t236, (.slice Ao12 t237.length co12)] 26 (0, 0))) ∧ Aside0 (Below w.heap.size w w'))
          case atStart => exact ⟨(0), (by first | rfl | (simp; done) | (simp [*]; done)), H', ⟨Nat.le_refl _⟩, ⟨by (with_reducible repeat (first | apply Kd.S_alloc | apply Kd.S_drewN | apply Kd.S_drew)); exact HO_7.out⟩, ⟨by (with_reducible repeat (first | apply Kd.R_alloc | apply Kd.R_drewN | apply Kd.R_drew)); exact HO_241001.out⟩, ⟨by (with_reducible repeat (first | refine blk_drewN ?_ _ | refine blk_drew ?_ | refine blk_alloc ?_ _)); exact BK240.out⟩, ⟨by repeat (first | (with_reducible first | exact HB.out | apply below_alloc | apply pw_below_drewN | apply below_drew1 | refine below_set ?_ GE240.out) | exact HB.out)⟩⟩
          case round =>
           clear H'
           try clear c2
           try clear p2
           try clear q2
           try clear hx2
           try clear c3
           try clear c4
           try clear c5
           try clear c6
           try clear p6
           try clear c23
           try clear c23b0
           try clear c24
           try clear c24b0
           try clear c25
           try clear p25
           try clear q25
           try clear hx25
           try clear c26
           try clear c26b0
           try clear p26
           try clear q26
           try clear hx26
           try clear p27
           try clear q27
           try clear hx27
           try clear c29
           try clear c29b0
           try clear c30
           try clear c30b0
           try clear c31
           try clear c31b0
           try clear c31b1
           try clear c31b2
           try clear c33
           try clear c33b0
           try clear c34
           try clear c34b0
           try clear c35
           try clear c35b0
           try clear c36
           try clear c36b0
           try clear c37
           try clear c37b0
           try clear c37b1
           try clear c42
           try clear c42b0
           try clear c45
           try clear c45b0
           try clear c45b1
           try clear c47
           try clear c47b0
           try clear c49
           try clear c49b0
           try clear c50
           try clear c50b0
           try clear c51
           try clear c51b0
           try clear c51b1
           try clear c52
           try clear c52b0
           try clear c53
           try clear c54
           try clear c54b0
           try clear c55
           try clear c55b0
           try clear c56
           try clear c56b0
           try clear c57
           try clear c57b0
           try clear c58
           try clear c58b0
           try clear c59
           try clear c59b0
           try clear c60
           try clear c60b0
           try clear c61
           try clear c61b0
           try clear c62
           try clear c62b0
           try clear c63
           try clear c63b0
           try clear c64
           try clear c64b0
           try clear p64
           try clear c65
           try clear c65b0
           try clear c66
           try clear c66b0
           try clear hcz11_0
           try clear hcz11_1
           try clear hcz14_0
           try clear hcz14_1
           try clear hcz18_0
           try clear hcz18_1
           try clear hcz28_0
           try clear hcz28_1
           try clear hcz39_0
           try clear hcz39_1
           try clear hcz41_0
           try clear hcz41_1
           try clear hfz11_0
           try clear hfz11_1
           try clear hfz14_0
           try clear hfz14_1
           try clear hfz18_0
           try clear hfz18_1
           try clear hfz28_0
           try clear hfz28_1
           try clear hfz39_0
           try clear hfz39_1
           try clear hfz41_0
           try clear hfz41_1
           try clear hx250_0
           try clear hx251_0
           try clear hx252_0
           try clear hx253_0
           try clear hx253_1
           try clear hx253_2
           try clear hx254_0
           try clear hx255_0
           try clear hx255_1
           try clear hx255_2
           try clear hx256_0
           try clear hx257_0
           try clear hx257_1
           try clear hx257_2
           try clear hx258_0
           try clear hx259_0
           try clear hx260_0
           try clear hx261_0
           try clear hx262_0
           try clear hx263_0
           try clear hx264_0
           try clear hx265_0
           try clear hx266_0
           try clear hx267_0
           try clear hx268_0
           try clear hx269_0
           try clear hx270_0
           try clear p2
           try clear p25
           try clear p250
           try clear p251
           try clear p252
           try clear p253
           try clear p254
           try clear p255
           try clear p256
           try clear p257
           try clear p258
           try clear p259
           try clear p26
           try clear p260
           try clear p261
           try clear p262
           try clear p263
           try clear p264
           try clear p265
           try clear p266
           try clear p267
           try clear p268
           try clear p269
           try clear p270
           try clear p6
           try clear q2
           try clear q25
           try clear q250
           try clear q251
           try clear q252
           try clear q253
           try clear q254
           try clear q255
           try clear q256
           try clear q257
           try clear q258
           try clear q259
           try clear q26
           try clear q260
           try clear q261
           try clear q262
           try clear q263
           try clear q264
           try clear q265
           try clear q266
           try clear q267
           try clear q268
           try clear q269
           try clear q270
           obtain ⟨x16_3, rfl, HA, HK3, HO_7, HO_241001, BK240, HB⟩ := hrel
           cases gk with
           | zero => exact absurd HA.out (by simp [laws_FnTight.l4])
           | succ k3 =>
            have H := HA.out
            clear HA
            simp only [laws_FnTight.l4] at H
            by_cases c67 : x16_3 < (t237.length : Int)
            ·rw [if_pos c67] at H
             have c67b0 : decide (x16_3 < (t237.length : Int)) = true := decide_eq_true c67
             clear c67
             by_cases c68 : 0 ≤ x16_3
             ·rw [if_pos c68] at H
              have c68b0 : decide (0 ≤ x16_3) = true := decide_eq_true c68
              clear c68
              by_cases c69 : 0 ≤ ((rd_T36 t237 x16_3).f0)
              ·rw [if_pos c69] at H
               have c69b0 : decide (0 ≤ ((rd_T36 t237 x16_3).f0)) = true := decide_eq_true c69
               clear c69
               by_cases c70 : ((rd_T36 t237 x16_3).f0) < (t241.length : Int)
               ·rw [if_pos c70] at H
                have c70b0 : decide (((rd_T36 t237 x16_3).f0) < (t241.length : Int)) = true := decide_eq_true c70
                clear c70
                by_cases c71 : 0 ≤ ((rd_T36 t237 x16_3).f1)
                ·rw [if_pos c71] at H
                 have c71b0 : decide (0 ≤ ((rd_T36 t237 x16_3).f1)) = true := decide_eq_true c71
                 clear c71
                 by_cases c72 : ((rd_T36 t237 x16_3).f1) < ((rd_L6 t241 ((rd_T36 t237 x16_3).f0)).length : Int)
                 ·rw [if_pos c72] at H
                  have c72b0 : decide (((rd_T36 t237 x16_3).f1) < ((rd_L6 t241 ((rd_T36 t237 x16_3).f0)).length : Int)) = true := decide_eq_true c72
                  clear c72
                  by_cases c73 : (rd (rd_L6 t241 ((rd_T36 t237 x16_3).f0)) ((rd_T36 t237 x16_3).f1)) > ((rd_T36 t237 x16_3).f2)
                  ·rw [if_pos c73] at H
                   have c73b0 : decide (((rd_T36 t237 x16_3).f2) < (rd (rd_L6 t241 ((rd_T36 t237 x16_3).f0)) ((rd_T36 t237 x16_3).f1))) = true := decide_eq_true c73
                   clear c73
                   obtain rfl := Option.some.inj H
                   have hcz74_0 : wr.cell? ⟨gb240, 0, none⟩ = some (.int .i64 t236) := (blk_cell BK240.out 0).trans rfl
                   have hcz74_1 : wr.cell? ⟨gb240, 1, none⟩ = some (.slice Ao12 t237.length co12) := (blk_cell BK240.out 1).trans rfl
                   have hfz74_0 := blk_frozen BK240.out 0
                   have hfz74_1 := blk_frozen BK240.out 1
                   have p271 : 0 ≤ (x16_3 : Int) := of_decide_eq_true (by with_reducible assumption)
                   have q271 : x16_3 < (t237.length : Int) := of_decide_eq_true (by with_reducible assumption)
                   obtain ⟨ad271, e271, hx271_0, hx271_1, hx271_2⟩ := at_T36 (Kd.R_reads' HO_241001.out).2.2 x16_3 p271 q271
                   cases e271
                   replace p271 := eq_true p271
                   replace q271 := eq_true q271
                   have p272 : 0 ≤ (((rd_T36 t237 x16_3).f0) : Int) := of_decide_eq_true (by with_reducible assumption)
                   have q272 : ((rd_T36 t237 x16_3).f0) < (t241.length : Int) := of_decide_eq_true (by with_reducible assumption)
                   obtain ⟨ad272, A272_0, c272_0, e272, hx272_0, hl272_0, hi272_0⟩ := at_L6 (Kd.S_reads' HO_7.out).2.2 ((rd_T36 t237 x16_3).f0) p272 q272
                   cases e272
                   obtain ⟨ce272, hce272, hMe272, hcc272⟩ := Kd.S_get HO_7.out [] ((rd_T36 t237 x16_3).f0) p272 (by first | exact q272 | exact of_decide_eq_true (by with_reducible assumption) | (have e_ := (Kd.S_reads' HO_7.out).1; omega))
                   obtain ⟨ve272_0, rfl, ge272_0⟩ := hMe272
                   have hv272_0 := hcc272 0 _ rfl
                   rw [Nat.add_zero, show ((Kd.slice 2 (Kd.int .i64))).sz = 1 from rfl, Nat.mul_one] at hv272_0
                   replace hv272_0 := Option.some.inj (hv272_0.symm.trans hx272_0)
                   rw [hv272_0] at ge272_0
                   have HL272_0 := Aside0.mk (show Kd.R (Kd.int .i64) 2 _ _ _ _ (rd_L6 t241 ((rd_T36 t237 x16_3).f0)) from ge272_0)
                   clear hv272_0 ge272_0
                   clear hcc272 hce272
                   have HR272_0 := Aside0.mk hi272_0
                   have HC272_0 := Aside0.mk hl272_0
                   clear hi272_0 hl272_0
                   replace p272 := eq_true p272
                   replace q272 := eq_true q272
                   have p273 : 0 ≤ (x16_3 : Int) := of_decide_eq_true (by with_reducible assumption)
                   have q273 : x16_3 < (t237.length : Int) := of_decide_eq_true (by with_reducible assumption)
                   obtain ⟨ad273, e273, hx273_0, hx273_1, hx273_2⟩ := at_T36 (Kd.R_reads' HO_241001.out).2.2 x16_3 p273 q273
                   obtain rfl : ad271 = ad273 := (by injection e273)
                   replace p273 := eq_true p273
                   replace q273 := eq_true q273
                   have p274 : 0 ≤ (((rd_T36 t237 x16_3).f1) : Int) := of_decide_eq_true (by with_reducible assumption)
                   have q274 : ((rd_T36 t237 x16_3).f1) < ((rd_L6 t241 ((rd_T36 t237 x16_3).f0)).length : Int) := of_decide_eq_true (by with_reducible assumption)
                   obtain ⟨ad274, e274, hx274_0⟩ := Kd.at_int (by repeat (first | (with_reducible exact HR272_0.out) | (with_reducible refine Kd.C_alloc ?_ _) | (with_reducible refine Kd.C_drewN ?_ _) | (with_reducible refine Kd.C_drew ?_) | exact HR272_0.out)) ((rd_T36 t237 x16_3).f1) p274 q274
                   cases e274
                   replace p274 := eq_true p274
                   replace q274 := eq_true q274
                   have p275 : 0 ≤ (x16_3 : Int) := of_decide_eq_true (by with_reducible assumption)
                   have q275 : x16_3 < (t237.length : Int) := of_decide_eq_true (by with_reducible assumption)
                   obtain ⟨ad275, e275, hx275_0, hx275_1, hx275_2⟩ := at_T36 (Kd.R_reads' HO_241001.out).2.2 x16_3 p275 q275
                   obtain rfl : ad271 = ad275 := (by injection e275)
                   replace p275 := eq_true p275
                   replace q275 := eq_true q275
                   go_wp2
                   repeat (go_quiet (fail); try go_wp2)
                   go_ret
                   exact ⟨by first | rfl | (simp [errW_none, errW_some] <;> rfl) | (simp [*, errW_none, errW_some] <;> rfl), by repeat (first | (with_reducible first | exact HB.out | apply below_alloc | apply pw_below_drewN | apply below_drew1 | refine below_set ?_ GE240.out) | exact HB.out)⟩
                  ·rw [if_neg c73] at H
                   have c73b0 : decide (((rd_T36 t237 x16_3).f2) < (rd (rd_L6 t241 ((rd_T36 t237 x16_3).f0)) ((rd_T36 t237 x16_3).f1))) = false := decide_eq_false c73
                   clear c73
                   have H' := Aside0.mk H
                   clear H
                   have hcz75_0 : wr.cell? ⟨gb240, 0, none⟩ = some (.int .i64 t236) := (blk_cell BK240.out 0).trans rfl
                   have hcz75_1 : wr.cell? ⟨gb240, 1, none⟩ = some (.slice Ao12 t237.length co12) := (blk_cell BK240.out 1).trans rfl
                   have hfz75_0 := blk_frozen BK240.out 0
                   have hfz75_1 := blk_frozen BK240.out 1
                   have p271 : 0 ≤ (x16_3 : Int) := of_decide_eq_true (by with_reducible assumption)
                   have q271 : x16_3 < (t237.length : Int) := of_decide_eq_true (by with_reducible assumption)
                   obtain ⟨ad271, e271, hx271_0, hx271_1, hx271_2⟩ := at_T36 (Kd.R_reads' HO_241001.out).2.2 x16_3 p271 q271
                   cases e271
                   replace p271 := eq_true p271
                   replace q271 := eq_true q271
                   have p272 : 0 ≤ (((rd_T36 t237 x16_3).f0) : Int) := of_decide_eq_true (by with_reducible assumption)
                   have q272 : ((rd_T36 t237 x16_3).f0) < (t241.length : Int) := of_decide_eq_true (by with_reducible assumption)
                   obtain ⟨ad272, A272_0, c272_0, e272, hx272_0, hl272_0, hi272_0⟩ := at_L6 (Kd.S_reads' HO_7.out).2.2 ((rd_T36 t237 x16_3).f0) p272 q272
                   cases e272
                   obtain ⟨ce272, hce272, hMe272, hcc272⟩ := Kd.S_get HO_7.out [] ((rd_T36 t237 x16_3).f0) p272 (by first | exact q272 | exact of_decide_eq_true (by with_reducible assumption) | (have e_ := (Kd.S_reads' HO_7.out).1; omega))
                   obtain ⟨ve272_0, rfl, ge272_0⟩ := hMe272
                   have hv272_0 := hcc272 0 _ rfl
                   rw [Nat.add_zero, show ((Kd.slice 2 (Kd.int .i64))).sz = 1 from rfl, Nat.mul_one] at hv272_0
                   replace hv272_0 := Option.some.inj (hv272_0.symm.trans hx272_0)
                   rw [hv272_0] at ge272_0
                   have HL272_0 := Aside0.mk (show Kd.R (Kd.int .i64) 2 _ _ _ _ (rd_L6 t241 ((rd_T36 t237 x16_3).f0)) from ge272_0)
                   clear hv272_0 ge272_0
                   clear hcc272 hce272
                   have HR272_0 := Aside0.mk hi272_0
                   have HC272_0 := Aside0.mk hl272_0
                   clear hi272_0 hl272_0
                   replace p272 := eq_true p272
                   replace q272 := eq_true q272
                   have p273 : 0 ≤ (x16_3 : Int) := of_decide_eq_true (by with_reducible assumption)
                   have q273 : x16_3 < (t237.length : Int) := of_decide_eq_true (by with_reducible assumption)
                   obtain ⟨ad273, e273, hx273_0, hx273_1, hx273_2⟩ := at_T36 (Kd.R_reads' HO_241001.out).2.2 x16_3 p273 q273
                   obtain rfl : ad271 = ad273 := (by injection e273)
                   replace p273 := eq_true p273
                   replace q273 := eq_true q273
                   have p274 : 0 ≤ (((rd_T36 t237 x16_3).f1) : Int) := of_decide_eq_true (by with_reducible assumption)
                   have q274 : ((rd_T36 t237 x16_3).f1) < ((rd_L6 t241 ((rd_T36 t237 x16_3).f0)).length : Int) := of_decide_eq_true (by with_reducible assumption)
                   obtain ⟨ad274, e274, hx274_0⟩ := Kd.at_int (by repeat (first | (with_reducible exact HR272_0.out) | (with_reducible refine Kd.C_alloc ?_ _) | (with_reducible refine Kd.C_drewN ?_ _) | (with_reducible refine Kd.C_drew ?_) | exact HR272_0.out)) ((rd_T36 t237 x16_3).f1) p274 q274
                   cases e274
                   replace p274 := eq_true p274
                   replace q274 := eq_true q274
                   have p275 : 0 ≤ (x16_3 : Int) := of_decide_eq_true (by with_reducible assumption)
                   have q275 : x16_3 < (t237.length : Int) := of_decide_eq_true (by with_reducible assumption)
                   obtain ⟨ad275, e275, hx275_0, hx275_1, hx275_2⟩ := at_T36 (Kd.R_reads' HO_241001.out).2.2 x16_3 p275 q275
                   obtain rfl : ad271 = ad275 := (by injection e275)
                   replace p275 := eq_true p275
                   replace q275 := eq_true q275
                   go_wp2
                   repeat (go_quiet (fail); try go_wp2)
                   go_roundg k3
                   case measure => have := HJ7.out; have := HK2.out; have := HK3.out; omega
                   case rel => exact ⟨(wrap64 (x16_3 + 1)), (by first | rfl | (simp; done) | (simp [*]; done)), H', ⟨by have := HJ7.out; have := HK2.out; have := HK3.out; omega⟩, ⟨by (with_reducible repeat (first | apply Kd.S_alloc | apply Kd.S_drewN | apply Kd.S_drew)); exact HO_7.out⟩, ⟨by (with_reducible repeat (first | apply Kd.R_alloc | apply Kd.R_drewN | apply Kd.R_drew)); exact HO_241001.out⟩, ⟨by (with_reducible repeat (first | refine blk_drewN ?_ _ | refine blk_drew ?_ | refine blk_alloc ?_ _)); exact BK240.out⟩, ⟨by repeat (first | (with_reducible first | exact HB.out | apply below_alloc | apply pw_below_drewN | apply below_drew1 | refine below_set ?_ GE240.out) | exact HB.out)⟩⟩
                 ·rw [if_neg c72] at H
                  exact absurd H (by simp)
                ·rw [if_neg c71] at H
                 exact absurd H (by simp)
               ·rw [if_neg c70] at H
                exact absurd H (by simp)
              ·rw [if_neg c69] at H
               exact absurd H (by simp)
             ·rw [if_neg c68] at H
              exact absurd H (by simp)
            ·rw [if_neg c67] at H
             have c67b0 : decide (x16_3 < (t237.length : Int)) = false := decide_eq_false c67
             clear c67
             replace H := Option.bind_eq_some_iff.mp H
             obtain ⟨t276, A760, H⟩ := H
             replace H : ((impl_LatestTimes.f k3 t236 t237 t276).bind fun bt277 => (laws_FnTight.l5 k3 t236 t241 t276 bt277.1 bt277.2 true 0 t236 t237)) = some r := H
             have A76 := Aside0.mk A760
             clear A760
             replace H := Option.bind_eq_some_iff.mp H
             obtain ⟨⟨t277, t280⟩, A770, H⟩ := H
             replace H : (laws_FnTight.l5 k3 t236 t241 t276 t277 t280 true 0 t236 t237) = some r := H
             have A77 := Aside0.mk A770
             clear A770
             have H' := Aside0.mk H
             clear H
             have hcz78_0 : wr.cell? ⟨gb240, 0, none⟩ = some (.int .i64 t236) := (blk_cell BK240.out 0).trans rfl
             have hcz78_1 : wr.cell? ⟨gb240, 1, none⟩ = some (.slice Ao12 t237.length co12) := (blk_cell BK240.out 1).trans rfl
             have hfz78_0 := blk_frozen BK240.out 0
             have hfz78_1 := blk_frozen BK240.out 1
             go_wp2_with (first | (go_at_call 9; (with_reducible refine (laws_r8At.calls _ _ l1 0 t236 t276 _ ?side1 ?side2 A76.out).mono ?_); (case side1 => repeat (first | exact (Kd.C_below HR1.out HB.out) | (with_reducible refine Kd.C_alloc ?_ _) | (with_reducible refine Kd.C_drewN ?_ _) | (with_reducible refine Kd.C_drew ?_))); (case side2 => exact HC1.out); rintro e w' ⟨rfl, ⟨nd, rfl⟩⟩; (try first | exact ⟨rfl, _, World.drewN_drewN _ _ _⟩ | exact ⟨rfl, _, Eq.trans (World.drewN_drewN _ _ _) (congrArg (World.drewN _) (Nat.add_assoc _ _ _))⟩)) | (go_at_call 10; (with_reducible refine (impl_LatestTimes.calls k3 t236 _ _ t237 t276 t277 t280 _ ?side1 ?side2 A77.out).mono ?_); (case side1 => repeat (first | exact (Kd.R_reads' HO_241001.out).2.2 | (with_reducible refine Kd.C_alloc ?_ _) | (with_reducible refine Kd.C_drewN ?_ _) | (with_reducible refine Kd.C_drew ?_))); (case side2 => exact (Kd.R_reads' HO_241001.out).2.1); rintro e w79 ⟨v278, rfl, ho0, hb⟩; have n0_ := Aside0.mk (Kd.S_elder' (by (with_reducible repeat (first | apply Kd.S_alloc | apply Kd.S_drewN | apply Kd.S_drew)); exact HO_7.out) (Kd.R_base ho0) hb); have n1_ := Aside0.mk (Kd.R_below (by (with_reducible repeat (first | apply Kd.R_alloc | apply Kd.R_drewN | apply Kd.R_drew)); exact HO_241001.out) hb); have n2_ := Aside0.mk (Kd.R_lower ho0 (below_size (by repeat (first | (with_reducible first | exact HB.out | apply below_alloc | apply pw_below_drewN | apply below_drew1 | refine below_set ?_ GE240.out) | exact HB.out)))); have n3_ := Aside0.mk (blk_below (g := gb240) (o := .cells #[.int .i64 t236, .slice Ao12 t237.length co12] 26 (0, 0)) (by (with_reducible repeat (first | refine blk_drewN ?_ _ | refine blk_drew ?_ | refine blk_alloc ?_ _)); exact BK240.out) hb); have n4_ := Aside0.mk (below_step (by repeat (first | (with_reducible first | exact HB.out | apply below_alloc | apply pw_below_drewN | apply below_drew1 | refine below_set ?_ GE240.out) | exact HB.out)) hb); clear HO_7; clear HO_241001; clear BK240; clear HB; have HO_7 := n0_; have HO_241001 := n1_; have HO279 := n2_; have BK240 := n3_; have HB := n4_; clear n0_ n1_ n2_ n3_ n4_; (try clear hb); (try clear hb2); (try clear hk); (try clear hi); (try clear ho0)))
             repeat (go_quiet (first | (go_at_call 9; (with_reducible refine (laws_r8At.calls _ _ l1 0 t236 t276 _ ?side1 ?side2 A76.out).mono ?_); (case side1 => repeat (first | exact (Kd.C_below HR1.out HB.out) | (with_reducible refine Kd.C_alloc ?_ _) | (with_reducible refine Kd.C_drewN ?_ _) | (with_reducible refine Kd.C_drew ?_))); (case side2 => exact HC1.out); rintro e w' ⟨rfl, ⟨nd, rfl⟩⟩; (try first | exact ⟨rfl, _, World.drewN_drewN _ _ _⟩ | exact ⟨rfl, _, Eq.trans (World.drewN_drewN _ _ _) (congrArg (World.drewN _) (Nat.add_assoc _ _ _))⟩)) | (go_at_call 10; (with_reducible refine (impl_LatestTimes.calls k3 t236 _ _ t237 t276 t277 t280 _ ?side1 ?side2 A77.out).mono ?_); (case side1 => repeat (first | exact (Kd.R_reads' HO_241001.out).2.2 | (with_reducible refine Kd.C_alloc ?_ _) | (with_reducible refine Kd.C_drewN ?_ _) | (with_reducible refine Kd.C_drew ?_))); (case side2 => exact (Kd.R_reads' HO_241001.out).2.1); rintro e w79 ⟨v278, rfl, ho0, hb⟩; have n0_ := Aside0.mk (Kd.S_elder' (by (with_reducible repeat (first | apply Kd.S_alloc | apply Kd.S_drewN | apply Kd.S_drew)); exact HO_7.out) (Kd.R_base ho0) hb); have n1_ := Aside0.mk (Kd.R_below (by (with_reducible repeat (first | apply Kd.R_alloc | apply Kd.R_drewN | apply Kd.R_drew)); exact HO_241001.out) hb); have n2_ := Aside0.mk (Kd.R_lower ho0 (below_size (by repeat (first | (with_reducible first | exact HB.out | apply below_alloc | apply pw_below_drewN | apply below_drew1 | refine below_set ?_ GE240.out) | exact HB.out)))); have n3_ := Aside0.mk (blk_below (g := gb240) (o := .cells #[.int .i64 t236, .slice Ao12 t237.length co12] 26 (0, 0)) (by (with_reducible repeat (first | refine blk_drewN ?_ _ | refine blk_drew ?_ | refine blk_alloc ?_ _)); exact BK240.out) hb); have n4_ := Aside0.mk (below_step (by repeat (first | (with_reducible first | exact HB.out | apply below_alloc | apply pw_below_drewN | apply below_drew1 | refine below_set ?_ GE240.out) | exact HB.out)) hb); clear HO_7; clear HO_241001; clear BK240; clear HB; have HO_7 := n0_; have HO_241001 := n1_; have HO279 := n2_; have BK240 := n3_; have HB := n4_; clear n0_ n1_ n2_ n3_ n4_; (try clear hb); (try clear hb2); (try clear hk); (try clear hi); (try clear ho0))); try go_wp2_with (first | (go_at_call 9; (with_reducible refine (laws_r8At.calls _ _ l1 0 t236 t276 _ ?side1 ?side2 A76.out).mono ?_); (case side1 => repeat (first | exact (Kd.C_below HR1.out HB.out) | (with_reducible refine Kd.C_alloc ?_ _) | (with_reducible refine Kd.C_drewN ?_ _) | (with_reducible refine Kd.C_drew ?_))); (case side2 => exact HC1.out); rintro e w' ⟨rfl, ⟨nd, rfl⟩⟩; (try first | exact ⟨rfl, _, World.drewN_drewN _ _ _⟩ | exact ⟨rfl, _, Eq.trans (World.drewN_drewN _ _ _) (congrArg (World.drewN _) (Nat.add_assoc _ _ _))⟩)) | (go_at_call 10; (with_reducible refine (impl_LatestTimes.calls k3 t236 _ _ t237 t276 t277 t280 _ ?side1 ?side2 A77.out).mono ?_); (case side1 => repeat (first | exact (Kd.R_reads' HO_241001.out).2.2 | (with_reducible refine Kd.C_alloc ?_ _) | (with_reducible refine Kd.C_drewN ?_ _) | (with_reducible refine Kd.C_drew ?_))); (case side2 => exact (Kd.R_reads' HO_241001.out).2.1); rintro e w79 ⟨v278, rfl, ho0, hb⟩; have n0_ := Aside0.mk (Kd.S_elder' (by (with_reducible repeat (first | apply Kd.S_alloc | apply Kd.S_drewN | apply Kd.S_drew)); exact HO_7.out) (Kd.R_base ho0) hb); have n1_ := Aside0.mk (Kd.R_below (by (with_reducible repeat (first | apply Kd.R_alloc | apply Kd.R_drewN | apply Kd.R_drew)); exact HO_241001.out) hb); have n2_ := Aside0.mk (Kd.R_lower ho0 (below_size (by repeat (first | (with_reducible first | exact HB.out | apply below_alloc | apply pw_below_drewN | apply below_drew1 | refine below_set ?_ GE240.out) | exact HB.out)))); have n3_ := Aside0.mk (blk_below (g := gb240) (o := .cells #[.int .i64 t236, .slice Ao12 t237.length co12] 26 (0, 0)) (by (with_reducible repeat (first | refine blk_drewN ?_ _ | refine blk_drew ?_ | refine blk_alloc ?_ _)); exact BK240.out) hb); have n4_ := Aside0.mk (below_step (by repeat (first | (with_reducible first | exact HB.out | apply below_alloc | apply pw_below_drewN | apply below_drew1 | refine below_set ?_ GE240.out) | exact HB.out)) hb); clear HO_7; clear HO_241001; clear BK240; clear HB; have HO_7 := n0_; have HO_241001 := n1_; have HO279 := n2_; have BK240 := n3_; have HB := n4_; clear n0_ n1_ n2_ n3_ n4_; (try clear hb); (try clear hb2); (try clear hk); (try clear hi); (try clear ho0))))
             go_loopg [20, 21] k3 (fun kq v20 v21 w' => ∃ (x20_4 : Bool) (x21_4 : Int), v20 = .bool x20_4 ∧ v21 = .int .i64 x21_4 ∧ Aside0 (laws_FnTight.l5 kq t236 t241 t276 t277 t280 x20_4 x21_4 t236 t237 = some r) ∧ Aside0 (kq ≤ k3) ∧ Aside0 (Kd.S (Kd.slice 2 (Kd.int .i64)) 31 w' w.heap.size (fun k_ => some k_ ≠ (v278 : Value).ownBlock) (.slice Ao46 t241.length co46) t241) ∧ Aside0 (Kd.R (Kd.int .i64) 2 w' w.heap.size (fun _ => True) v278 t277) ∧ Aside0 (Kd.R k36 36 w' w.heap.size (fun _ => True) (.slice Ao12 t237.length co12) t237) ∧ Aside0 (w'.heap[gb240]? = some (.cells #[.int .i64 t236, (.slice Ao12 t237.length co12)] 26 (0, 0))) ∧ Aside0 (Below w.heap.size w w'))
             case atStart => exact ⟨(true), (0), (by first | rfl | (simp; done) | (simp [*]; done)), (by first | rfl | (simp; done) | (simp [*]; done)), H', ⟨Nat.le_refl _⟩, ⟨by (with_reducible repeat (first | apply Kd.S_alloc | apply Kd.S_drewN | apply Kd.S_drew)); exact Kd.S_mono HO_7.out (fun _ hk => hk.2)⟩, ⟨by (with_reducible repeat (first | apply Kd.R_alloc | apply Kd.R_drewN | apply Kd.R_drew)); exact HO279.out⟩, ⟨by (with_reducible repeat (first | apply Kd.R_alloc | apply Kd.R_drewN | apply Kd.R_drew)); exact HO_241001.out⟩, ⟨by (with_reducible repeat (first | refine blk_drewN ?_ _ | refine blk_drew ?_ | refine blk_alloc ?_ _)); exact BK240.out⟩, ⟨by repeat (first | (with_reducible first | exact HB.out | apply below_alloc | apply pw_below_drewN | apply below_drew1 | refine below_set ?_ GE240.out) | exact HB.out)⟩⟩
             case round =>
              clear H'
              try clear c2
              try clear p2
              try clear q2
              try clear hx2
              try clear c3
              try clear c4
              try clear c5
              try clear c6
              try clear p6
              try clear c7
              try clear c23
              try clear c23b0
              try clear c24
              try clear c24b0
              try clear c25
              try clear p25
              try clear q25
              try clear hx25
              try clear c26
              try clear c26b0
              try clear p26
              try clear q26
              try clear hx26
              try clear c27
              try clear p27
              try clear q27
              try clear hx27
              try clear c29
              try clear c29b0
              try clear c30
              try clear c30b0
              try clear c31
              try clear c31b0
              try clear c31b1
              try clear c31b2
              try clear c33
              try clear c33b0
              try clear c34
              try clear c34b0
              try clear c35
              try clear c35b0
              try clear c36
              try clear c36b0
              try clear c37
              try clear c37b0
              try clear c37b1
              try clear c42
              try clear c42b0
              try clear c45
              try clear c45b0
              try clear c45b1
              try clear c47
              try clear c47b0
              try clear c49
              try clear c49b0
              try clear c50
              try clear c50b0
              try clear c51
              try clear c51b0
              try clear c51b1
              try clear c52
              try clear c52b0
              try clear c53
              try clear c54
              try clear c54b0
              try clear c55
              try clear c55b0
              try clear c56
              try clear c56b0
              try clear c57
              try clear c57b0
              try clear c58
              try clear c58b0
              try clear c59
              try clear c59b0
              try clear c60
              try clear c60b0
              try clear c61
              try clear c61b0
              try clear c62
              try clear c62b0
              try clear c63
              try clear c63b0
              try clear c64
              try clear c64b0
              try clear p64
              try clear c65
              try clear c65b0
              try clear c66
              try clear c66b0
              try clear c67
              try clear c67b0
              try clear c68
              try clear c68b0
              try clear c69
              try clear c69b0
              try clear c70
              try clear c70b0
              try clear c71
              try clear c71b0
              try clear c72
              try clear c72b0
              try clear c73
              try clear c73b0
              try clear hcz11_0
              try clear hcz11_1
              try clear hcz14_0
              try clear hcz14_1
              try clear hcz18_0
              try clear hcz18_1
              try clear hcz28_0
              try clear hcz28_1
              try clear hcz39_0
              try clear hcz39_1
              try clear hcz41_0
              try clear hcz41_1
              try clear hcz74_0
              try clear hcz74_1
              try clear hcz75_0
              try clear hcz75_1
              try clear hcz78_0
              try clear hcz78_1
              try clear hfz11_0
              try clear hfz11_1
              try clear hfz14_0
              try clear hfz14_1
              try clear hfz18_0
              try clear hfz18_1
              try clear hfz28_0
              try clear hfz28_1
              try clear hfz39_0
              try clear hfz39_1
              try clear hfz41_0
              try clear hfz41_1
              try clear hfz74_0
              try clear hfz74_1
              try clear hfz75_0
              try clear hfz75_1
              try clear hfz78_0
              try clear hfz78_1
              try clear hx250_0
              try clear hx251_0
              try clear hx252_0
              try clear hx253_0
              try clear hx253_1
              try clear hx253_2
              try clear hx254_0
              try clear hx255_0
              try clear hx255_1
              try clear hx255_2
              try clear hx256_0
              try clear hx257_0
              try clear hx257_1
              try clear hx257_2
              try clear hx258_0
              try clear hx259_0
              try clear hx260_0
              try clear hx261_0
              try clear hx262_0
              try clear hx263_0
              try clear hx264_0
              try clear hx265_0
              try clear hx266_0
              try clear hx267_0
              try clear hx268_0
              try clear hx269_0
              try clear hx270_0
              try clear hx271_0
              try clear hx271_1
              try clear hx271_2
              try clear hx272_0
              try clear hx273_0
              try clear hx273_1
              try clear hx273_2
              try clear hx274_0
              try clear hx275_0
              try clear hx275_1
              try clear hx275_2
              try clear p2
              try clear p25
              try clear p250
              try clear p251
              try clear p252
              try clear p253
              try clear p254
              try clear p255
              try clear p256
              try clear p257
              try clear p258
              try clear p259
              try clear p26
              try clear p260
              try clear p261
              try clear p262
              try clear p263
              try clear p264
              try clear p265
              try clear p266
              try clear p267
              try clear p268
              try clear p269
              try clear p27
              try clear p270
              try clear p271
              try clear p272
              try clear p273
              try clear p274
              try clear p275
              try clear p6
              try clear p64
              try clear q2
              try clear q25
              try clear q250
              try clear q251
              try clear q252
              try clear q253
              try clear q254
              try clear q255
              try clear q256
              try clear q257
              try clear q258
              try clear q259
              try clear q26
              try clear q260
              try clear q261
              try clear q262
              try clear q263
              try clear q264
              try clear q265
              try clear q266
              try clear q267
              try clear q268
              try clear q269
              try clear q27
              try clear q270
              try clear q271
              try clear q272
              try clear q273
              try clear q274
              try clear q275
              obtain ⟨x20_4, x21_4, rfl, rfl, HA, HK4, HO_7, HO_18, HO_241001, BK240, HB⟩ := hrel
              cases gk with
              | zero => exact absurd HA.out (by simp [laws_FnTight.l5])
              | succ k4 =>
               have H := HA.out
               clear HA
               simp only [laws_FnTight.l5] at H
               by_cases c80 : x21_4 < t236
               ·rw [if_pos c80] at H
                have c80b0 : decide (x21_4 < t236) = true := decide_eq_true c80
                clear c80
                by_cases c81 : x20_4 = true
                ·subst c81
                 have H1 : (if 0 ≤ t276 then (if t276 < (t241.length : Int) then (if 0 ≤ x21_4 then (if x21_4 < ((rd_L6 t241 t276).length : Int) then (laws_FnTight.l5 k4 t236 t241 t276 t277 t280 (decide ((rd (rd_L6 t241 t276) x21_4) < 1000000)) (wrap64 (x21_4 + 1)) t236 t237) else (none)) else (none)) else (none)) else (none)) = some r := by rw [if_pos rfl] at H; exact H
                 clear H
                 have H := H1
                 clear H1
                 by_cases c82 : 0 ≤ t276
                 ·rw [if_pos c82] at H
                  have c82b0 : decide (0 ≤ t276) = true := decide_eq_true c82
                  clear c82
                  by_cases c83 : t276 < (t241.length : Int)
                  ·rw [if_pos c83] at H
                   have c83b0 : decide (t276 < (t241.length : Int)) = true := decide_eq_true c83
                   clear c83
                   by_cases c84 : 0 ≤ x21_4
                   ·rw [if_pos c84] at H
                    have c84b0 : decide (0 ≤ x21_4) = true := decide_eq_true c84
                    clear c84
                    by_cases c85 : x21_4 < ((rd_L6 t241 t276).length : Int)
                    ·rw [if_pos c85] at H
                     have c85b0 : decide (x21_4 < ((rd_L6 t241 t276).length : Int)) = true := decide_eq_true c85
                     clear c85
                     have H' := Aside0.mk H
                     clear H
                     have p281 : 0 ≤ (t276 : Int) := of_decide_eq_true (by with_reducible assumption)
                     have q281 : t276 < (t241.length : Int) := of_decide_eq_true (by with_reducible assumption)
                     obtain ⟨ad281, A281_0, c281_0, e281, hx281_0, hl281_0, hi281_0⟩ := at_L6 (Kd.S_reads' HO_7.out).2.2 t276 p281 q281
                     cases e281
                     obtain ⟨ce281, hce281, hMe281, hcc281⟩ := Kd.S_get HO_7.out [] t276 p281 (by first | exact q281 | exact of_decide_eq_true (by with_reducible assumption) | (have e_ := (Kd.S_reads' HO_7.out).1; omega))
                     obtain ⟨ve281_0, rfl, ge281_0⟩ := hMe281
                     have hv281_0 := hcc281 0 _ rfl
                     rw [Nat.add_zero, show ((Kd.slice 2 (Kd.int .i64))).sz = 1 from rfl, Nat.mul_one] at hv281_0
                     replace hv281_0 := Option.some.inj (hv281_0.symm.trans hx281_0)
                     rw [hv281_0] at ge281_0
                     have HL281_0 := Aside0.mk (show Kd.R (Kd.int .i64) 2 _ _ _ _ (rd_L6 t241 t276) from ge281_0)
                     clear hv281_0 ge281_0
                     clear hcc281 hce281
                     have HR281_0 := Aside0.mk hi281_0
                     have HC281_0 := Aside0.mk hl281_0
                     clear hi281_0 hl281_0
                     replace p281 := eq_true p281
                     replace q281 := eq_true q281
                     have p282 : 0 ≤ (x21_4 : Int) := of_decide_eq_true (by with_reducible assumption)
                     have q282 : x21_4 < ((rd_L6 t241 t276).length : Int) := of_decide_eq_true (by with_reducible assumption)
                     obtain ⟨ad282, e282, hx282_0⟩ := Kd.at_int (by repeat (first | (with_reducible exact HR281_0.out) | (with_reducible refine Kd.C_alloc ?_ _) | (with_reducible refine Kd.C_drewN ?_ _) | (with_reducible refine Kd.C_drew ?_) | exact HR281_0.out)) x21_4 p282 q282
                     cases e282
                     replace p282 := eq_true p282
                     replace q282 := eq_true q282
                     go_wp2
                     repeat (go_quiet (fail); try go_wp2)
                     go_roundg k4
                     case measure => have := HJ7.out; have := HK2.out; have := HK3.out; have := HK4.out; omega
                     case rel => exact ⟨(decide ((rd (rd_L6 t241 t276) x21_4) < 1000000)), (wrap64 (x21_4 + 1)), (by first | rfl | (simp; done) | (simp [*]; done)), (by first | rfl | (simp; done) | (simp [*]; done)), H', ⟨by have := HJ7.out; have := HK2.out; have := HK3.out; have := HK4.out; omega⟩, ⟨by (with_reducible repeat (first | apply Kd.S_alloc | apply Kd.S_drewN | apply Kd.S_drew)); exact HO_7.out⟩, ⟨by (with_reducible repeat (first | apply Kd.R_alloc | apply Kd.R_drewN | apply Kd.R_drew)); exact HO_18.out⟩, ⟨by (with_reducible repeat (first | apply Kd.R_alloc | apply Kd.R_drewN | apply Kd.R_drew)); exact HO_241001.out⟩, ⟨by (with_reducible repeat (first | refine blk_drewN ?_ _ | refine blk_drew ?_ | refine blk_alloc ?_ _)); exact BK240.out⟩, ⟨by repeat (first | (with_reducible first | exact HB.out | apply below_alloc | apply pw_below_drewN | apply below_drew1 | refine below_set ?_ GE240.out) | exact HB.out)⟩⟩
                    ·rw [if_neg c85] at H
                     exact absurd H (by simp)
                   ·rw [if_neg c84] at H
                    exact absurd H (by simp)
                  ·rw [if_neg c83] at H
                   exact absurd H (by simp)
                 ·rw [if_neg c82] at H
                  exact absurd H (by simp)
                ·replace c81 := Bool.eq_false_iff.mpr c81
                 subst c81
                 have H1 : (laws_FnTight.l5 k4 t236 t241 t276 t277 t280 false (wrap64 (x21_4 + 1)) t236 t237) = some r := by rw [if_neg (show ¬ (false = true) by decide)] at H; exact H
                 clear H
                 have H := H1
                 clear H1
                 have H' := Aside0.mk H
                 clear H
                 go_wp2
                 repeat (go_quiet (fail); try go_wp2)
                 go_roundg k4
                 case measure => have := HJ7.out; have := HK2.out; have := HK3.out; have := HK4.out; omega
                 case rel => exact ⟨(false), (wrap64 (x21_4 + 1)), (by first | rfl | (simp; done) | (simp [*]; done)), (by first | rfl | (simp; done) | (simp [*]; done)), H', ⟨by have := HJ7.out; have := HK2.out; have := HK3.out; have := HK4.out; omega⟩, ⟨by (with_reducible repeat (first | apply Kd.S_alloc | apply Kd.S_drewN | apply Kd.S_drew)); exact HO_7.out⟩, ⟨by (with_reducible repeat (first | apply Kd.R_alloc | apply Kd.R_drewN | apply Kd.R_drew)); exact HO_18.out⟩, ⟨by (with_reducible repeat (first | apply Kd.R_alloc | apply Kd.R_drewN | apply Kd.R_drew)); exact HO_241001.out⟩, ⟨by (with_reducible repeat (first | refine blk_drewN ?_ _ | refine blk_drew ?_ | refine blk_alloc ?_ _)); exact BK240.out⟩, ⟨by repeat (first | (with_reducible first | exact HB.out | apply below_alloc | apply pw_below_drewN | apply below_drew1 | refine below_set ?_ GE240.out) | exact HB.out)⟩⟩
               ·rw [if_neg c80] at H
                have c80b0 : decide (x21_4 < t236) = false := decide_eq_false c80
                clear c80
                by_cases c86 : (t280 != x20_4) = true
                ·rw [if_pos c86] at H
                 have c86b0 : (t280 != x20_4) = true := c86
                 (try (have c86b1 : decide (t280 = x20_4) = false := by simpa using c86))
                 (try (have c86b2 : (t280 == x20_4) = false := by simpa using c86))
                 (try (have c86b3 : ¬ (t280 = x20_4) := by simpa using c86))
                 clear c86
                 obtain rfl := Option.some.inj H
                 go_wp2
                 repeat (go_quiet (fail); try go_wp2)
                 go_ret
                 exact ⟨by first | rfl | (simp [errW_none, errW_some] <;> rfl) | (simp [*, errW_none, errW_some] <;> rfl), by repeat (first | (with_reducible first | exact HB.out | apply below_alloc | apply pw_below_drewN | apply below_drew1 | refine below_set ?_ GE240.out) | exact HB.out)⟩
                ·rw [if_neg c86] at H
                 have c86b0 : (t280 != x20_4) = false := by simpa using c86
                 (try (have c86b1 : decide (t280 = x20_4) = true := by simpa using c86))
                 (try (have c86b2 : (t280 == x20_4) = true := by simpa using c86))
                 clear c86
                 by_cases c87 : t280 = true
                 ·subst c87
                  have H1 : (laws_FnTight.l6 k4 t236 t241 t276 t277 0 t236 t237) = some r := by rw [if_pos rfl] at H; exact H
                  clear H
                  have H := H1
                  clear H1
                  have H' := Aside0.mk H
                  clear H
                  go_wp2
                  repeat (go_quiet (fail); try go_wp2)
                  go_loopg [22] k4 (fun kq v22 w' => ∃ (x22_5 : Int), v22 = .int .i64 x22_5 ∧ Aside0 (laws_FnTight.l6 kq t236 t241 t276 t277 x22_5 t236 t237 = some r) ∧ Aside0 (kq ≤ k4) ∧ Aside0 (Kd.S (Kd.slice 2 (Kd.int .i64)) 31 w' w.heap.size (fun k_ => some k_ ≠ (v278 : Value).ownBlock) (.slice Ao46 t241.length co46) t241) ∧ Aside0 (Kd.R (Kd.int .i64) 2 w' w.heap.size (fun _ => True) v278 t277) ∧ Aside0 (Kd.R k36 36 w' w.heap.size (fun _ => True) (.slice Ao12 t237.length co12) t237) ∧ Aside0 (w'.heap[gb240]? = some (.cells #[.int .i64 t236, (.slice Ao12 t237.length co12)] 26 (0, 0))) ∧ Aside0 (Below w.heap.size w w'))
                  case atStart => exact ⟨(0), (by first | rfl | (simp; done) | (simp [*]; done)), H', ⟨Nat.le_refl _⟩, ⟨by (with_reducible repeat (first | apply Kd.S_alloc | apply Kd.S_drewN | apply Kd.S_drew)); exact HO_7.out⟩, ⟨by (with_reducible repeat (first | apply Kd.R_alloc | apply Kd.R_drewN | apply Kd.R_drew)); exact HO_18.out⟩, ⟨by (with_reducible repeat (first | apply Kd.R_alloc | apply Kd.R_drewN | apply Kd.R_drew)); exact HO_241001.out⟩, ⟨by (with_reducible repeat (first | refine blk_drewN ?_ _ | refine blk_drew ?_ | refine blk_alloc ?_ _)); exact BK240.out⟩, ⟨by repeat (first | (with_reducible first | exact HB.out | apply below_alloc | apply pw_below_drewN | apply below_drew1 | refine below_set ?_ GE240.out) | exact HB.out)⟩⟩
                  case round =>
                   clear H'
                   try clear c2
                   try clear p2
                   try clear q2
                   try clear hx2
                   try clear c3
                   try clear c4
                   try clear c5
                   try clear c6
                   try clear p6
                   try clear c7
                   try clear c8
                   try clear c23
                   try clear c23b0
                   try clear c24
                   try clear c24b0
                   try clear c25
                   try clear p25
                   try clear q25
                   try clear hx25
                   try clear c26
                   try clear c26b0
                   try clear p26
                   try clear q26
                   try clear hx26
                   try clear c27
                   try clear p27
                   try clear q27
                   try clear hx27
                   try clear c28
                   try clear p28
                   try clear q28
                   try clear hx28
                   try clear c29
                   try clear c29b0
                   try clear c30
                   try clear c30b0
                   try clear c31
                   try clear c31b0
                   try clear c31b1
                   try clear c31b2
                   try clear c33
                   try clear c33b0
                   try clear c34
                   try clear c34b0
                   try clear c35
                   try clear c35b0
                   try clear c36
                   try clear c36b0
                   try clear c37
                   try clear c37b0
                   try clear c37b1
                   try clear c42
                   try clear c42b0
                   try clear c45
                   try clear c45b0
                   try clear c45b1
                   try clear c47
                   try clear c47b0
                   try clear c49
                   try clear c49b0
                   try clear c50
                   try clear c50b0
                   try clear c51
                   try clear c51b0
                   try clear c51b1
                   try clear c52
                   try clear c52b0
                   try clear c53
                   try clear c54
                   try clear c54b0
                   try clear c55
                   try clear c55b0
                   try clear c56
                   try clear c56b0
                   try clear c57
                   try clear c57b0
                   try clear c58
                   try clear c58b0
                   try clear c59
                   try clear c59b0
                   try clear c60
                   try clear c60b0
                   try clear c61
                   try clear c61b0
                   try clear c62
                   try clear c62b0
                   try clear c63
                   try clear c63b0
                   try clear c64
                   try clear c64b0
                   try clear p64
                   try clear c65
                   try clear c65b0
                   try clear c66
                   try clear c66b0
                   try clear c67
                   try clear c67b0
                   try clear c68
                   try clear c68b0
                   try clear c69
                   try clear c69b0
                   try clear c70
                   try clear c70b0
                   try clear c71
                   try clear c71b0
                   try clear c72
                   try clear c72b0
                   try clear c73
                   try clear c73b0
                   try clear c80
                   try clear c80b0
                   try clear c81
                   try clear c82
                   try clear c82b0
                   try clear c83
                   try clear c83b0
                   try clear c84
                   try clear c84b0
                   try clear c85
                   try clear c85b0
                   try clear c86
                   try clear c86b0
                   try clear c86b1
                   try clear c86b2
                   try clear c87
                   try clear hcz11_0
                   try clear hcz11_1
                   try clear hcz14_0
                   try clear hcz14_1
                   try clear hcz18_0
                   try clear hcz18_1
                   try clear hcz28_0
                   try clear hcz28_1
                   try clear hcz39_0
                   try clear hcz39_1
                   try clear hcz41_0
                   try clear hcz41_1
                   try clear hcz74_0
                   try clear hcz74_1
                   try clear hcz75_0
                   try clear hcz75_1
                   try clear hcz78_0
                   try clear hcz78_1
                   try clear hfz11_0
                   try clear hfz11_1
                   try clear hfz14_0
                   try clear hfz14_1
                   try clear hfz18_0
                   try clear hfz18_1
                   try clear hfz28_0
                   try clear hfz28_1
                   try clear hfz39_0
                   try clear hfz39_1
                   try clear hfz41_0
                   try clear hfz41_1
                   try clear hfz74_0
                   try clear hfz74_1
                   try clear hfz75_0
                   try clear hfz75_1
                   try clear hfz78_0
                   try clear hfz78_1
                   try clear hx250_0
                   try clear hx251_0
                   try clear hx252_0
                   try clear hx253_0
                   try clear hx253_1
                   try clear hx253_2
                   try clear hx254_0
                   try clear hx255_0
                   try clear hx255_1
                   try clear hx255_2
                   try clear hx256_0
                   try clear hx257_0
                   try clear hx257_1
                   try clear hx257_2
                   try clear hx258_0
                   try clear hx259_0
                   try clear hx260_0
                   try clear hx261_0
                   try clear hx262_0
                   try clear hx263_0
                   try clear hx264_0
                   try clear hx265_0
                   try clear hx266_0
                   try clear hx267_0
                   try clear hx268_0
                   try clear hx269_0
                   try clear hx270_0
                   try clear hx271_0
                   try clear hx271_1
                   try clear hx271_2
                   try clear hx272_0
                   try clear hx273_0
                   try clear hx273_1
                   try clear hx273_2
                   try clear hx274_0
                   try clear hx275_0
                   try clear hx275_1
                   try clear hx275_2
                   try clear hx281_0
                   try clear hx282_0
                   try clear p2
                   try clear p25
                   try clear p250
                   try clear p251
                   try clear p252
                   try clear p253
                   try clear p254
                   try clear p255
                   try clear p256
                   try clear p257
                   try clear p258
                   try clear p259
                   try clear p26
                   try clear p260
                   try clear p261
                   try clear p262
                   try clear p263
                   try clear p264
                   try clear p265
                   try clear p266
                   try clear p267
                   try clear p268
                   try clear p269
                   try clear p27
                   try clear p270
                   try clear p271
                   try clear p272
                   try clear p273
                   try clear p274
                   try clear p275
                   try clear p281
                   try clear p282
                   try clear p6
                   try clear p64
                   try clear q2
                   try clear q25
                   try clear q250
                   try clear q251
                   try clear q252
                   try clear q253
                   try clear q254
                   try clear q255
                   try clear q256
                   try clear q257
                   try clear q258
                   try clear q259
                   try clear q26
                   try clear q260
                   try clear q261
                   try clear q262
                   try clear q263
                   try clear q264
                   try clear q265
                   try clear q266
                   try clear q267
                   try clear q268
                   try clear q269
                   try clear q27
                   try clear q270
                   try clear q271
                   try clear q272
                   try clear q273
                   try clear q274
                   try clear q275
                   try clear q281
                   try clear q282
                   obtain ⟨x22_5, rfl, HA, HK5, HO_7, HO_18, HO_241001, BK240, HB⟩ := hrel
                   cases gk with
                   | zero => exact absurd HA.out (by simp [laws_FnTight.l6])
                   | succ k5 =>
                    have H := HA.out
                    clear HA
                    simp only [laws_FnTight.l6] at H
                    by_cases c88 : x22_5 < t236
                    ·rw [if_pos c88] at H
                     have c88b0 : decide (x22_5 < t236) = true := decide_eq_true c88
                     clear c88
                     by_cases c89 : 0 ≤ x22_5
                     ·rw [if_pos c89] at H
                      have c89b0 : decide (0 ≤ x22_5) = true := decide_eq_true c89
                      clear c89
                      by_cases c90 : x22_5 < (t277.length : Int)
                      ·rw [if_pos c90] at H
                       have c90b0 : decide (x22_5 < (t277.length : Int)) = true := decide_eq_true c90
                       clear c90
                       by_cases c91 : 0 ≤ t276
                       ·rw [if_pos c91] at H
                        have c91b0 : decide (0 ≤ t276) = true := decide_eq_true c91
                        clear c91
                        by_cases c92 : t276 < (t241.length : Int)
                        ·rw [if_pos c92] at H
                         have c92b0 : decide (t276 < (t241.length : Int)) = true := decide_eq_true c92
                         clear c92
                         by_cases c93 : x22_5 < ((rd_L6 t241 t276).length : Int)
                         ·rw [if_pos c93] at H
                          have c93b0 : decide (x22_5 < ((rd_L6 t241 t276).length : Int)) = true := decide_eq_true c93
                          clear c93
                          by_cases c94 : (rd t277 x22_5) = (rd (rd_L6 t241 t276) x22_5)
                          ·rw [if_pos c94] at H
                           have c94b0 : ((rd t277 x22_5) == (rd (rd_L6 t241 t276) x22_5)) = true := beq_iff_eq.mpr c94
                           have c94b1 : ((rd t277 x22_5) != (rd (rd_L6 t241 t276) x22_5)) = false := bne_eq_false_iff_eq.mpr c94
                           clear c94
                           have H' := Aside0.mk H
                           clear H
                           obtain ⟨Ao95, co95, eo95⟩ := Kd.R_slice HO_18.out
                           subst eo95
                           have p283 : 0 ≤ (x22_5 : Int) := of_decide_eq_true (by with_reducible assumption)
                           have q283 : x22_5 < (t277.length : Int) := of_decide_eq_true (by with_reducible assumption)
                           obtain ⟨ad283, e283, hx283_0⟩ := Kd.at_int (Kd.R_reads' HO_18.out).2.2 x22_5 p283 q283
                           cases e283
                           replace p283 := eq_true p283
                           replace q283 := eq_true q283
                           have p284 : 0 ≤ (t276 : Int) := of_decide_eq_true (by with_reducible assumption)
                           have q284 : t276 < (t241.length : Int) := of_decide_eq_true (by with_reducible assumption)
                           obtain ⟨ad284, A284_0, c284_0, e284, hx284_0, hl284_0, hi284_0⟩ := at_L6 (Kd.S_reads' HO_7.out).2.2 t276 p284 q284
                           cases e284
                           obtain ⟨ce284, hce284, hMe284, hcc284⟩ := Kd.S_get HO_7.out [] t276 p284 (by first | exact q284 | exact of_decide_eq_true (by with_reducible assumption) | (have e_ := (Kd.S_reads' HO_7.out).1; omega))
                           obtain ⟨ve284_0, rfl, ge284_0⟩ := hMe284
                           have hv284_0 := hcc284 0 _ rfl
                           rw [Nat.add_zero, show ((Kd.slice 2 (Kd.int .i64))).sz = 1 from rfl, Nat.mul_one] at hv284_0
                           replace hv284_0 := Option.some.inj (hv284_0.symm.trans hx284_0)
                           rw [hv284_0] at ge284_0
                           have HL284_0 := Aside0.mk (show Kd.R (Kd.int .i64) 2 _ _ _ _ (rd_L6 t241 t276) from ge284_0)
                           clear hv284_0 ge284_0
                           clear hcc284 hce284
                           have HR284_0 := Aside0.mk hi284_0
                           have HC284_0 := Aside0.mk hl284_0
                           clear hi284_0 hl284_0
                           replace p284 := eq_true p284
                           replace q284 := eq_true q284
                           have p285 : 0 ≤ (x22_5 : Int) := of_decide_eq_true (by with_reducible assumption)
                           have q285 : x22_5 < ((rd_L6 t241 t276).length : Int) := of_decide_eq_true (by with_reducible assumption)
                           obtain ⟨ad285, e285, hx285_0⟩ := Kd.at_int (by repeat (first | (with_reducible exact HR284_0.out) | (with_reducible refine Kd.C_alloc ?_ _) | (with_reducible refine Kd.C_drewN ?_ _) | (with_reducible refine Kd.C_drew ?_) | exact HR284_0.out)) x22_5 p285 q285
                           cases e285
                           replace p285 := eq_true p285
                           replace q285 := eq_true q285
                           go_wp2
                           repeat (go_quiet (fail); try go_wp2)
                           go_roundg k5
                           case measure => have := HJ7.out; have := HK2.out; have := HK3.out; have := HK4.out; have := HK5.out; omega
                           case rel => exact ⟨(wrap64 (x22_5 + 1)), (by first | rfl | (simp; done) | (simp [*]; done)), H', ⟨by have := HJ7.out; have := HK2.out; have := HK3.out; have := HK4.out; have := HK5.out; omega⟩, ⟨by (with_reducible repeat (first | apply Kd.S_alloc | apply Kd.S_drewN | apply Kd.S_drew)); exact HO_7.out⟩, ⟨by (with_reducible repeat (first | apply Kd.R_alloc | apply Kd.R_drewN | apply Kd.R_drew)); exact HO_18.out⟩, ⟨by (with_reducible repeat (first | apply Kd.R_alloc | apply Kd.R_drewN | apply Kd.R_drew)); exact HO_241001.out⟩, ⟨by (with_reducible repeat (first | refine blk_drewN ?_ _ | refine blk_drew ?_ | refine blk_alloc ?_ _)); exact BK240.out⟩, ⟨by repeat (first | (with_reducible first | exact HB.out | apply below_alloc | apply pw_below_drewN | apply below_drew1 | refine below_set ?_ GE240.out) | exact HB.out)⟩⟩
                          ·rw [if_neg c94] at H
                           have c94b0 : ((rd t277 x22_5) == (rd (rd_L6 t241 t276) x22_5)) = false := beq_eq_false_iff_ne.mpr c94
                           have c94b1 : ((rd t277 x22_5) != (rd (rd_L6 t241 t276) x22_5)) = true := bne_iff_ne.mpr c94
                           obtain rfl := Option.some.inj H
                           obtain ⟨Ao96, co96, eo96⟩ := Kd.R_slice HO_18.out
                           subst eo96
                           have p283 : 0 ≤ (x22_5 : Int) := of_decide_eq_true (by with_reducible assumption)
                           have q283 : x22_5 < (t277.length : Int) := of_decide_eq_true (by with_reducible assumption)
                           obtain ⟨ad283, e283, hx283_0⟩ := Kd.at_int (Kd.R_reads' HO_18.out).2.2 x22_5 p283 q283
                           cases e283
                           replace p283 := eq_true p283
                           replace q283 := eq_true q283
                           have p284 : 0 ≤ (t276 : Int) := of_decide_eq_true (by with_reducible assumption)
                           have q284 : t276 < (t241.length : Int) := of_decide_eq_true (by with_reducible assumption)
                           obtain ⟨ad284, A284_0, c284_0, e284, hx284_0, hl284_0, hi284_0⟩ := at_L6 (Kd.S_reads' HO_7.out).2.2 t276 p284 q284
                           cases e284
                           obtain ⟨ce284, hce284, hMe284, hcc284⟩ := Kd.S_get HO_7.out [] t276 p284 (by first | exact q284 | exact of_decide_eq_true (by with_reducible assumption) | (have e_ := (Kd.S_reads' HO_7.out).1; omega))
                           obtain ⟨ve284_0, rfl, ge284_0⟩ := hMe284
                           have hv284_0 := hcc284 0 _ rfl
                           rw [Nat.add_zero, show ((Kd.slice 2 (Kd.int .i64))).sz = 1 from rfl, Nat.mul_one] at hv284_0
                           replace hv284_0 := Option.some.inj (hv284_0.symm.trans hx284_0)
                           rw [hv284_0] at ge284_0
                           have HL284_0 := Aside0.mk (show Kd.R (Kd.int .i64) 2 _ _ _ _ (rd_L6 t241 t276) from ge284_0)
                           clear hv284_0 ge284_0
                           clear hcc284 hce284
                           have HR284_0 := Aside0.mk hi284_0
                           have HC284_0 := Aside0.mk hl284_0
                           clear hi284_0 hl284_0
                           replace p284 := eq_true p284
                           replace q284 := eq_true q284
                           have p285 : 0 ≤ (x22_5 : Int) := of_decide_eq_true (by with_reducible assumption)
                           have q285 : x22_5 < ((rd_L6 t241 t276).length : Int) := of_decide_eq_true (by with_reducible assumption)
                           obtain ⟨ad285, e285, hx285_0⟩ := Kd.at_int (by repeat (first | (with_reducible exact HR284_0.out) | (with_reducible refine Kd.C_alloc ?_ _) | (with_reducible refine Kd.C_drewN ?_ _) | (with_reducible refine Kd.C_drew ?_) | exact HR284_0.out)) x22_5 p285 q285
                           cases e285
                           replace p285 := eq_true p285
                           replace q285 := eq_true q285
                           go_wp2
                           repeat (go_quiet (fail); try go_wp2)
                           go_ret
                           exact ⟨by first | rfl | (simp [errW_none, errW_some] <;> rfl) | (simp [*, errW_none, errW_some] <;> rfl), by repeat (first | (with_reducible first | exact HB.out | apply below_alloc | apply pw_below_drewN | apply below_drew1 | refine below_set ?_ GE240.out) | exact HB.out)⟩
                         ·rw [if_neg c93] at H
                          exact absurd H (by simp)
                        ·rw [if_neg c92] at H
                         exact absurd H (by simp)
                       ·rw [if_neg c91] at H
                        exact absurd H (by simp)
                      ·rw [if_neg c90] at H
                       exact absurd H (by simp)
                     ·rw [if_neg c89] at H
                      exact absurd H (by simp)
                    ·rw [if_neg c88] at H
                     have c88b0 : decide (x22_5 < t236) = false := decide_eq_false c88
                     clear c88
                     replace H := Option.bind_eq_some_iff.mp H
                     obtain ⟨t286, A970, H⟩ := H
                     replace H : (some t286) = some r := H
                     have A97 := Aside0.mk A970
                     clear A970
                     obtain rfl := Option.some.inj H
                     have hcz98_0 : wr.cell? ⟨gb240, 0, none⟩ = some (.int .i64 t236) := (blk_cell BK240.out 0).trans rfl
                     have hcz98_1 : wr.cell? ⟨gb240, 1, none⟩ = some (.slice Ao12 t237.length co12) := (blk_cell BK240.out 1).trans rfl
                     have hfz98_0 := blk_frozen BK240.out 0
                     have hfz98_1 := blk_frozen BK240.out 1
                     obtain ⟨Ao99, co99, eo99⟩ := Kd.R_slice HO_18.out
                     subst eo99
                     go_wp2_with (first | (go_at_call 11; (with_reducible refine (impl_IsTiming.calls t236 _ _ t237 _ _ t277 t286 _ ?side1 ?side2 ?side3 ?side4 A97.out).mono ?_); (case side1 => repeat (first | exact (Kd.R_reads' HO_241001.out).2.2 | (with_reducible refine Kd.C_alloc ?_ _) | (with_reducible refine Kd.C_drewN ?_ _) | (with_reducible refine Kd.C_drew ?_))); (case side2 => exact (Kd.R_reads' HO_241001.out).2.1); (case side3 => repeat (first | exact (Kd.R_reads' HO_18.out).2.2 | (with_reducible refine Kd.C_alloc ?_ _) | (with_reducible refine Kd.C_drewN ?_ _) | (with_reducible refine Kd.C_drew ?_))); (case side4 => exact (Kd.R_reads' HO_18.out).2.1); rintro e w100 ⟨rfl, hb⟩; have n0_ := Aside0.mk (Kd.S_below (by (with_reducible repeat (first | apply Kd.S_alloc | apply Kd.S_drewN | apply Kd.S_drew)); exact HO_7.out) hb); have n1_ := Aside0.mk (Kd.R_below (by (with_reducible repeat (first | apply Kd.R_alloc | apply Kd.R_drewN | apply Kd.R_drew)); exact HO_18.out) hb); have n2_ := Aside0.mk (Kd.R_below (by (with_reducible repeat (first | apply Kd.R_alloc | apply Kd.R_drewN | apply Kd.R_drew)); exact HO_241001.out) hb); have n3_ := Aside0.mk (blk_below (g := gb240) (o := .cells #[.int .i64 t236, .slice Ao12 t237.length co12] 26 (0, 0)) (by (with_reducible repeat (first | refine blk_drewN ?_ _ | refine blk_drew ?_ | refine blk_alloc ?_ _)); exact BK240.out) hb); have n4_ := Aside0.mk (below_step (by repeat (first | (with_reducible first | exact HB.out | apply below_alloc | apply pw_below_drewN | apply below_drew1 | refine below_set ?_ GE240.out) | exact HB.out)) hb); clear HO_7; clear HO_18; clear HO_241001; clear BK240; clear HB; have HO_7 := n0_; have HO_18 := n1_; have HO_241001 := n2_; have BK240 := n3_; have HB := n4_; clear n0_ n1_ n2_ n3_ n4_; (try clear hb); (try clear hb2); (try clear hk); (try clear hi)))
                     repeat (go_quiet (first | (go_at_call 11; (with_reducible refine (impl_IsTiming.calls t236 _ _ t237 _ _ t277 t286 _ ?side1 ?side2 ?side3 ?side4 A97.out).mono ?_); (case side1 => repeat (first | exact (Kd.R_reads' HO_241001.out).2.2 | (with_reducible refine Kd.C_alloc ?_ _) | (with_reducible refine Kd.C_drewN ?_ _) | (with_reducible refine Kd.C_drew ?_))); (case side2 => exact (Kd.R_reads' HO_241001.out).2.1); (case side3 => repeat (first | exact (Kd.R_reads' HO_18.out).2.2 | (with_reducible refine Kd.C_alloc ?_ _) | (with_reducible refine Kd.C_drewN ?_ _) | (with_reducible refine Kd.C_drew ?_))); (case side4 => exact (Kd.R_reads' HO_18.out).2.1); rintro e w100 ⟨rfl, hb⟩; have n0_ := Aside0.mk (Kd.S_below (by (with_reducible repeat (first | apply Kd.S_alloc | apply Kd.S_drewN | apply Kd.S_drew)); exact HO_7.out) hb); have n1_ := Aside0.mk (Kd.R_below (by (with_reducible repeat (first | apply Kd.R_alloc | apply Kd.R_drewN | apply Kd.R_drew)); exact HO_18.out) hb); have n2_ := Aside0.mk (Kd.R_below (by (with_reducible repeat (first | apply Kd.R_alloc | apply Kd.R_drewN | apply Kd.R_drew)); exact HO_241001.out) hb); have n3_ := Aside0.mk (blk_below (g := gb240) (o := .cells #[.int .i64 t236, .slice Ao12 t237.length co12] 26 (0, 0)) (by (with_reducible repeat (first | refine blk_drewN ?_ _ | refine blk_drew ?_ | refine blk_alloc ?_ _)); exact BK240.out) hb); have n4_ := Aside0.mk (below_step (by repeat (first | (with_reducible first | exact HB.out | apply below_alloc | apply pw_below_drewN | apply below_drew1 | refine below_set ?_ GE240.out) | exact HB.out)) hb); clear HO_7; clear HO_18; clear HO_241001; clear BK240; clear HB; have HO_7 := n0_; have HO_18 := n1_; have HO_241001 := n2_; have BK240 := n3_; have HB := n4_; clear n0_ n1_ n2_ n3_ n4_; (try clear hb); (try clear hb2); (try clear hk); (try clear hi))); try go_wp2_with (first | (go_at_call 11; (with_reducible refine (impl_IsTiming.calls t236 _ _ t237 _ _ t277 t286 _ ?side1 ?side2 ?side3 ?side4 A97.out).mono ?_); (case side1 => repeat (first | exact (Kd.R_reads' HO_241001.out).2.2 | (with_reducible refine Kd.C_alloc ?_ _) | (with_reducible refine Kd.C_drewN ?_ _) | (with_reducible refine Kd.C_drew ?_))); (case side2 => exact (Kd.R_reads' HO_241001.out).2.1); (case side3 => repeat (first | exact (Kd.R_reads' HO_18.out).2.2 | (with_reducible refine Kd.C_alloc ?_ _) | (with_reducible refine Kd.C_drewN ?_ _) | (with_reducible refine Kd.C_drew ?_))); (case side4 => exact (Kd.R_reads' HO_18.out).2.1); rintro e w100 ⟨rfl, hb⟩; have n0_ := Aside0.mk (Kd.S_below (by (with_reducible repeat (first | apply Kd.S_alloc | apply Kd.S_drewN | apply Kd.S_drew)); exact HO_7.out) hb); have n1_ := Aside0.mk (Kd.R_below (by (with_reducible repeat (first | apply Kd.R_alloc | apply Kd.R_drewN | apply Kd.R_drew)); exact HO_18.out) hb); have n2_ := Aside0.mk (Kd.R_below (by (with_reducible repeat (first | apply Kd.R_alloc | apply Kd.R_drewN | apply Kd.R_drew)); exact HO_241001.out) hb); have n3_ := Aside0.mk (blk_below (g := gb240) (o := .cells #[.int .i64 t236, .slice Ao12 t237.length co12] 26 (0, 0)) (by (with_reducible repeat (first | refine blk_drewN ?_ _ | refine blk_drew ?_ | refine blk_alloc ?_ _)); exact BK240.out) hb); have n4_ := Aside0.mk (below_step (by repeat (first | (with_reducible first | exact HB.out | apply below_alloc | apply pw_below_drewN | apply below_drew1 | refine below_set ?_ GE240.out) | exact HB.out)) hb); clear HO_7; clear HO_18; clear HO_241001; clear BK240; clear HB; have HO_7 := n0_; have HO_18 := n1_; have HO_241001 := n2_; have BK240 := n3_; have HB := n4_; clear n0_ n1_ n2_ n3_ n4_; (try clear hb); (try clear hb2); (try clear hk); (try clear hi))))
                     go_ret
                     exact ⟨by first | rfl | (simp [errW_none, errW_some] <;> rfl) | (simp [*, errW_none, errW_some] <;> rfl), by repeat (first | (with_reducible first | exact HB.out | apply below_alloc | apply pw_below_drewN | apply below_drew1 | refine below_set ?_ GE240.out) | exact HB.out)⟩
                 ·replace c87 := Bool.eq_false_iff.mpr c87
                  subst c87
                  have H1 : (some true) = some r := by rw [if_neg (show ¬ (false = true) by decide)] at H; exact H
                  clear H
                  have H := H1
                  clear H1
                  obtain rfl := Option.some.inj H
                  go_wp2
                  repeat (go_quiet (fail); try go_wp2)
                  go_ret
                  exact ⟨by first | rfl | (simp [errW_none, errW_some] <;> rfl) | (simp [*, errW_none, errW_some] <;> rfl), by repeat (first | (with_reducible first | exact HB.out | apply below_alloc | apply pw_below_drewN | apply below_drew1 | refine below_set ?_ GE240.out) | exact HB.out)⟩
      ·rw [if_neg c45] at H
       have c45b0 : ((t241.length : Int) == t236) = false := beq_eq_false_iff_ne.mpr c45
       have c45b1 : ((t241.length : Int) != t236) = true := bne_iff_ne.mpr c45
       obtain rfl := Option.some.inj H
       obtain ⟨Ao101, co101, eo101⟩ := Kd.S_slice HO_7.out
       subst eo101
       go_wp2
       repeat (go_quiet (fail); try go_wp2)
       go_ret
       exact ⟨by first | rfl | (simp [errW_none, errW_some] <;> rfl) | (simp [*, errW_none, errW_some] <;> rfl), by repeat (first | (with_reducible first | exact HB.out | apply below_alloc | apply pw_below_drewN | apply below_drew1 | refine below_set ?_ GE240.out) | exact HB.out)⟩

/-- THE ONE PURE STATEMENT of laws_FnTight: yours. -/
def laws_FnTight.Pure : Prop := ∀ (l0 : List Int) (l1 : List Int), l0.length ≤ maxLen → l0.length * 1 ≤ 140737488351232 → (∀ x ∈ l0, (Lit.int .u8 x).wf = true) → l1.length ≤ maxLen → l1.length * 1 ≤ 140737488351232 → (∀ x ∈ l1, (Lit.int .u8 x).wf = true) → ∃ k, laws_FnTight.f k l0 l1 = some true
theorem laws_FnTight.walk (P : laws_FnTight.Pure) (a0 : Option Addr) (len0 cap0 : Nat) (z0 : List Int) (a1 : Option Addr) (len1 cap1 : Nat) (z1 : List Int) (w : World) (w0 : (a0 = none ∧ len0 = 0 ∧ cap0 = 0 ∧ z0 = []) ∨ ∃ x, a0 = some x ∧ len0 ≤ cap0 ∧ cap0 ≤ maxLen ∧ z0.length = cap0 ∧ (∀ i, i < z0.length → w.cell? (x.add i) = some (.int .u8 (z0.getD i 0))) ∧ ∀ n ∈ z0, (Lit.int .u8 n).wf = true) (y0 : len0 * 1 ≤ 140737488351232) (w1 : (a1 = none ∧ len1 = 0 ∧ cap1 = 0 ∧ z1 = []) ∨ ∃ x, a1 = some x ∧ len1 ≤ cap1 ∧ cap1 ≤ maxLen ∧ z1.length = cap1 ∧ (∀ i, i < z1.length → w.cell? (x.add i) = some (.int .u8 (z1.getD i 0))) ∧ ∀ n ∈ z1, (Lit.int .u8 n).wf = true) (y1 : len1 * 1 ≤ 140737488351232) :
  Calls Try.prog 3 #[.slice a0 len0 cap0, .slice a1 len1 cap1] w fun e w' => e = .returned (.bool true) ∧ Below w.heap.size w w' := by
 obtain ⟨l0, rfl, hr0, hm0, hw0, hc0⟩ := ReadsInt.ofRowC w0
 obtain ⟨l1, rfl, hr1, hm1, hw1, hc1⟩ := ReadsInt.ofRowC w1
 obtain ⟨k, h⟩ := P l0 l1 hm0 y0 hw0 hm1 y1 hw1
 refine (laws_FnTight.calls k _ _ l0 _ _ l1 true w (Kd.C_of_reads (d := (0 : Int)) (h1 := fun _ => rfl) hr0) hc0 (Kd.C_of_reads (d := (0 : Int)) (h1 := fun _ => rfl) hr1) hc1 h).mono ?_
 rintro e w' ⟨rfl, hd⟩
 exact ⟨rfl, hd⟩

end Go.Proofs.Ythgmolenlpagkaa.Pa
