-- Written for this claim by a program of this session.
import Derived.Test.YtljboamepnhfpaaPax0
import Derived.Test.YtljboamepnhfpaaCore3
namespace Go.Proofs.Ytljboamepnhfpaa.Pa
open Go.RowKit Go.Proofs.YtljboamepnhfpaaW.PrintWords Go.Proofs.YtljboamepnhfpaaW.PrintLast Go.Proofs.YtljboamepnhfpaaW.PrintMore
attribute [local go_sem] max2_int min2_int max_two min_two max_three min_three max_four min_four   -- for this text's walks alone
set_option linter.unusedVariables false
set_option linter.unusedSimpArgs false

/-! ### spec_l04Tight: function 63 -/
mutual
def spec_l04Tight.l0 : Nat → List Int → List (List Int) → Int → Int → List (S45) → Option ((List (List Int)) × Bool × Int)
 | 0, _, _, _, _, _ => none
 | k + 1, x1, x6, x7, x1000, x1001 => if x7 < x1000 then (spec_l04Tight.l1 k x1 x6 x7 (([] : List Int)) 0 x1000 x1001) else (spec_l04Tight.l2 k x1 x6 0 x1000 x1001)
def spec_l04Tight.l1 : Nat → List Int → List (List Int) → Int → List Int → Int → Int → List (S45) → Option ((List (List Int)) × Bool × Int)
 | 0, _, _, _, _, _, _, _ => none
 | k + 1, x1, x6, x7, x8, x9, x1000, x1001 => if x9 < x1000 then (if x7 = x9 then (if x8.length < 17592186044416 then (spec_l04Tight.l1 k x1 x6 x7 (x8 ++ [0]) (wrap64 (x9 + 1)) x1000 x1001) else (none)) else (if x8.length < 17592186044416 then (spec_l04Tight.l1 k x1 x6 x7 (x8 ++ [1000000]) (wrap64 (x9 + 1)) x1000 x1001) else (none))) else (if x6.length < 5864062014805 then (spec_l04Tight.l0 k x1 (x6 ++ [x8]) (wrap64 (x7 + 1)) x1000 x1001) else (none))
def spec_l04Tight.l2 : Nat → List Int → List (List Int) → Int → Int → List (S45) → Option ((List (List Int)) × Bool × Int)
 | 0, _, _, _, _, _ => none
 | k + 1, x1, x6, x10, x1000, x1001 => if x10 < (x1001.length : Int) then (if 0 ≤ x10 then ((spec_l00Has.f k x1 x10).bind fun t286 => (if t286 = true then (spec_l04Tight.l2 k x1 x6 (wrap64 (x10 + 1)) x1000 x1001) else (if 0 ≤ ((rd_T45 x1001 x10).f0) then (if ((rd_T45 x1001 x10).f0) < (x6.length : Int) then (if 0 ≤ ((rd_T45 x1001 x10).f1) then (if ((rd_T45 x1001 x10).f1) < ((rd_L8 x6 ((rd_T45 x1001 x10).f0)).length : Int) then ((spec_l00Min.f (rd (rd_L8 x6 ((rd_T45 x1001 x10).f0)) ((rd_T45 x1001 x10).f1)) ((rd_T45 x1001 x10).f2)).bind fun t290 => (spec_l04Tight.l2 k x1 (x6.set (((rd_T45 x1001 x10).f0) : Int).toNat ((rd_L8 x6 ((rd_T45 x1001 x10).f0)).set (((rd_T45 x1001 x10).f1) : Int).toNat t290)) (wrap64 (x10 + 1)) x1000 x1001)) else (none)) else (none)) else (none)) else (none)))) else (none)) else (spec_l04Tight.l3 k x6 0 x1000 x1001)
def spec_l04Tight.l3 : Nat → List (List Int) → Int → Int → List (S45) → Option ((List (List Int)) × Bool × Int)
 | 0, _, _, _, _ => none
 | k + 1, x6, x12, x1000, x1001 => if x12 < x1000 then (spec_l04Tight.l4 k x6 x12 0 x1000 x1001) else (spec_l04Tight.l6 k x6 0 x1000 x1001)
def spec_l04Tight.l4 : Nat → List (List Int) → Int → Int → Int → List (S45) → Option ((List (List Int)) × Bool × Int)
 | 0, _, _, _, _, _ => none
 | k + 1, x6, x12, x13, x1000, x1001 => if x13 < x1000 then (spec_l04Tight.l5 k x6 x12 x13 0 x1000 x1001) else (spec_l04Tight.l3 k x6 (wrap64 (x12 + 1)) x1000 x1001)
def spec_l04Tight.l5 : Nat → List (List Int) → Int → Int → Int → Int → List (S45) → Option ((List (List Int)) × Bool × Int)
 | 0, _, _, _, _, _, _ => none
 | k + 1, x6, x12, x13, x14, x1000, x1001 => if x14 < x1000 then (if 0 ≤ x13 then (if x13 < (x6.length : Int) then (if 0 ≤ x12 then (if x12 < ((rd_L8 x6 x13).length : Int) then (if (rd (rd_L8 x6 x13) x12) < 1000000 then (if x12 < (x6.length : Int) then (if 0 ≤ x14 then (if x14 < ((rd_L8 x6 x12).length : Int) then (if (rd (rd_L8 x6 x12) x14) < 1000000 then (if x14 < ((rd_L8 x6 x13).length : Int) then ((spec_l00Min.f (rd (rd_L8 x6 x13) x14) (wrap64 ((rd (rd_L8 x6 x13) x12) + (rd (rd_L8 x6 x12) x14)))).bind fun t305 => (spec_l04Tight.l5 k (x6.set (x13 : Int).toNat ((rd_L8 x6 x13).set (x14 : Int).toNat t305)) x12 x13 (wrap64 (x14 + 1)) x1000 x1001)) else (none)) else (spec_l04Tight.l5 k x6 x12 x13 (wrap64 (x14 + 1)) x1000 x1001)) else (none)) else (none)) else (none)) else (spec_l04Tight.l5 k x6 x12 x13 (wrap64 (x14 + 1)) x1000 x1001)) else (none)) else (none)) else (none)) else (none)) else (spec_l04Tight.l4 k x6 x12 (wrap64 (x13 + 1)) x1000 x1001)
def spec_l04Tight.l6 : Nat → List (List Int) → Int → Int → List (S45) → Option ((List (List Int)) × Bool × Int)
 | 0, _, _, _, _ => none
 | k + 1, x6, x15, x1000, x1001 => if x15 < x1000 then (if 0 ≤ x15 then (if x15 < (x6.length : Int) then (if x15 < ((rd_L8 x6 x15).length : Int) then (if (rd (rd_L8 x6 x15) x15) < 0 then (some (x6, false, x1000)) else (spec_l04Tight.l6 k x6 (wrap64 (x15 + 1)) x1000 x1001)) else (none)) else (none)) else (none)) else (some (x6, true, x1000))
end
def spec_l04Tight.f (k : Nat) (s0_0 : Int) (s0_1 : List (S45)) (l1 : List Int) : Option ((List (List Int)) × Bool × Int) := spec_l04Tight.l0 k l1 (([] : List (List Int))) 0 s0_0 s0_1
theorem spec_l04Tight.mono_l : ∀ k, (∀ y0 y1 y2 y3 y4, LeO (spec_l04Tight.l0 k y0 y1 y2 y3 y4) (spec_l04Tight.l0 (k + 1) y0 y1 y2 y3 y4)) ∧ (∀ y0 y1 y2 y3 y4 y5 y6, LeO (spec_l04Tight.l1 k y0 y1 y2 y3 y4 y5 y6) (spec_l04Tight.l1 (k + 1) y0 y1 y2 y3 y4 y5 y6)) ∧ (∀ y0 y1 y2 y3 y4, LeO (spec_l04Tight.l2 k y0 y1 y2 y3 y4) (spec_l04Tight.l2 (k + 1) y0 y1 y2 y3 y4)) ∧ (∀ y0 y1 y2 y3, LeO (spec_l04Tight.l3 k y0 y1 y2 y3) (spec_l04Tight.l3 (k + 1) y0 y1 y2 y3)) ∧ (∀ y0 y1 y2 y3 y4, LeO (spec_l04Tight.l4 k y0 y1 y2 y3 y4) (spec_l04Tight.l4 (k + 1) y0 y1 y2 y3 y4)) ∧ (∀ y0 y1 y2 y3 y4 y5, LeO (spec_l04Tight.l5 k y0 y1 y2 y3 y4 y5) (spec_l04Tight.l5 (k + 1) y0 y1 y2 y3 y4 y5)) ∧ (∀ y0 y1 y2 y3, LeO (spec_l04Tight.l6 k y0 y1 y2 y3) (spec_l04Tight.l6 (k + 1) y0 y1 y2 y3))
 | 0 => ⟨fun _ _ _ _ _ r h => by simp [spec_l04Tight.l0] at h, fun _ _ _ _ _ _ _ r h => by simp [spec_l04Tight.l1] at h, fun _ _ _ _ _ r h => by simp [spec_l04Tight.l2] at h, fun _ _ _ _ r h => by simp [spec_l04Tight.l3] at h, fun _ _ _ _ _ r h => by simp [spec_l04Tight.l4] at h, fun _ _ _ _ _ _ r h => by simp [spec_l04Tight.l5] at h, fun _ _ _ _ r h => by simp [spec_l04Tight.l6] at h⟩
 | k + 1 => by
  obtain ⟨ih0, ih1, ih2, ih3, ih4, ih5, ih6⟩ := spec_l04Tight.mono_l k
  refine ⟨?_, ?_, ?_, ?_, ?_, ?_, ?_⟩
  ·intro y0 y1 y2 y3 y4
   unfold spec_l04Tight.l0
   repeat' first
   | (with_reducible exact ih0 _ _ _ _ _)
   | (with_reducible exact ih1 _ _ _ _ _ _ _)
   | (with_reducible exact ih2 _ _ _ _ _)
   | (with_reducible exact ih3 _ _ _ _)
   | (with_reducible exact ih4 _ _ _ _ _)
   | (with_reducible exact ih5 _ _ _ _ _ _)
   | (with_reducible exact ih6 _ _ _ _)
   | (with_reducible exact spec_l00Has.mono _ _ _)
   | (with_reducible exact LeO.refl _)
   | (with_reducible exact LeO.none _)
   | (with_reducible refine LeO.ite ?_ ?_)
   | (with_reducible refine LeO.bind ?_ (fun _ => ?_))
   | exact ih0 _ _ _ _ _
   | exact ih1 _ _ _ _ _ _ _
   | exact ih2 _ _ _ _ _
   | exact ih3 _ _ _ _
   | exact ih4 _ _ _ _ _
   | exact ih5 _ _ _ _ _ _
   | exact ih6 _ _ _ _
   | exact spec_l00Has.mono _ _ _
   | exact LeO.none _
   | refine LeO.ite ?_ ?_
   | refine LeO.bind ?_ (fun _ => ?_)
  ·intro y0 y1 y2 y3 y4 y5 y6
   unfold spec_l04Tight.l1
   repeat' first
   | (with_reducible exact ih0 _ _ _ _ _)
   | (with_reducible exact ih1 _ _ _ _ _ _ _)
   | (with_reducible exact ih2 _ _ _ _ _)
   | (with_reducible exact ih3 _ _ _ _)
   | (with_reducible exact ih4 _ _ _ _ _)
   | (with_reducible exact ih5 _ _ _ _ _ _)
   | (with_reducible exact ih6 _ _ _ _)
   | (with_reducible exact spec_l00Has.mono _ _ _)
   | (with_reducible exact LeO.refl _)
   | (with_reducible exact LeO.none _)
   | (with_reducible refine LeO.ite ?_ ?_)
   | (with_reducible refine LeO.bind ?_ (fun _ => ?_))
   | exact ih0 _ _ _ _ _
   | exact ih1 _ _ _ _ _ _ _
   | exact ih2 _ _ _ _ _
   | exact ih3 _ _ _ _
   | exact ih4 _ _ _ _ _
   | exact ih5 _ _ _ _ _ _
   | exact ih6 _ _ _ _
   | exact spec_l00Has.mono _ _ _
   | exact LeO.none _
   | refine LeO.ite ?_ ?_
   | refine LeO.bind ?_ (fun _ => ?_)
  ·intro y0 y1 y2 y3 y4
   unfold spec_l04Tight.l2
   repeat' first
   | (with_reducible exact ih0 _ _ _ _ _)
   | (with_reducible exact ih1 _ _ _ _ _ _ _)
   | (with_reducible exact ih2 _ _ _ _ _)
   | (with_reducible exact ih3 _ _ _ _)
   | (with_reducible exact ih4 _ _ _ _ _)
   | (with_reducible exact ih5 _ _ _ _ _ _)
   | (with_reducible exact ih6 _ _ _ _)
   | (with_reducible exact spec_l00Has.mono _ _ _)
   | (with_reducible exact LeO.refl _)
   | (with_reducible exact LeO.none _)
   | (with_reducible refine LeO.ite ?_ ?_)
   | (with_reducible refine LeO.bind ?_ (fun _ => ?_))
   | exact ih0 _ _ _ _ _
   | exact ih1 _ _ _ _ _ _ _
   | exact ih2 _ _ _ _ _
   | exact ih3 _ _ _ _
   | exact ih4 _ _ _ _ _
   | exact ih5 _ _ _ _ _ _
   | exact ih6 _ _ _ _
   | exact spec_l00Has.mono _ _ _
   | exact LeO.none _
   | refine LeO.ite ?_ ?_
   | refine LeO.bind ?_ (fun _ => ?_)
  ·intro y0 y1 y2 y3
   unfold spec_l04Tight.l3
   repeat' first
   | (with_reducible exact ih0 _ _ _ _ _)
   | (with_reducible exact ih1 _ _ _ _ _ _ _)
   | (with_reducible exact ih2 _ _ _ _ _)
   | (with_reducible exact ih3 _ _ _ _)
   | (with_reducible exact ih4 _ _ _ _ _)
   | (with_reducible exact ih5 _ _ _ _ _ _)
   | (with_reducible exact ih6 _ _ _ _)
   | (with_reducible exact spec_l00Has.mono _ _ _)
   | (with_reducible exact LeO.refl _)
   | (with_reducible exact LeO.none _)
   | (with_reducible refine LeO.ite ?_ ?_)
   | (with_reducible refine LeO.bind ?_ (fun _ => ?_))
   | exact ih0 _ _ _ _ _
   | exact ih1 _ _ _ _ _ _ _
   | exact ih2 _ _ _ _ _
   | exact ih3 _ _ _ _
   | exact ih4 _ _ _ _ _
   | exact ih5 _ _ _ _ _ _
   | exact ih6 _ _ _ _
   | exact spec_l00Has.mono _ _ _
   | exact LeO.none _
   | refine LeO.ite ?_ ?_
   | refine LeO.bind ?_ (fun _ => ?_)
  ·intro y0 y1 y2 y3 y4
   unfold spec_l04Tight.l4
   repeat' first
   | (with_reducible exact ih0 _ _ _ _ _)
   | (with_reducible exact ih1 _ _ _ _ _ _ _)
   | (with_reducible exact ih2 _ _ _ _ _)
   | (with_reducible exact ih3 _ _ _ _)
   | (with_reducible exact ih4 _ _ _ _ _)
   | (with_reducible exact ih5 _ _ _ _ _ _)
   | (with_reducible exact ih6 _ _ _ _)
   | (with_reducible exact spec_l00Has.mono _ _ _)
   | (with_reducible exact LeO.refl _)
   | (with_reducible exact LeO.none _)
   | (with_reducible refine LeO.ite ?_ ?_)
   | (with_reducible refine LeO.bind ?_ (fun _ => ?_))
   | exact ih0 _ _ _ _ _
   | exact ih1 _ _ _ _ _ _ _
   | exact ih2 _ _ _ _ _
   | exact ih3 _ _ _ _
   | exact ih4 _ _ _ _ _
   | exact ih5 _ _ _ _ _ _
   | exact ih6 _ _ _ _
   | exact spec_l00Has.mono _ _ _
   | exact LeO.none _
   | refine LeO.ite ?_ ?_
   | refine LeO.bind ?_ (fun _ => ?_)
  ·intro y0 y1 y2 y3 y4 y5
   unfold spec_l04Tight.l5
   repeat' first
   | (with_reducible exact ih0 _ _ _ _ _)
   | (with_reducible exact ih1 _ _ _ _ _ _ _)
   | (with_reducible exact ih2 _ _ _ _ _)
   | (with_reducible exact ih3 _ _ _ _)
   | (with_reducible exact ih4 _ _ _ _ _)
   | (with_reducible exact ih5 _ _ _ _ _ _)
   | (with_reducible exact ih6 _ _ _ _)
   | (with_reducible exact spec_l00Has.mono _ _ _)
   | (with_reducible exact LeO.refl _)
   | (with_reducible exact LeO.none _)
   | (with_reducible refine LeO.ite ?_ ?_)
   | (with_reducible refine LeO.bind ?_ (fun _ => ?_))
   | exact ih0 _ _ _ _ _
   | exact ih1 _ _ _ _ _ _ _
   | exact ih2 _ _ _ _ _
   | exact ih3 _ _ _ _
   | exact ih4 _ _ _ _ _
   | exact ih5 _ _ _ _ _ _
   | exact ih6 _ _ _ _
   | exact spec_l00Has.mono _ _ _
   | exact LeO.none _
   | refine LeO.ite ?_ ?_
   | refine LeO.bind ?_ (fun _ => ?_)
  ·intro y0 y1 y2 y3
   unfold spec_l04Tight.l6
   repeat' first
   | (with_reducible exact ih0 _ _ _ _ _)
   | (with_reducible exact ih1 _ _ _ _ _ _ _)
   | (with_reducible exact ih2 _ _ _ _ _)
   | (with_reducible exact ih3 _ _ _ _)
   | (with_reducible exact ih4 _ _ _ _ _)
   | (with_reducible exact ih5 _ _ _ _ _ _)
   | (with_reducible exact ih6 _ _ _ _)
   | (with_reducible exact spec_l00Has.mono _ _ _)
   | (with_reducible exact LeO.refl _)
   | (with_reducible exact LeO.none _)
   | (with_reducible refine LeO.ite ?_ ?_)
   | (with_reducible refine LeO.bind ?_ (fun _ => ?_))
   | exact ih0 _ _ _ _ _
   | exact ih1 _ _ _ _ _ _ _
   | exact ih2 _ _ _ _ _
   | exact ih3 _ _ _ _
   | exact ih4 _ _ _ _ _
   | exact ih5 _ _ _ _ _ _
   | exact ih6 _ _ _ _
   | exact spec_l00Has.mono _ _ _
   | exact LeO.none _
   | refine LeO.ite ?_ ?_
   | refine LeO.bind ?_ (fun _ => ?_)
theorem spec_l04Tight.mono : ∀ a0 a1 a2 k, LeO (spec_l04Tight.f k a0 a1 a2) (spec_l04Tight.f (k + 1) a0 a1 a2) := by
 intro a0 a1 a2 k
 obtain ⟨ih0, ih1, ih2, ih3, ih4, ih5, ih6⟩ := spec_l04Tight.mono_l k
 unfold spec_l04Tight.f
 repeat' first
   | (with_reducible exact ih0 _ _ _ _ _)
   | (with_reducible exact ih1 _ _ _ _ _ _ _)
   | (with_reducible exact ih2 _ _ _ _ _)
   | (with_reducible exact ih3 _ _ _ _)
   | (with_reducible exact ih4 _ _ _ _ _)
   | (with_reducible exact ih5 _ _ _ _ _ _)
   | (with_reducible exact ih6 _ _ _ _)
   | (with_reducible exact spec_l00Has.mono _ _ _)
   | (with_reducible exact LeO.refl _)
   | (with_reducible exact LeO.none _)
   | (with_reducible refine LeO.ite ?_ ?_)
   | (with_reducible refine LeO.bind ?_ (fun _ => ?_))
   | exact ih0 _ _ _ _ _
   | exact ih1 _ _ _ _ _ _ _
   | exact ih2 _ _ _ _ _
   | exact ih3 _ _ _ _
   | exact ih4 _ _ _ _ _
   | exact ih5 _ _ _ _ _ _
   | exact ih6 _ _ _ _
   | exact spec_l00Has.mono _ _ _
   | exact LeO.none _
   | refine LeO.ite ?_ ?_
   | refine LeO.bind ?_ (fun _ => ?_)
def spec_l04Tight.T18 : Bool × List (List Nat × List Nat) := (true, [([], []), ([], []), ([1], [1]), ([0, 2], [0, 2]), ([3], [3]), ([], []), ([5], [5]), ([], []), ([], []), ([8], [8]), ([7, 9], [7, 9]), ([10], [10]), ([], []), ([12], [12]), ([11, 13], [11, 13]), ([14], [14]), ([], []), ([16], [16]), ([15, 17], [15, 17]), ([4, 6, 0, 1, 2, 3, 4, 5, 6, 7, 8, 9, 10, 11, 12, 13, 14, 15, 16, 17, 18], [4, 6]), ([19, 18, 18, 0, 1, 2, 3, 4, 5, 6, 7, 8, 9, 10, 11, 12, 13, 14, 15, 16, 17, 18], [18, 19])])
def spec_l04Tight.B18 : List Nat := [0, 0, 2, 7, 15, 0, 32, 0, 0, 256, 896, 1920, 0, 4096, 16256, 32640, 0, 65536, 262016, 524287, 1048575]
theorem spec_l04Tight.tab18 : rtab .any (opsOf Try.f63 18) = spec_l04Tight.T18 := by kernel_rfl
theorem spec_l04Tight.bits18 : waitsOk spec_l04Tight.T18.2 spec_l04Tight.B18 = true := by kernel_rfl
def spec_l04Tight.T29 : Bool × List (List Nat × List Nat) := (true, [([], []), ([], []), ([0, 1], [0, 1]), ([2], [2]), ([], []), ([], []), ([], []), ([5, 6], [5, 6]), ([7], [7]), ([], []), ([8, 9], [8, 9]), ([10], [10]), ([], []), ([], []), ([12, 13], [12, 13]), ([14], [14]), ([], []), ([15, 16], [15, 16]), ([17], [17]), ([], []), ([], []), ([19, 20], [19, 20]), ([21], [21]), ([], []), ([22, 23], [22, 23]), ([24], [24]), ([18, 25], [18, 25]), ([11, 26], [11, 26]), ([3, 4, 0, 1, 2, 3, 4, 5, 6, 7, 8, 9, 10, 11, 12, 13, 14, 15, 16, 17, 18, 19, 20, 21, 22, 23, 24, 25, 26, 27], [3, 4]), ([28, 27, 27, 0, 1, 2, 3, 4, 5, 6, 7, 8, 9, 10, 11, 12, 13, 14, 15, 16, 17, 18, 19, 20, 21, 22, 23, 24, 25, 26, 27], [27, 28])])
def spec_l04Tight.B29 : List Nat := [0, 0, 3, 7, 0, 0, 0, 96, 224, 0, 992, 2016, 0, 0, 12288, 28672, 0, 126976, 258048, 0, 0, 1572864, 3670016, 0, 16252928, 33030144, 67104768, 134217696, 268435455, 536870911]
theorem spec_l04Tight.tab29 : rtab .any (opsOf Try.f63 29) = spec_l04Tight.T29 := by kernel_rfl
theorem spec_l04Tight.bits29 : waitsOk spec_l04Tight.T29.2 spec_l04Tight.B29 = true := by kernel_rfl
set_option maxHeartbeats 8000000 in
set_option maxRecDepth 100000 in
theorem spec_l04Tight.calls (k : Nat) (g : Nat) (s0_0 : Int) (s0_1 : List (S45)) (A1 : Option Addr) (c1 : Nat) (l1 : List Int) (r1 : List (List Int)) (r2 : Bool) (r3 : Int) (w0 w : World) (hI : IsS29 w0 w g s0_0 s0_1) (hB : Below w0.heap.size w0 w) (hr1 : Kd.C (Kd.int .i64) w A1 l1.length l1) (hc1 : l1.length ≤ c1) (hf1 : ∀ ad, A1 = some ad → 0 < l1.length → ad.block ≠ g) (h : spec_l04Tight.f k s0_0 s0_1 l1 = some (r1, r2, r3)) :
  Calls Try.prog 63 #[.pointer (some ⟨g, 0, none⟩), .slice A1 l1.length c1] w fun e w' => ∃ v0_ : Value, e = .returned (.tuple #[v0_, .bool r2]) ∧ Kd.S (Kd.slice 2 (Kd.int .i64)) 33 w' w.heap.size (fun _ => True) v0_ r1 ∧ IsS29 w0 w' g r3 s0_1 ∧ Below w0.heap.size w0 w' ∧ KeepBut w w' g none := by
 have hu45 := Try.underlying45
 have HR1 := Aside0.mk hr1
 have HC1 := Aside0.mk hc1
 clear hr1 hc1
 have HI0 := Aside0.mk hI
 have HK := Aside0.mk (KeepBut.refl w g none)
 have HL := Aside0.mk hB.size
 clear hI
 have HW0 := Aside0.mk hB.size
 have HB := Aside0.mk hB
 clear hB
 have H : (spec_l04Tight.l0 k l1 (([] : List (List Int))) 0 s0_0 s0_1) = some (r1, r2, r3) := h
 clear h
 obtain ⟨y269, hy269⟩ : ∃ y_ : List (List Int), y_ = (([] : List (List Int))) := ⟨_, rfl⟩
 replace H : (spec_l04Tight.l0 k l1 y269 0 s0_0 s0_1) = some (r1, r2, r3) := by first | (rw [hy269]; with_reducible exact H) | (have H2_ := (Option.bind_some _ _).symm.trans H; rw [hy269]; with_reducible exact H2_) | (have H2_ := (Option.bind_some _ _).symm.trans H; with_reducible exact H2_) | with_reducible exact H | (rw [hy269]; exact H) | exact H
 have Ny269 := Aside0.mk hy269
 clear hy269
 have H' := Aside0.mk H
 clear H
 go_enter Try.func63, Try.ntmps63
 go_wp2_with (first | ((with_reducible refine gate_dst (N := 16) rfl ?_); refine Kd.S_lit (Kd.slice 2 (Kd.int .i64)) _ 33 ?hg (N := 16) ?hd (xs := ([] : List (List Int))) (inner := []) (ok := fun _ => True) (okp := fun _ => True) ?hr ?hp (fun _ hk => hk) trivial (Below.refl _ _) (Nat.le_refl _) (by simp) ?_; (case hd => rfl); (case hg => rfl); (case hr => first | (go_simp; done) | (go_simp; rfl)); (case hp => exact (Reps.none _ _)); intro v270 w3 ho4 hb hg_ hnew_; clear hg_ hnew_; (first | rw [← Ny269.out] at ho4 | (simp only [Int.reduceToNat] at ho4; rw [← Ny269.out] at ho4)); have n0_ := Aside0.mk (Kd.S_lower ho4 (keep_size (w := w) (g := g) (row := none) (by repeat (first | (with_reducible first | exact HK.out | apply KeepBut.set_ | apply keep_drewN | apply keep_drew | apply keep_alloc) | exact HK.out)))); have n1_ := Aside0.mk (IsS29.below (by repeat (first | (with_reducible first | exact HI0.out | apply IsS29.alloc | apply IsS29.drewN | apply IsS29.drew | apply IsS29.set_0) | exact HI0.out)) hb); have n2_ := Aside0.mk (KeepBut.trans (by repeat (first | (with_reducible first | exact HK.out | apply KeepBut.set_ | apply keep_drewN | apply keep_drew | apply keep_alloc) | exact HK.out)) (KeepBut.of_below hb g none) (.inl rfl)); have n3_ := Aside0.mk (below_step (by repeat (first | (with_reducible first | exact HB.out | apply below_alloc | apply pw_below_drewN | apply below_drew1 | refine below_set ?_ (IsS29.ge HI0.out)) | exact HB.out)) hb); clear HI0; clear HK; clear HB; have HO271 := n0_; have HI0 := n1_; have HK := n2_; have HB := n3_; clear n0_ n1_ n2_ n3_; clear hb ho4))
 go_loopg [6, 7] k (fun kq v6 v7 w' => ∃ (x6_1 : List (List Int)) (x7_1 : Int), v7 = .int .i64 x7_1 ∧ Aside0 (spec_l04Tight.l0 kq l1 x6_1 x7_1 s0_0 s0_1 = some (r1, r2, r3)) ∧ Aside0 (kq ≤ k) ∧ Aside0 (Kd.S (Kd.slice 2 (Kd.int .i64)) 33 w' w.heap.size (fun _ => True) v6 x6_1) ∧ Aside0 (IsS29 w0 w' g s0_0 s0_1) ∧ Aside0 (KeepBut w w' g none) ∧ Aside0 (Below w0.heap.size w0 w'))
 case atStart => exact ⟨(y269), (0), (by first | rfl | (simp; done) | (simp [*]; done)), H', ⟨Nat.le_refl _⟩, ⟨by (with_reducible repeat (first | apply Kd.S_alloc | apply Kd.S_drewN | apply Kd.S_drew)); exact HO271.out⟩, ⟨by repeat (first | (with_reducible first | exact HI0.out | apply IsS29.alloc | apply IsS29.drewN | apply IsS29.drew | apply IsS29.set_0) | exact HI0.out)⟩, ⟨by repeat (first | (with_reducible first | exact HK.out | apply KeepBut.set_ | apply keep_drewN | apply keep_drew | apply keep_alloc) | exact HK.out)⟩, ⟨by repeat (first | (with_reducible first | exact HB.out | apply below_alloc | apply pw_below_drewN | apply below_drew1 | refine below_set ?_ (IsS29.ge HI0.out)) | exact HB.out)⟩⟩
 case round =>
  clear H'
  try clear c1
  try clear p2
  obtain ⟨x6_1, x7_1, rfl, HA, HK1, HO_6, HI0, HK, HB⟩ := hrel
  cases gk with
  | zero => exact absurd HA.out (by simp [spec_l04Tight.l0])
  | succ k1 =>
   have H := HA.out
   clear HA
   simp only [spec_l04Tight.l0] at H
   by_cases c5 : x7_1 < s0_0
   ·rw [if_pos c5] at H
    have c5b0 : decide (x7_1 < s0_0) = true := decide_eq_true c5
    clear c5
    obtain ⟨y272, hy272⟩ : ∃ y_ : List Int, y_ = (([] : List Int)) := ⟨_, rfl⟩
    replace H : (spec_l04Tight.l1 k1 l1 x6_1 x7_1 y272 0 s0_0 s0_1) = some (r1, r2, r3) := by first | (rw [hy272]; with_reducible exact H) | (have H2_ := (Option.bind_some _ _).symm.trans H; rw [hy272]; with_reducible exact H2_) | (have H2_ := (Option.bind_some _ _).symm.trans H; with_reducible exact H2_) | with_reducible exact H | (rw [hy272]; exact H) | exact H
    have Ny272 := Aside0.mk hy272
    clear hy272
    have H' := Aside0.mk H
    clear H
    obtain ⟨ASz6_1, cSz6_1, HGz6, hgz6, HSz6_1⟩ := HI0.out
    have hcz6_0 := cellS29_0 HGz6
    have hcz6_1 := cellS29_1 HGz6
    have hfz6_0 := blk_frozen HGz6 0
    clear HGz6 hgz6
    go_wp2_with (first | ((with_reducible refine gate_dst (N := 25) rfl ?_); refine Kd.R_lit (Kd.int .i64) _ 2 ?hg (N := 25) ?hd (xs := ([] : List Int)) (inner := []) (ok := fun _ => True) (okp := fun _ => True) ?hr ?hp (fun _ hk => hk) trivial (Below.refl _ _) (Nat.le_refl _) (by simp) ?_; (case hd => rfl); (case hg => rfl); (case hr => first | (go_simp; done) | (go_simp; rfl)); (case hp => exact (Reps.none _ _)); intro v273 w7 ho8 hb hg_ hnew_; clear hg_ hnew_; (first | rw [← Ny272.out] at ho8 | (simp only [Int.reduceToNat] at ho8; rw [← Ny272.out] at ho8)); have n0_ := Aside0.mk (Kd.S_elder' (by (with_reducible repeat (first | apply Kd.S_alloc | apply Kd.S_drewN | apply Kd.S_drew)); exact HO_6.out) (Kd.R_base ho8) hb); have n1_ := Aside0.mk (Kd.R_lower ho8 (keep_size (w := w) (g := g) (row := none) (by repeat (first | (with_reducible first | exact HK.out | apply KeepBut.set_ | apply keep_drewN | apply keep_drew | apply keep_alloc) | exact HK.out)))); have n2_ := Aside0.mk (IsS29.below (by repeat (first | (with_reducible first | exact HI0.out | apply IsS29.alloc | apply IsS29.drewN | apply IsS29.drew | apply IsS29.set_0) | exact HI0.out)) hb); have n3_ := Aside0.mk (KeepBut.trans (by repeat (first | (with_reducible first | exact HK.out | apply KeepBut.set_ | apply keep_drewN | apply keep_drew | apply keep_alloc) | exact HK.out)) (KeepBut.of_below hb g none) (.inl rfl)); have n4_ := Aside0.mk (below_step (by repeat (first | (with_reducible first | exact HB.out | apply below_alloc | apply pw_below_drewN | apply below_drew1 | refine below_set ?_ (IsS29.ge HI0.out)) | exact HB.out)) hb); clear HO_6; clear HI0; clear HK; clear HB; have HO_6 := n0_; have HO274 := n1_; have HI0 := n2_; have HK := n3_; have HB := n4_; clear n0_ n1_ n2_ n3_ n4_; clear hb ho8))
    go_loopg [8, 9] k1 (fun kq v8 v9 w' => ∃ (x8_2 : List Int) (x9_2 : Int), v9 = .int .i64 x9_2 ∧ Aside0 (spec_l04Tight.l1 kq l1 x6_1 x7_1 x8_2 x9_2 s0_0 s0_1 = some (r1, r2, r3)) ∧ Aside0 (kq ≤ k1) ∧ Aside0 (Kd.S (Kd.slice 2 (Kd.int .i64)) 33 w' w.heap.size (fun k_ => some k_ ≠ (v8 : Value).ownBlock) u6 x6_1) ∧ Aside0 (Kd.R (Kd.int .i64) 2 w' w.heap.size (fun _ => True) v8 x8_2) ∧ Aside0 (IsS29 w0 w' g s0_0 s0_1) ∧ Aside0 (KeepBut w w' g none) ∧ Aside0 (Below w0.heap.size w0 w'))
    case atStart => exact ⟨(y272), (0), (by first | rfl | (simp; done) | (simp [*]; done)), H', ⟨Nat.le_refl _⟩, ⟨by (with_reducible repeat (first | apply Kd.S_alloc | apply Kd.S_drewN | apply Kd.S_drew)); exact Kd.S_mono HO_6.out (fun _ hk => hk.2)⟩, ⟨by (with_reducible repeat (first | apply Kd.R_alloc | apply Kd.R_drewN | apply Kd.R_drew)); exact HO274.out⟩, ⟨by repeat (first | (with_reducible first | exact HI0.out | apply IsS29.alloc | apply IsS29.drewN | apply IsS29.drew | apply IsS29.set_0) | exact HI0.out)⟩, ⟨by repeat (first | (with_reducible first | exact HK.out | apply KeepBut.set_ | apply keep_drewN | apply keep_drew | apply keep_alloc) | exact HK.out)⟩, ⟨by repeat (first | (with_reducible first | exact HB.out | apply below_alloc | apply pw_below_drewN | apply below_drew1 | refine below_set ?_ (IsS29.ge HI0.out)) | exact HB.out)⟩⟩
    case round =>
     clear H'
     try clear c1
     try clear p2
     try clear c5
     try clear c5b0
     try clear c6
     try clear hcz6_0
     try clear hcz6_1
     try clear hfz6_0
     try clear p2
     obtain ⟨x8_2, x9_2, rfl, HA, HK2, HO_6, HO_8, HI0, HK, HB⟩ := hrel
     cases gk with
     | zero => exact absurd HA.out (by simp [spec_l04Tight.l1])
     | succ k2 =>
      have H := HA.out
      clear HA
      simp only [spec_l04Tight.l1] at H
      by_cases c9 : x9_2 < s0_0
      ·rw [if_pos c9] at H
       have c9b0 : decide (x9_2 < s0_0) = true := decide_eq_true c9
       clear c9
       by_cases c10 : x7_1 = x9_2
       ·rw [if_pos c10] at H
        have c10b0 : (x7_1 == x9_2) = true := beq_iff_eq.mpr c10
        have c10b1 : (x7_1 != x9_2) = false := bne_eq_false_iff_eq.mpr c10
        clear c10
        by_cases c11 : x8_2.length < 17592186044416
        ·rw [if_pos c11] at H
         have LMc11 := Aside0.mk c11
         clear c11
         obtain ⟨y275, hy275⟩ : ∃ y_ : List Int, y_ = (x8_2 ++ [0]) := ⟨_, rfl⟩
         replace H : (spec_l04Tight.l1 k2 l1 x6_1 x7_1 y275 (wrap64 (x9_2 + 1)) s0_0 s0_1) = some (r1, r2, r3) := by first | (rw [hy275]; with_reducible exact H) | (have H2_ := (Option.bind_some _ _).symm.trans H; rw [hy275]; with_reducible exact H2_) | (have H2_ := (Option.bind_some _ _).symm.trans H; with_reducible exact H2_) | with_reducible exact H | (rw [hy275]; exact H) | exact H
         have Ny275 := Aside0.mk hy275
         clear hy275
         have H' := Aside0.mk H
         clear H
         obtain ⟨ASz12_1, cSz12_1, HGz12, hgz12, HSz12_1⟩ := HI0.out
         have hcz12_0 := cellS29_0 HGz12
         have hcz12_1 := cellS29_1 HGz12
         have hfz12_0 := blk_frozen HGz12 0
         clear HGz12 hgz12
         go_wp2_with (first | ((with_reducible refine gate_builtin (b := .append) (xs := #[.tmp 37, .tmp 38]) rfl ?_); at_builtin; refine Kd.R_append (Kd.int .i64) w.heap.size rfl (.tmp 37) (.tmp 38) 33 2 (.int .i64 0) 8 rfl Try.underlying33 info2 rfl (by decide) (by omega) u8 x8_2 0 [.int .i64 0] (fun _ => True) (fun _ => False) rfl rfl ?aP (fun _ hk => hk.elim) ?aF ?aO (Below.refl _ _) ?aS ?aL ?_; (case aP => exact rfl); (case aF => exact (fun _ _ => trivial)); (case aO => exact (by (with_reducible repeat (first | apply Kd.R_alloc | apply Kd.R_drewN | apply Kd.R_drew)); exact HO_8.out)); (case aS => exact (keep_size (w := w) (g := g) (row := none) (by repeat (first | (with_reducible first | exact HK.out | apply KeepBut.set_ | apply keep_drewN | apply keep_drew | apply keep_alloc) | exact HK.out)))); (case aL => have := LMc11.out; omega); intro v276 w13 ho hb hg hat; rw [← Ny275.out] at ho; have n0_ := Aside0.mk (Kd.S_after (ok := (fun _ => True)) (by (with_reducible repeat (first | apply Kd.S_alloc | apply Kd.S_drewN | apply Kd.S_drew)); exact Kd.S_mono HO_6.out (fun _ hk => ⟨trivial, hk⟩)) hg hat); have n1_ := Aside0.mk (IsS29.grown (by repeat (first | (with_reducible first | exact HI0.out | apply IsS29.alloc | apply IsS29.drewN | apply IsS29.drew | apply IsS29.set_0) | exact HI0.out)) hg (IsS29.own_ne HI0.out HO_8.out (by decide))); have n2_ := Aside0.mk (below_weaken (by repeat (first | (with_reducible first | exact HB.out | apply below_alloc | apply pw_below_drewN | apply below_drew1 | refine below_set ?_ (IsS29.ge HI0.out)) | exact HB.out)) HL.out hb); have n3_ := Aside0.mk (KeepBut.trans (by repeat (first | (with_reducible first | exact HK.out | apply KeepBut.set_ | apply keep_drewN | apply keep_drew | apply keep_alloc) | exact HK.out)) (KeepBut.of_grown hg g) (Kd.R_base2 HO_8.out)); have n4_ := Aside0.mk (ho); clear HO_6; clear HI0; clear HB; clear HK; clear HO_8; have HO_6 := n0_; have HI0 := n1_; have HB := n2_; have HK := n3_; have HO277 := n4_; clear n0_ n1_ n2_ n3_ n4_; clear ho hb hg hat))
         go_roundg k2
         case measure => have := HK1.out; have := HK2.out; omega
         case rel => exact ⟨(y275), (wrap64 (x9_2 + 1)), (by first | rfl | (simp; done) | (simp [*]; done)), H', ⟨by have := HK1.out; have := HK2.out; omega⟩, ⟨by (with_reducible repeat (first | apply Kd.S_alloc | apply Kd.S_drewN | apply Kd.S_drew)); exact Kd.S_mono HO_6.out (fun _ hk => hk.2)⟩, ⟨by (with_reducible repeat (first | apply Kd.R_alloc | apply Kd.R_drewN | apply Kd.R_drew)); exact HO277.out⟩, ⟨by repeat (first | (with_reducible first | exact HI0.out | apply IsS29.alloc | apply IsS29.drewN | apply IsS29.drew | apply IsS29.set_0) | exact HI0.out)⟩, ⟨by repeat (first | (with_reducible first | exact HK.out | apply KeepBut.set_ | apply keep_drewN | apply keep_drew | apply keep_alloc) | exact HK.out)⟩, ⟨by repeat (first | (with_reducible first | exact HB.out | apply below_alloc | apply pw_below_drewN | apply below_drew1 | refine below_set ?_ (IsS29.ge HI0.out)) | exact HB.out)⟩⟩
        ·rw [if_neg c11] at H
         exact absurd H (by simp)
       ·rw [if_neg c10] at H
        have c10b0 : (x7_1 == x9_2) = false := beq_eq_false_iff_ne.mpr c10
        have c10b1 : (x7_1 != x9_2) = true := bne_iff_ne.mpr c10
        by_cases c14 : x8_2.length < 17592186044416
        ·rw [if_pos c14] at H
         have LMc14 := Aside0.mk c14
         clear c14
         obtain ⟨y278, hy278⟩ : ∃ y_ : List Int, y_ = (x8_2 ++ [1000000]) := ⟨_, rfl⟩
         replace H : (spec_l04Tight.l1 k2 l1 x6_1 x7_1 y278 (wrap64 (x9_2 + 1)) s0_0 s0_1) = some (r1, r2, r3) := by first | (rw [hy278]; with_reducible exact H) | (have H2_ := (Option.bind_some _ _).symm.trans H; rw [hy278]; with_reducible exact H2_) | (have H2_ := (Option.bind_some _ _).symm.trans H; with_reducible exact H2_) | with_reducible exact H | (rw [hy278]; exact H) | exact H
         have Ny278 := Aside0.mk hy278
         clear hy278
         have H' := Aside0.mk H
         clear H
         obtain ⟨ASz15_1, cSz15_1, HGz15, hgz15, HSz15_1⟩ := HI0.out
         have hcz15_0 := cellS29_0 HGz15
         have hcz15_1 := cellS29_1 HGz15
         have hfz15_0 := blk_frozen HGz15 0
         clear HGz15 hgz15
         go_wp2_with (first | ((with_reducible refine gate_builtin (b := .append) (xs := #[.tmp 40, .tmp 41]) rfl ?_); at_builtin; refine Kd.R_append (Kd.int .i64) w.heap.size rfl (.tmp 40) (.tmp 41) 33 2 (.int .i64 0) 8 rfl Try.underlying33 info2 rfl (by decide) (by omega) u8 x8_2 1000000 [.int .i64 1000000] (fun _ => True) (fun _ => False) rfl rfl ?aP (fun _ hk => hk.elim) ?aF ?aO (Below.refl _ _) ?aS ?aL ?_; (case aP => exact rfl); (case aF => exact (fun _ _ => trivial)); (case aO => exact (by (with_reducible repeat (first | apply Kd.R_alloc | apply Kd.R_drewN | apply Kd.R_drew)); exact HO_8.out)); (case aS => exact (keep_size (w := w) (g := g) (row := none) (by repeat (first | (with_reducible first | exact HK.out | apply KeepBut.set_ | apply keep_drewN | apply keep_drew | apply keep_alloc) | exact HK.out)))); (case aL => have := LMc14.out; omega); intro v279 w16 ho hb hg hat; rw [← Ny278.out] at ho; have n0_ := Aside0.mk (Kd.S_after (ok := (fun _ => True)) (by (with_reducible repeat (first | apply Kd.S_alloc | apply Kd.S_drewN | apply Kd.S_drew)); exact Kd.S_mono HO_6.out (fun _ hk => ⟨trivial, hk⟩)) hg hat); have n1_ := Aside0.mk (IsS29.grown (by repeat (first | (with_reducible first | exact HI0.out | apply IsS29.alloc | apply IsS29.drewN | apply IsS29.drew | apply IsS29.set_0) | exact HI0.out)) hg (IsS29.own_ne HI0.out HO_8.out (by decide))); have n2_ := Aside0.mk (below_weaken (by repeat (first | (with_reducible first | exact HB.out | apply below_alloc | apply pw_below_drewN | apply below_drew1 | refine below_set ?_ (IsS29.ge HI0.out)) | exact HB.out)) HL.out hb); have n3_ := Aside0.mk (KeepBut.trans (by repeat (first | (with_reducible first | exact HK.out | apply KeepBut.set_ | apply keep_drewN | apply keep_drew | apply keep_alloc) | exact HK.out)) (KeepBut.of_grown hg g) (Kd.R_base2 HO_8.out)); have n4_ := Aside0.mk (ho); clear HO_6; clear HI0; clear HB; clear HK; clear HO_8; have HO_6 := n0_; have HI0 := n1_; have HB := n2_; have HK := n3_; have HO280 := n4_; clear n0_ n1_ n2_ n3_ n4_; clear ho hb hg hat))
         go_roundg k2
         case measure => have := HK1.out; have := HK2.out; omega
         case rel => exact ⟨(y278), (wrap64 (x9_2 + 1)), (by first | rfl | (simp; done) | (simp [*]; done)), H', ⟨by have := HK1.out; have := HK2.out; omega⟩, ⟨by (with_reducible repeat (first | apply Kd.S_alloc | apply Kd.S_drewN | apply Kd.S_drew)); exact Kd.S_mono HO_6.out (fun _ hk => hk.2)⟩, ⟨by (with_reducible repeat (first | apply Kd.R_alloc | apply Kd.R_drewN | apply Kd.R_drew)); exact HO280.out⟩, ⟨by repeat (first | (with_reducible first | exact HI0.out | apply IsS29.alloc | apply IsS29.drewN | apply IsS29.drew | apply IsS29.set_0) | exact HI0.out)⟩, ⟨by repeat (first | (with_reducible first | exact HK.out | apply KeepBut.set_ | apply keep_drewN | apply keep_drew | apply keep_alloc) | exact HK.out)⟩, ⟨by repeat (first | (with_reducible first | exact HB.out | apply below_alloc | apply pw_below_drewN | apply below_drew1 | refine below_set ?_ (IsS29.ge HI0.out)) | exact HB.out)⟩⟩
        ·rw [if_neg c14] at H
         exact absurd H (by simp)
      ·rw [if_neg c9] at H
       have c9b0 : decide (x9_2 < s0_0) = false := decide_eq_false c9
       clear c9
       by_cases c17 : x6_1.length < 5864062014805
       ·rw [if_pos c17] at H
        have LMc17 := Aside0.mk c17
        clear c17
        obtain ⟨y281, hy281⟩ : ∃ y_ : List (List Int), y_ = (x6_1 ++ [x8_2]) := ⟨_, rfl⟩
        replace H : (spec_l04Tight.l0 k2 l1 y281 (wrap64 (x7_1 + 1)) s0_0 s0_1) = some (r1, r2, r3) := by first | (rw [hy281]; with_reducible exact H) | (have H2_ := (Option.bind_some _ _).symm.trans H; rw [hy281]; with_reducible exact H2_) | (have H2_ := (Option.bind_some _ _).symm.trans H; with_reducible exact H2_) | with_reducible exact H | (rw [hy281]; exact H) | exact H
        have Ny281 := Aside0.mk hy281
        clear hy281
        have H' := Aside0.mk H
        clear H
        obtain ⟨ASz18_1, cSz18_1, HGz18, hgz18, HSz18_1⟩ := HI0.out
        have hcz18_0 := cellS29_0 HGz18
        have hcz18_1 := cellS29_1 HGz18
        have hfz18_0 := blk_frozen HGz18 0
        clear HGz18 hgz18
        obtain ⟨Ao20, co20, eo20⟩ := Kd.R_slice HO_8.out
        subst eo20
        go_wp2_with (first | ((with_reducible refine gate_builtin (b := .append) (xs := #[.tmp 43, .tmp 45]) rfl ?_); at_builtin; refine Kd.S_append (Kd.slice 2 (Kd.int .i64)) w.heap.size rfl (.tmp 43) (.tmp 45) 55 33 (.slice none 0 0) 24 rfl Try.underlying55 info33 rfl (by decide) (by omega) u6 x6_1 x8_2 [.slice Ao20 x8_2.length co20] (fun _ => True) (fun k_ => some k_ = (.slice Ao20 x8_2.length co20 : Value).ownBlock) rfl rfl ?aP (fun k_ hk_ => ((Kd.R_mono (ok' := fun k_ => ((fun _ => True)) k_ ∧ some k_ ≠ (u6 : Value).ownBlock) (Kd.R_apart' (HO_8.out) (Kd.S_typed HO_6.out) (by decide)) (fun k_ hk => ⟨trivial, hk.2⟩))).1 k_ hk_.symm) ?aF ?aO (Below.refl _ _) ?aS ?aL ?_; (case aP => exact Kd.M_row (Kd.R_mono (Kd.R_tight rfl (Kd.R_mono (ok' := fun k_ => ((fun _ => True)) k_ ∧ some k_ ≠ (u6 : Value).ownBlock) (Kd.R_apart' (HO_8.out) (Kd.S_typed HO_6.out) (by decide)) (fun k_ hk => ⟨trivial, hk.2⟩))) (fun _ h_ => h_))); (case aF => exact (fun _ _ => trivial)); (case aO => exact (by (with_reducible repeat (first | apply Kd.S_alloc | apply Kd.S_drewN | apply Kd.S_drew)); exact Kd.S_mono HO_6.out (fun k_ hk => ⟨trivial, fun e_ => hk e_⟩))); (case aS => exact (keep_size (w := w) (g := g) (row := none) (by repeat (first | (with_reducible first | exact HK.out | apply KeepBut.set_ | apply keep_drewN | apply keep_drew | apply keep_alloc) | exact HK.out)))); (case aL => have := LMc17.out; omega); intro v282 w19 ho hb hg hat; rw [← Ny281.out] at ho; have n0_ := Aside0.mk (IsS29.grown (by repeat (first | (with_reducible first | exact HI0.out | apply IsS29.alloc | apply IsS29.drewN | apply IsS29.drew | apply IsS29.set_0) | exact HI0.out)) hg (IsS29.own_neS HI0.out HO_6.out (by decide))); have n1_ := Aside0.mk (below_weaken (by repeat (first | (with_reducible first | exact HB.out | apply below_alloc | apply pw_below_drewN | apply below_drew1 | refine below_set ?_ (IsS29.ge HI0.out)) | exact HB.out)) HL.out hb); have n2_ := Aside0.mk (KeepBut.trans (by repeat (first | (with_reducible first | exact HK.out | apply KeepBut.set_ | apply keep_drewN | apply keep_drew | apply keep_alloc) | exact HK.out)) (KeepBut.of_grown hg g) (Kd.S_base2 HO_6.out)); have n3_ := Aside0.mk (ho); clear HI0; clear HB; clear HK; clear HO_6; clear HO_8; have HI0 := n0_; have HB := n1_; have HK := n2_; have HO283 := n3_; clear n0_ n1_ n2_ n3_; clear ho hb hg hat))
        go_roundg k2
        case measure => have := HK1.out; have := HK2.out; omega
        case rel => exact ⟨(y281), (wrap64 (x7_1 + 1)), (by first | rfl | (simp; done) | (simp [*]; done)), H', ⟨by have := HK1.out; have := HK2.out; omega⟩, ⟨by (with_reducible repeat (first | apply Kd.S_alloc | apply Kd.S_drewN | apply Kd.S_drew)); exact HO283.out⟩, ⟨by repeat (first | (with_reducible first | exact HI0.out | apply IsS29.alloc | apply IsS29.drewN | apply IsS29.drew | apply IsS29.set_0) | exact HI0.out)⟩, ⟨by repeat (first | (with_reducible first | exact HK.out | apply KeepBut.set_ | apply keep_drewN | apply keep_drew | apply keep_alloc) | exact HK.out)⟩, ⟨by repeat (first | (with_reducible first | exact HB.out | apply below_alloc | apply pw_below_drewN | apply below_drew1 | refine below_set ?_ (IsS29.ge HI0.out)) | exact HB.out)⟩⟩
       ·rw [if_neg c17] at H
        exact absurd H (by simp)
   ·rw [if_neg c5] at H
    have c5b0 : decide (x7_1 < s0_0) = false := decide_eq_false c5
    clear c5
    have H' := Aside0.mk H
    clear H
    obtain ⟨ASz21_1, cSz21_1, HGz21, hgz21, HSz21_1⟩ := HI0.out
    have hcz21_0 := cellS29_0 HGz21
    have hcz21_1 := cellS29_1 HGz21
    have hfz21_0 := blk_frozen HGz21 0
    clear HGz21 hgz21
    go_wp2
    go_loopg [10] k1 (fun kq v10 w' => ∃ (x6_2 : List (List Int)) (x10_2 : Int), v10 = .int .i64 x10_2 ∧ Aside0 (spec_l04Tight.l2 kq l1 x6_2 x10_2 s0_0 s0_1 = some (r1, r2, r3)) ∧ Aside0 (kq ≤ k1) ∧ Aside0 (Kd.S (Kd.slice 2 (Kd.int .i64)) 33 w' w.heap.size (fun _ => True) u6 x6_2) ∧ Aside0 (IsS29 w0 w' g s0_0 s0_1) ∧ Aside0 (KeepBut w w' g none) ∧ Aside0 (Below w0.heap.size w0 w'))
    case atStart => exact ⟨(x6_1), (0), (by first | rfl | (simp; done) | (simp [*]; done)), H', ⟨Nat.le_refl _⟩, ⟨by (with_reducible repeat (first | apply Kd.S_alloc | apply Kd.S_drewN | apply Kd.S_drew)); exact HO_6.out⟩, ⟨by repeat (first | (with_reducible first | exact HI0.out | apply IsS29.alloc | apply IsS29.drewN | apply IsS29.drew | apply IsS29.set_0) | exact HI0.out)⟩, ⟨by repeat (first | (with_reducible first | exact HK.out | apply KeepBut.set_ | apply keep_drewN | apply keep_drew | apply keep_alloc) | exact HK.out)⟩, ⟨by repeat (first | (with_reducible first | exact HB.out | apply below_alloc | apply pw_below_drewN | apply below_drew1 | refine below_set ?_ (IsS29.ge HI0.out)) | exact HB.out)⟩⟩
    case round =>
     clear H'
     try clear c1
     try clear p2
     try clear c5
     try clear c5b0
     try clear c6
     try clear p6
     try clear c9
     try clear c9b0
     try clear c10
     try clear c10b0
     try clear c10b1
     try clear c11
     try clear c14
     try clear c17
     try clear hcz12_0
     try clear hcz12_1
     try clear hcz15_0
     try clear hcz15_1
     try clear hcz18_0
     try clear hcz18_1
     try clear hcz21_0
     try clear hcz21_1
     try clear hcz6_0
     try clear hcz6_1
     try clear hfz12_0
     try clear hfz15_0
     try clear hfz18_0
     try clear hfz21_0
     try clear hfz6_0
     try clear p2
     obtain ⟨x6_2, x10_2, rfl, HA, HK2, HO_6, HI0, HK, HB⟩ := hrel
     cases gk with
     | zero => exact absurd HA.out (by simp [spec_l04Tight.l2])
     | succ k2 =>
      have H := HA.out
      clear HA
      simp only [spec_l04Tight.l2] at H
      by_cases c22 : x10_2 < (s0_1.length : Int)
      ·rw [if_pos c22] at H
       have c22b0 : decide (x10_2 < (s0_1.length : Int)) = true := decide_eq_true c22
       clear c22
       by_cases c23 : 0 ≤ x10_2
       ·rw [if_pos c23] at H
        have c23b0 : decide (0 ≤ x10_2) = true := decide_eq_true c23
        clear c23
        replace H := Option.bind_eq_some_iff.mp H
        obtain ⟨t286, A240, H⟩ := H
        replace H : (if t286 = true then (spec_l04Tight.l2 k2 l1 x6_2 (wrap64 (x10_2 + 1)) s0_0 s0_1) else (if 0 ≤ ((rd_T45 s0_1 x10_2).f0) then (if ((rd_T45 s0_1 x10_2).f0) < (x6_2.length : Int) then (if 0 ≤ ((rd_T45 s0_1 x10_2).f1) then (if ((rd_T45 s0_1 x10_2).f1) < ((rd_L8 x6_2 ((rd_T45 s0_1 x10_2).f0)).length : Int) then ((spec_l00Min.f (rd (rd_L8 x6_2 ((rd_T45 s0_1 x10_2).f0)) ((rd_T45 s0_1 x10_2).f1)) ((rd_T45 s0_1 x10_2).f2)).bind fun t290 => (spec_l04Tight.l2 k2 l1 (x6_2.set (((rd_T45 s0_1 x10_2).f0) : Int).toNat ((rd_L8 x6_2 ((rd_T45 s0_1 x10_2).f0)).set (((rd_T45 s0_1 x10_2).f1) : Int).toNat t290)) (wrap64 (x10_2 + 1)) s0_0 s0_1)) else (none)) else (none)) else (none)) else (none))) = some (r1, r2, r3) := H
        have A24 := Aside0.mk A240
        clear A240
        by_cases c25 : t286 = true
        ·subst c25
         have H1 : (spec_l04Tight.l2 k2 l1 x6_2 (wrap64 (x10_2 + 1)) s0_0 s0_1) = some (r1, r2, r3) := by rw [if_pos rfl] at H; exact H
         clear H
         have H := H1
         clear H1
         have H' := Aside0.mk H
         clear H
         obtain ⟨ASz26_1, cSz26_1, HGz26, hgz26, HSz26_1⟩ := HI0.out
         have hcz26_0 := cellS29_0 HGz26
         have hcz26_1 := cellS29_1 HGz26
         have hfz26_0 := blk_frozen HGz26 0
         clear HGz26 hgz26
         have p284 : 0 ≤ (x10_2 : Int) := of_decide_eq_true (by with_reducible assumption)
         have q284 : x10_2 < (s0_1.length : Int) := of_decide_eq_true (by with_reducible assumption)
         obtain ⟨ad284, e284, hx284_0, hx284_1, hx284_2⟩ := at_T45 HSz26_1 x10_2 p284 q284
         cases e284
         replace hx284_0 := pw_cell_below HB.out hx284_0
         replace hx284_1 := pw_cell_below HB.out hx284_1
         replace hx284_2 := pw_cell_below HB.out hx284_2
         replace p284 := eq_true p284
         replace q284 := eq_true q284
         go_wp2_with (first | ((with_reducible refine gate_dst (N := 11) rfl ?_); refine box_event ?hg (N := 11) ?hd (cs := #[.int .i64 0, .int .i64 0, .int .i64 0]) (t := 45) ?hr ?_; (case hd => rfl); (case hg => rfl); (case hr => first | (go_simp; done) | (go_simp; rfl)); intro gb285 hg w27 hbox hb; have n0_ := Aside0.mk (Kd.S_below (by (with_reducible repeat (first | apply Kd.S_alloc | apply Kd.S_drewN | apply Kd.S_drew)); exact HO_6.out) hb); have n1_ := Aside0.mk (IsS29.below (by repeat (first | (with_reducible first | exact HI0.out | apply IsS29.alloc | apply IsS29.drewN | apply IsS29.drew | apply IsS29.set_0) | exact HI0.out)) hb); have n2_ := Aside0.mk (KeepBut.trans (by repeat (first | (with_reducible first | exact HK.out | apply KeepBut.set_ | apply keep_drewN | apply keep_drew | apply keep_alloc) | exact HK.out)) (KeepBut.of_below hb g none) (.inl rfl)); have n3_ := Aside0.mk (below_step (by repeat (first | (with_reducible first | exact HB.out | apply below_alloc | apply pw_below_drewN | apply below_drew1 | refine below_set ?_ (IsS29.ge HI0.out)) | exact HB.out)) hb); have n4_ := Aside0.mk (hbox); have n5_ := Aside0.mk ((by rw [hg]; exact (keep_size (w := w) (g := g) (row := none) (by repeat (first | (with_reducible first | exact HK.out | apply KeepBut.set_ | apply keep_drewN | apply keep_drew | apply keep_alloc) | exact HK.out))) : w.heap.size ≤ gb285)); have n6_ := Aside0.mk ((Nat.le_trans HW0.out (by rw [hg]; exact (keep_size (w := w) (g := g) (row := none) (by repeat (first | (with_reducible first | exact HK.out | apply KeepBut.set_ | apply keep_drewN | apply keep_drew | apply keep_alloc) | exact HK.out))) : w.heap.size ≤ gb285) : w0.heap.size ≤ gb285)); have n7_ := Aside0.mk ((by rw [hg]; exact Nat.ne_of_lt (IsS29.lt (show IsS29 w0 _ g s0_0 s0_1 from by repeat (first | (with_reducible first | exact HI0.out | apply IsS29.alloc | apply IsS29.drewN | apply IsS29.drew | apply IsS29.set_0) | exact HI0.out))) : g ≠ gb285)); have n8_ := Aside0.mk ((by rw [hg]; exact Nat.ne_of_gt (IsS29.lt (show IsS29 w0 _ g s0_0 s0_1 from by repeat (first | (with_reducible first | exact HI0.out | apply IsS29.alloc | apply IsS29.drewN | apply IsS29.drew | apply IsS29.set_0) | exact HI0.out))) : gb285 ≠ g)); clear HO_6; clear HI0; clear HK; clear HB; have HO_6 := n0_; have HI0 := n1_; have HK := n2_; have HB := n3_; have BK285 := n4_; have GW285 := n5_; have GE285 := n6_; have NB0_285 := n7_; have NB285_0 := n8_; clear n0_ n1_ n2_ n3_ n4_ n5_ n6_ n7_ n8_; clear hb hbox hg; have hnb28 := NB285_0.out; have hnc28 := NB0_285.out; have hcz29_0 : w27.cell? ⟨gb285, 0, none⟩ = some (.int .i64 0) := (blk_cell BK285.out 0).trans rfl; have hcz29_1 : w27.cell? ⟨gb285, 1, none⟩ = some (.int .i64 0) := (blk_cell BK285.out 1).trans rfl; have hcz29_2 : w27.cell? ⟨gb285, 2, none⟩ = some (.int .i64 0) := (blk_cell BK285.out 2).trans rfl; have hfz29_0 := blk_frozen BK285.out 0; have hfz29_1 := blk_frozen BK285.out 1; have hfz29_2 := blk_frozen BK285.out 2) | ((with_reducible refine gate_callee (f := 74) rfl ?_); refine goesL_ (some 65) rfl rfl Try.func74 (by kernel_rfl) rfl #[.slice A1 l1.length c1, .int .i64 x10_2] rfl (by (try simp only [List.map_toArray, List.map_cons, List.map_nil]); first | done | rfl | (simp only [List.length_drop, List.length_take]; rfl)) ?_; (with_reducible refine (spec_l00Has.calls k2 _ _ l1 x10_2 true _ ?side1 ?side2 A24.out).mono ?_); (case side1 => exact Kd.C_keep 0 HR1.out (by repeat (first | (with_reducible first | exact HK.out | apply KeepBut.set_ | apply keep_drewN | apply keep_drew | apply keep_alloc | refine keep_far ?_ GW285.out _) | exact HK.out)) hf1); (case side2 => exact HC1.out); rintro e w' ⟨rfl, ⟨nd, rfl⟩⟩; refine ⟨_, rfl, ?_⟩))
         go_roundg k2
         case measure => have := HK1.out; have := HK2.out; omega
         case rel => exact ⟨(x6_2), (wrap64 (x10_2 + 1)), (by first | rfl | (simp; done) | (simp [*]; done)), H', ⟨by have := HK1.out; have := HK2.out; omega⟩, ⟨by (with_reducible repeat (first | apply Kd.S_alloc | apply Kd.S_drewN | apply Kd.S_drew)); exact Kd.S_mono (Kd.S_far (p := ⟨gb285, 2, none⟩) (Kd.S_far (p := ⟨gb285, 1, none⟩) (Kd.S_far (p := ⟨gb285, 0, none⟩) (Kd.S_types HO_6.out BK285.out (by decide)) (fun _ hk => hk.2) (.int .i64 ((rd_T45 s0_1 x10_2).f0))) (fun _ hk => hk.2) (.int .i64 ((rd_T45 s0_1 x10_2).f1))) (fun _ hk => hk.2) (.int .i64 ((rd_T45 s0_1 x10_2).f2))) (fun _ hk => trivial)⟩, ⟨by repeat (first | (with_reducible first | exact HI0.out | apply IsS29.alloc | apply IsS29.drewN | apply IsS29.drew | apply IsS29.set_0 | refine IsS29.far ?_ NB0_285.out _) | exact HI0.out)⟩, ⟨by repeat (first | (with_reducible first | exact HK.out | apply KeepBut.set_ | apply keep_drewN | apply keep_drew | apply keep_alloc | refine keep_far ?_ GW285.out _) | exact HK.out)⟩, ⟨by repeat (first | (with_reducible first | exact HB.out | apply below_alloc | apply pw_below_drewN | apply below_drew1 | refine below_set ?_ (IsS29.ge HI0.out) | refine below_set ?_ GE285.out) | exact HB.out)⟩⟩
        ·replace c25 := Bool.eq_false_iff.mpr c25
         subst c25
         have H1 : (if 0 ≤ ((rd_T45 s0_1 x10_2).f0) then (if ((rd_T45 s0_1 x10_2).f0) < (x6_2.length : Int) then (if 0 ≤ ((rd_T45 s0_1 x10_2).f1) then (if ((rd_T45 s0_1 x10_2).f1) < ((rd_L8 x6_2 ((rd_T45 s0_1 x10_2).f0)).length : Int) then ((spec_l00Min.f (rd (rd_L8 x6_2 ((rd_T45 s0_1 x10_2).f0)) ((rd_T45 s0_1 x10_2).f1)) ((rd_T45 s0_1 x10_2).f2)).bind fun t290 => (spec_l04Tight.l2 k2 l1 (x6_2.set (((rd_T45 s0_1 x10_2).f0) : Int).toNat ((rd_L8 x6_2 ((rd_T45 s0_1 x10_2).f0)).set (((rd_T45 s0_1 x10_2).f1) : Int).toNat t290)) (wrap64 (x10_2 + 1)) s0_0 s0_1)) else (none)) else (none)) else (none)) else (none)) = some (r1, r2, r3) := by rw [if_neg (show ¬ (false = true) by decide)] at H; exact H
         clear H
         have H := H1
         clear H1
         by_cases c30 : 0 ≤ ((rd_T45 s0_1 x10_2).f0)
         ·rw [if_pos c30] at H
          have c30b0 : decide (0 ≤ ((rd_T45 s0_1 x10_2).f0)) = true := decide_eq_true c30
          clear c30
          by_cases c31 : ((rd_T45 s0_1 x10_2).f0) < (x6_2.length : Int)
          ·rw [if_pos c31] at H
           have c31b0 : decide (((rd_T45 s0_1 x10_2).f0) < (x6_2.length : Int)) = true := decide_eq_true c31
           clear c31
           by_cases c32 : 0 ≤ ((rd_T45 s0_1 x10_2).f1)
           ·rw [if_pos c32] at H
            have c32b0 : decide (0 ≤ ((rd_T45 s0_1 x10_2).f1)) = true := decide_eq_true c32
            clear c32
            by_cases c33 : ((rd_T45 s0_1 x10_2).f1) < ((rd_L8 x6_2 ((rd_T45 s0_1 x10_2).f0)).length : Int)
            ·rw [if_pos c33] at H
             have c33b0 : decide (((rd_T45 s0_1 x10_2).f1) < ((rd_L8 x6_2 ((rd_T45 s0_1 x10_2).f0)).length : Int)) = true := decide_eq_true c33
             clear c33
             replace H := Option.bind_eq_some_iff.mp H
             obtain ⟨t290, A340, H⟩ := H
             replace H : (spec_l04Tight.l2 k2 l1 (x6_2.set (((rd_T45 s0_1 x10_2).f0) : Int).toNat ((rd_L8 x6_2 ((rd_T45 s0_1 x10_2).f0)).set (((rd_T45 s0_1 x10_2).f1) : Int).toNat t290)) (wrap64 (x10_2 + 1)) s0_0 s0_1) = some (r1, r2, r3) := H
             have A34 := Aside0.mk A340
             clear A340
             obtain ⟨y291, hy291⟩ : ∃ y_ : List Int, y_ = ((rd_L8 x6_2 ((rd_T45 s0_1 x10_2).f0)).set (((rd_T45 s0_1 x10_2).f1) : Int).toNat t290) := ⟨_, rfl⟩
             replace H : (spec_l04Tight.l2 k2 l1 (x6_2.set (((rd_T45 s0_1 x10_2).f0) : Int).toNat y291) (wrap64 (x10_2 + 1)) s0_0 s0_1) = some (r1, r2, r3) := by first | (rw [hy291]; with_reducible exact H) | (have H2_ := (Option.bind_some _ _).symm.trans H; rw [hy291]; with_reducible exact H2_) | (have H2_ := (Option.bind_some _ _).symm.trans H; with_reducible exact H2_) | with_reducible exact H | (rw [hy291]; exact H) | exact H
             have Ny291 := Aside0.mk hy291
             clear hy291
             obtain ⟨y293, hy293⟩ : ∃ y_ : List (List Int), y_ = (x6_2.set (((rd_T45 s0_1 x10_2).f0) : Int).toNat y291) := ⟨_, rfl⟩
             replace H : (spec_l04Tight.l2 k2 l1 y293 (wrap64 (x10_2 + 1)) s0_0 s0_1) = some (r1, r2, r3) := by first | (rw [hy293]; with_reducible exact H) | (have H2_ := (Option.bind_some _ _).symm.trans H; rw [hy293]; with_reducible exact H2_) | (have H2_ := (Option.bind_some _ _).symm.trans H; with_reducible exact H2_) | with_reducible exact H | (rw [hy293]; exact H) | exact H
             have Ny293 := Aside0.mk hy293
             clear hy293
             have H' := Aside0.mk H
             clear H
             obtain ⟨ASz36_1, cSz36_1, HGz36, hgz36, HSz36_1⟩ := HI0.out
             have hcz36_0 := cellS29_0 HGz36
             have hcz36_1 := cellS29_1 HGz36
             have hfz36_0 := blk_frozen HGz36 0
             clear HGz36 hgz36
             have p284 : 0 ≤ (x10_2 : Int) := of_decide_eq_true (by with_reducible assumption)
             have q284 : x10_2 < (s0_1.length : Int) := of_decide_eq_true (by with_reducible assumption)
             obtain ⟨ad284, e284, hx284_0, hx284_1, hx284_2⟩ := at_T45 HSz36_1 x10_2 p284 q284
             cases e284
             replace hx284_0 := pw_cell_below HB.out hx284_0
             replace hx284_1 := pw_cell_below HB.out hx284_1
             replace hx284_2 := pw_cell_below HB.out hx284_2
             replace p284 := eq_true p284
             replace q284 := eq_true q284
             try go_wp2_with (first | ((with_reducible refine gate_dst (N := 11) rfl ?_); refine box_event ?hg (N := 11) ?hd (cs := #[.int .i64 0, .int .i64 0, .int .i64 0]) (t := 45) ?hr ?_; (case hd => rfl); (case hg => rfl); (case hr => first | (go_simp; done) | (go_simp; rfl)); intro gb285 hg w37 hbox hb; have n0_ := Aside0.mk (Kd.S_below (by (with_reducible repeat (first | apply Kd.S_alloc | apply Kd.S_drewN | apply Kd.S_drew)); exact HO_6.out) hb); have n1_ := Aside0.mk (IsS29.below (by repeat (first | (with_reducible first | exact HI0.out | apply IsS29.alloc | apply IsS29.drewN | apply IsS29.drew | apply IsS29.set_0) | exact HI0.out)) hb); have n2_ := Aside0.mk (KeepBut.trans (by repeat (first | (with_reducible first | exact HK.out | apply KeepBut.set_ | apply keep_drewN | apply keep_drew | apply keep_alloc) | exact HK.out)) (KeepBut.of_below hb g none) (.inl rfl)); have n3_ := Aside0.mk (below_step (by repeat (first | (with_reducible first | exact HB.out | apply below_alloc | apply pw_below_drewN | apply below_drew1 | refine below_set ?_ (IsS29.ge HI0.out)) | exact HB.out)) hb); have n4_ := Aside0.mk (hbox); have n5_ := Aside0.mk ((by rw [hg]; exact (keep_size (w := w) (g := g) (row := none) (by repeat (first | (with_reducible first | exact HK.out | apply KeepBut.set_ | apply keep_drewN | apply keep_drew | apply keep_alloc) | exact HK.out))) : w.heap.size ≤ gb285)); have n6_ := Aside0.mk ((Nat.le_trans HW0.out (by rw [hg]; exact (keep_size (w := w) (g := g) (row := none) (by repeat (first | (with_reducible first | exact HK.out | apply KeepBut.set_ | apply keep_drewN | apply keep_drew | apply keep_alloc) | exact HK.out))) : w.heap.size ≤ gb285) : w0.heap.size ≤ gb285)); have n7_ := Aside0.mk ((by rw [hg]; exact Nat.ne_of_lt (IsS29.lt (show IsS29 w0 _ g s0_0 s0_1 from by repeat (first | (with_reducible first | exact HI0.out | apply IsS29.alloc | apply IsS29.drewN | apply IsS29.drew | apply IsS29.set_0) | exact HI0.out))) : g ≠ gb285)); have n8_ := Aside0.mk ((by rw [hg]; exact Nat.ne_of_gt (IsS29.lt (show IsS29 w0 _ g s0_0 s0_1 from by repeat (first | (with_reducible first | exact HI0.out | apply IsS29.alloc | apply IsS29.drewN | apply IsS29.drew | apply IsS29.set_0) | exact HI0.out))) : gb285 ≠ g)); clear HO_6; clear HI0; clear HK; clear HB; have HO_6 := n0_; have HI0 := n1_; have HK := n2_; have HB := n3_; have BK285 := n4_; have GW285 := n5_; have GE285 := n6_; have NB0_285 := n7_; have NB285_0 := n8_; clear n0_ n1_ n2_ n3_ n4_ n5_ n6_ n7_ n8_; clear hb hbox hg; have hnb38 := NB285_0.out; have hnc38 := NB0_285.out; have hcz39_0 : w37.cell? ⟨gb285, 0, none⟩ = some (.int .i64 0) := (blk_cell BK285.out 0).trans rfl; have hcz39_1 : w37.cell? ⟨gb285, 1, none⟩ = some (.int .i64 0) := (blk_cell BK285.out 1).trans rfl; have hcz39_2 : w37.cell? ⟨gb285, 2, none⟩ = some (.int .i64 0) := (blk_cell BK285.out 2).trans rfl; have hfz39_0 := blk_frozen BK285.out 0; have hfz39_1 := blk_frozen BK285.out 1; have hfz39_2 := blk_frozen BK285.out 2) | ((with_reducible refine gate_callee (f := 74) rfl ?_); refine goesL_ (some 65) rfl rfl Try.func74 (by kernel_rfl) rfl #[.slice A1 l1.length c1, .int .i64 x10_2] rfl (by (try simp only [List.map_toArray, List.map_cons, List.map_nil]); first | done | rfl | (simp only [List.length_drop, List.length_take]; rfl)) ?_; (with_reducible refine (spec_l00Has.calls k2 _ _ l1 x10_2 false _ ?side1 ?side2 A24.out).mono ?_); (case side1 => exact Kd.C_keep 0 HR1.out (by repeat (first | (with_reducible first | exact HK.out | apply KeepBut.set_ | apply keep_drewN | apply keep_drew | apply keep_alloc | refine keep_far ?_ GW285.out _) | exact HK.out)) hf1); (case side2 => exact HC1.out); rintro e w' ⟨rfl, ⟨nd, rfl⟩⟩; refine ⟨_, rfl, ?_⟩))
             have n0_ : Aside0 (Kd.S (Kd.slice 2 (Kd.int .i64)) 33 (((w37.setCell ⟨gb285, 0, none⟩ (.int .i64 ((rd_T45 s0_1 x10_2).f0))).setCell ⟨gb285, 1, none⟩ (.int .i64 ((rd_T45 s0_1 x10_2).f1))).setCell ⟨gb285, 2, none⟩ (.int .i64 ((rd_T45 s0_1 x10_2).f2))) w.heap.size (fun _ => True) u6 x6_2) := ⟨by (with_reducible repeat (first | apply Kd.S_alloc | apply Kd.S_drewN | apply Kd.S_drew)); exact Kd.S_mono (Kd.S_far (p := ⟨gb285, 2, none⟩) (Kd.S_far (p := ⟨gb285, 1, none⟩) (Kd.S_far (p := ⟨gb285, 0, none⟩) (Kd.S_types HO_6.out BK285.out (by decide)) (fun _ hk => hk.2) (.int .i64 ((rd_T45 s0_1 x10_2).f0))) (fun _ hk => hk.2) (.int .i64 ((rd_T45 s0_1 x10_2).f1))) (fun _ hk => hk.2) (.int .i64 ((rd_T45 s0_1 x10_2).f2))) (fun _ hk => trivial)⟩
             have n1_ : Aside0 ((((w37.setCell ⟨gb285, 0, none⟩ (.int .i64 ((rd_T45 s0_1 x10_2).f0))).setCell ⟨gb285, 1, none⟩ (.int .i64 ((rd_T45 s0_1 x10_2).f1))).setCell ⟨gb285, 2, none⟩ (.int .i64 ((rd_T45 s0_1 x10_2).f2))).heap[gb285]? = some (.cells #[.int .i64 ((rd_T45 s0_1 x10_2).f0), .int .i64 ((rd_T45 s0_1 x10_2).f1), .int .i64 ((rd_T45 s0_1 x10_2).f2)] 45 (0, 0))) := ⟨by (with_reducible repeat (first | refine blk_drewN ?_ _ | refine blk_drew ?_ | refine blk_alloc ?_ _)); refine blk_put (cs := #[.int .i64 ((rd_T45 s0_1 x10_2).f0), .int .i64 ((rd_T45 s0_1 x10_2).f1), .int .i64 0]) ?_ 2 _ rfl; (with_reducible repeat (first | refine blk_drewN ?_ _ | refine blk_drew ?_ | refine blk_alloc ?_ _)); refine blk_put (cs := #[.int .i64 ((rd_T45 s0_1 x10_2).f0), .int .i64 0, .int .i64 0]) ?_ 1 _ rfl; (with_reducible repeat (first | refine blk_drewN ?_ _ | refine blk_drew ?_ | refine blk_alloc ?_ _)); refine blk_put (cs := #[.int .i64 0, .int .i64 0, .int .i64 0]) ?_ 0 _ rfl; (with_reducible repeat (first | refine blk_drewN ?_ _ | refine blk_drew ?_ | refine blk_alloc ?_ _)); exact BK285.out⟩
             have n2_ : Aside0 (IsS29 w0 (((w37.setCell ⟨gb285, 0, none⟩ (.int .i64 ((rd_T45 s0_1 x10_2).f0))).setCell ⟨gb285, 1, none⟩ (.int .i64 ((rd_T45 s0_1 x10_2).f1))).setCell ⟨gb285, 2, none⟩ (.int .i64 ((rd_T45 s0_1 x10_2).f2))) g s0_0 s0_1) := ⟨by repeat (first | (with_reducible first | exact HI0.out | apply IsS29.alloc | apply IsS29.drewN | apply IsS29.drew | apply IsS29.set_0 | refine IsS29.far ?_ NB0_285.out _) | exact HI0.out)⟩
             have n3_ : Aside0 (KeepBut w (((w37.setCell ⟨gb285, 0, none⟩ (.int .i64 ((rd_T45 s0_1 x10_2).f0))).setCell ⟨gb285, 1, none⟩ (.int .i64 ((rd_T45 s0_1 x10_2).f1))).setCell ⟨gb285, 2, none⟩ (.int .i64 ((rd_T45 s0_1 x10_2).f2))) g none) := ⟨by repeat (first | (with_reducible first | exact HK.out | apply KeepBut.set_ | apply keep_drewN | apply keep_drew | apply keep_alloc | refine keep_far ?_ GW285.out _) | exact HK.out)⟩
             have n4_ : Aside0 (Below w0.heap.size w0 (((w37.setCell ⟨gb285, 0, none⟩ (.int .i64 ((rd_T45 s0_1 x10_2).f0))).setCell ⟨gb285, 1, none⟩ (.int .i64 ((rd_T45 s0_1 x10_2).f1))).setCell ⟨gb285, 2, none⟩ (.int .i64 ((rd_T45 s0_1 x10_2).f2)))) := ⟨by repeat (first | (with_reducible first | exact HB.out | apply below_alloc | apply pw_below_drewN | apply below_drew1 | refine below_set ?_ (IsS29.ge HI0.out) | refine below_set ?_ GE285.out) | exact HB.out)⟩
             (try clear HO_6)
             (try clear BK285)
             (try clear HI0)
             (try clear HK)
             (try clear HB)
             generalize (((w37.setCell ⟨gb285, 0, none⟩ (.int .i64 ((rd_T45 s0_1 x10_2).f0))).setCell ⟨gb285, 1, none⟩ (.int .i64 ((rd_T45 s0_1 x10_2).f1))).setCell ⟨gb285, 2, none⟩ (.int .i64 ((rd_T45 s0_1 x10_2).f2))) = w40 at n0_ n1_ n2_ n3_ n4_ ⊢
             have HO_6 := n0_
             have BK285 := n1_
             have HI0 := n2_
             have HK := n3_
             have HB := n4_
             clear n0_ n1_ n2_ n3_ n4_
             (try (rw [drewN_self w40]; generalize hq_ : World.drewN w40 _ = w40; have n0_ : Aside0 (Kd.S (Kd.slice 2 (Kd.int .i64)) 33 w40 w.heap.size (fun _ => True) u6 x6_2) := ⟨by rw [← hq_]; exact (by (with_reducible repeat (first | apply Kd.S_alloc | apply Kd.S_drewN | apply Kd.S_drew)); exact HO_6.out)⟩; have n1_ : Aside0 (w40.heap[gb285]? = some (.cells #[.int .i64 ((rd_T45 s0_1 x10_2).f0), .int .i64 ((rd_T45 s0_1 x10_2).f1), .int .i64 ((rd_T45 s0_1 x10_2).f2)] 45 (0, 0))) := ⟨by rw [← hq_]; exact (by (with_reducible repeat (first | refine blk_drewN ?_ _ | refine blk_drew ?_ | refine blk_alloc ?_ _)); exact BK285.out)⟩; have n2_ : Aside0 (IsS29 w0 w40 g s0_0 s0_1) := ⟨by rw [← hq_]; exact (by repeat (first | (with_reducible first | exact HI0.out | apply IsS29.alloc | apply IsS29.drewN | apply IsS29.drew | apply IsS29.set_0 | refine IsS29.far ?_ NB0_285.out _) | exact HI0.out))⟩; have n3_ : Aside0 (KeepBut w w40 g none) := ⟨by rw [← hq_]; exact (by repeat (first | (with_reducible first | exact HK.out | apply KeepBut.set_ | apply keep_drewN | apply keep_drew | apply keep_alloc | refine keep_far ?_ GW285.out _) | exact HK.out))⟩; have n4_ : Aside0 (Below w0.heap.size w0 w40) := ⟨by rw [← hq_]; exact (by repeat (first | (with_reducible first | exact HB.out | apply below_alloc | apply pw_below_drewN | apply below_drew1 | refine below_set ?_ (IsS29.ge HI0.out) | refine below_set ?_ GE285.out) | exact HB.out))⟩; clear HO_6 BK285 HI0 HK HB hq_; have HO_6 := n0_; have BK285 := n1_; have HI0 := n2_; have HK := n3_; have HB := n4_; clear n0_ n1_ n2_ n3_ n4_))
             have n0_ := Aside0.mk (Kd.S_drew HO_6.out)
             have n1_ := Aside0.mk (blk_drew BK285.out)
             have n2_ := Aside0.mk (IsS29.drew HI0.out)
             have n3_ := Aside0.mk (keep_drew HK.out)
             have n4_ := Aside0.mk (below_drew1 HB.out)
             clear HO_6
             clear BK285
             clear HI0
             clear HK
             clear HB
             have HO_6 := n0_
             have BK285 := n1_
             have HI0 := n2_
             have HK := n3_
             have HB := n4_
             clear n0_ n1_ n2_ n3_ n4_
             obtain ⟨Ao42, co42, eo42⟩ := Kd.S_slice HO_6.out
             (first | subst eo42 | (injection eo42 with f1_ f2_ f3_; have f4_ := f1_.symm; have f5_ := f3_.symm; clear f1_ f2_ f3_; subst f4_; subst f5_))
             have p287 : 0 ≤ (((rd_T45 s0_1 x10_2).f0) : Int) := of_decide_eq_true (by with_reducible assumption)
             have q287 : ((rd_T45 s0_1 x10_2).f0) < (x6_2.length : Int) := of_decide_eq_true (by with_reducible assumption)
             obtain ⟨ad287, A287_0, c287_0, e287, hx287_0, hl287_0, hi287_0⟩ := at_L8 (Kd.S_reads' HO_6.out).2.2 ((rd_T45 s0_1 x10_2).f0) p287 q287
             cases e287
             obtain ⟨ce287, hce287, hMe287, hcc287⟩ := Kd.S_get HO_6.out [] ((rd_T45 s0_1 x10_2).f0) p287 (by first | exact q287 | exact of_decide_eq_true (by with_reducible assumption) | (have e_ := (Kd.S_reads' HO_6.out).1; omega))
             obtain ⟨ve287_0, rfl, ge287_0⟩ := hMe287
             have hv287_0 := hcc287 0 _ rfl
             rw [Nat.add_zero, show ((Kd.slice 2 (Kd.int .i64))).sz = 1 from rfl, Nat.mul_one] at hv287_0
             replace hv287_0 := Option.some.inj (hv287_0.symm.trans hx287_0)
             rw [hv287_0] at ge287_0
             have HL287_0 := Aside0.mk (show Kd.R (Kd.int .i64) 2 _ _ _ _ (rd_L8 x6_2 ((rd_T45 s0_1 x10_2).f0)) from ge287_0)
             clear hv287_0 ge287_0
             have HX287_0 := Aside0.mk hx287_0
             clear hcc287 hce287
             have HR287_0 := Aside0.mk hi287_0
             have HC287_0 := Aside0.mk hl287_0
             clear hi287_0 hl287_0
             replace p287 := eq_true p287
             replace q287 := eq_true q287
             have p288 : 0 ≤ (((rd_T45 s0_1 x10_2).f0) : Int) := of_decide_eq_true (by with_reducible assumption)
             have q288 : ((rd_T45 s0_1 x10_2).f0) < (x6_2.length : Int) := of_decide_eq_true (by with_reducible assumption)
             obtain ⟨ad288, A288_0, c288_0, e288, hx288_0, hl288_0, hi288_0⟩ := at_L8 (Kd.S_reads' HO_6.out).2.2 ((rd_T45 s0_1 x10_2).f0) p288 q288
             obtain rfl : ad287 = ad288 := (by injection e288)
             obtain ⟨ce288, hce288, hMe288, hcc288⟩ := Kd.S_get HO_6.out [] ((rd_T45 s0_1 x10_2).f0) p288 (by first | exact q288 | exact of_decide_eq_true (by with_reducible assumption) | (have e_ := (Kd.S_reads' HO_6.out).1; omega))
             obtain ⟨ve288_0, rfl, ge288_0⟩ := hMe288
             have hv288_0 := hcc288 0 _ rfl
             rw [Nat.add_zero, show ((Kd.slice 2 (Kd.int .i64))).sz = 1 from rfl, Nat.mul_one] at hv288_0
             replace hv288_0 := Option.some.inj (hv288_0.symm.trans hx288_0)
             rw [hv288_0] at ge288_0
             have HL288_0 := Aside0.mk (show Kd.R (Kd.int .i64) 2 _ _ _ _ (rd_L8 x6_2 ((rd_T45 s0_1 x10_2).f0)) from ge288_0)
             clear hv288_0 ge288_0
             have HX288_0 := Aside0.mk hx288_0
             clear hcc288 hce288
             have HR288_0 := Aside0.mk hi288_0
             have HC288_0 := Aside0.mk hl288_0
             clear hi288_0 hl288_0
             replace p288 := eq_true p288
             replace q288 := eq_true q288
             have ea_ := Option.some.inj (hx287_0.symm.trans hx288_0)
             injection ea_ with ea_ en_ ec_
             subst ea_
             subst ec_
             clear en_
             have p289 : 0 ≤ (((rd_T45 s0_1 x10_2).f1) : Int) := of_decide_eq_true (by with_reducible assumption)
             have q289 : ((rd_T45 s0_1 x10_2).f1) < ((rd_L8 x6_2 ((rd_T45 s0_1 x10_2).f0)).length : Int) := of_decide_eq_true (by with_reducible assumption)
             obtain ⟨ad289, e289, hx289_0⟩ := Kd.at_int (by repeat (first | (with_reducible exact HR288_0.out) | (with_reducible refine Kd.C_alloc ?_ _) | (with_reducible refine Kd.C_drewN ?_ _) | (with_reducible refine Kd.C_drew ?_) | exact HR288_0.out)) ((rd_T45 s0_1 x10_2).f1) p289 q289
             cases e289
             replace p289 := eq_true p289
             replace q289 := eq_true q289
             refine start_ (n := 21) (S := fun w' => w'.cell? ⟨gb285, 0, none⟩ = some (.int .i64 ((rd_T45 s0_1 x10_2).f0)) ∧ w'.cell? ⟨gb285, 1, none⟩ = some (.int .i64 ((rd_T45 s0_1 x10_2).f1)) ∧ w'.cell? ⟨gb285, 2, none⟩ = some (.int .i64 ((rd_T45 s0_1 x10_2).f2)) ∧ w'.cell? (ad287.add (((rd_T45 s0_1 x10_2).f0)).toNat) = some (.slice (some ad289) (rd_L8 x6_2 ((rd_T45 s0_1 x10_2).f0)).length c287_0) ∧ w'.cell? (ad287.add (((rd_T45 s0_1 x10_2).f0)).toNat) = some (.slice (some ad289) (rd_L8 x6_2 ((rd_T45 s0_1 x10_2).f0)).length c287_0) ∧ w'.cell? (ad289.add (((rd_T45 s0_1 x10_2).f1)).toNat) = some (.int .i64 (rd (rd_L8 x6_2 ((rd_T45 s0_1 x10_2).f0)) ((rd_T45 s0_1 x10_2).f1)))) (ds := [20]) #[false, false, false, false, false, false, false, false, false, false, false, false, false, false, false, false, false, false, false, false, false] (by kernel_rfl) rfl rfl ⟨(blk_cell BK285.out 0).trans rfl, (blk_cell BK285.out 1).trans rfl, (blk_cell BK285.out 2).trans rfl, hx287_0, hx288_0, hx289_0⟩ (fun hHeld => ?_); refine with_tabW spec_l04Tight.tab18 spec_l04Tight.bits18 (fun HT_ HW_ => ?_)
             generalize w40.drew = w41 at HO_6 BK285 HI0 HK HB HL287_0 HL288_0 HR287_0 HR288_0 HX287_0 HX288_0 hx287_0 hx288_0 hx289_0 hHeld ⊢
             refine pure_ (i := 0) (N := some 67) (v := ?_) (a' := ?_) #[true, false, false, false, false, false, false, false, false, false, false, false, false, false, false, false, false, false, false, false, false] rfl rfl (any_of HT_.out (by kernel_rfl)) (fun _ _ _ h => h) (Or.inl ⟨by rfl, ?_⟩) ?_ ?_
             rotate_left
             ·intro w'
              go_simp
              with_reducible rfl
             rotate_left
             ·simp only [Act.put, List.setIfInBounds_toArray, List.set_cons_zero, List.set_cons_succ, i64_w, i32_w]
              rfl
             refine pure_ (i := 1) (N := some 68) (v := ?_) (a' := ?_) #[true, true, false, false, false, false, false, false, false, false, false, false, false, false, false, false, false, false, false, false, false] rfl rfl (any_of HT_.out (by kernel_rfl)) (fun _ _ _ h => h) (Or.inl ⟨by rfl, ?_⟩) ?_ ?_
             rotate_left
             ·intro w'
              go_simp
              with_reducible rfl
             rotate_left
             ·simp only [Act.put, List.setIfInBounds_toArray, List.set_cons_zero, List.set_cons_succ, i64_w, i32_w]
              rfl
             refine pure_ (i := 5) (N := some 72) (v := ?_) (a' := ?_) #[true, true, false, false, false, true, false, false, false, false, false, false, false, false, false, false, false, false, false, false, false] rfl rfl (any_of HT_.out (by kernel_rfl)) (fun _ _ _ h => h) (Or.inl ⟨by rfl, ?_⟩) ?_ ?_
             rotate_left
             ·intro w'
              go_simp
              with_reducible rfl
             rotate_left
             ·simp only [Act.put, List.setIfInBounds_toArray, List.set_cons_zero, List.set_cons_succ, i64_w, i32_w]
              rfl
             refine pure_ (i := 7) (N := some 74) (v := ?_) (a' := ?_) #[true, true, false, false, false, true, false, true, false, false, false, false, false, false, false, false, false, false, false, false, false] rfl rfl (any_of HT_.out (by kernel_rfl)) (fun _ _ _ h => h) (Or.inl ⟨by rfl, ?_⟩) ?_ ?_
             rotate_left
             ·intro w'
              go_simp
              with_reducible rfl
             rotate_left
             ·simp only [Act.put, List.setIfInBounds_toArray, List.set_cons_zero, List.set_cons_succ, i64_w, i32_w]
              rfl
             refine pure_ (i := 8) (N := some 75) (v := ?_) (a' := ?_) #[true, true, false, false, false, true, false, true, true, false, false, false, false, false, false, false, false, false, false, false, false] rfl rfl (any_of HT_.out (by kernel_rfl)) (fun _ _ _ h => h) (Or.inl ⟨by rfl, ?_⟩) ?_ ?_
             rotate_left
             ·intro w'
              go_simp
              with_reducible rfl
             rotate_left
             ·simp only [Act.put, List.setIfInBounds_toArray, List.set_cons_zero, List.set_cons_succ, i64_w, i32_w]
              rfl
             refine pure_ (i := 12) (N := some 79) (v := ?_) (a' := ?_) #[true, true, false, false, false, true, false, true, true, false, false, false, true, false, false, false, false, false, false, false, false] rfl rfl (any_of HT_.out (by kernel_rfl)) (fun _ _ _ h => h) (Or.inl ⟨by rfl, ?_⟩) ?_ ?_
             rotate_left
             ·intro w'
              go_simp
              with_reducible rfl
             rotate_left
             ·simp only [Act.put, List.setIfInBounds_toArray, List.set_cons_zero, List.set_cons_succ, i64_w, i32_w]
              rfl
             refine pure_ (i := 16) (N := some 83) (v := ?_) (a' := ?_) #[true, true, false, false, false, true, false, true, true, false, false, false, true, false, false, false, true, false, false, false, false] rfl rfl (any_of HT_.out (by kernel_rfl)) (fun _ _ _ h => h) (Or.inl ⟨by rfl, ?_⟩) ?_ ?_
             rotate_left
             ·intro w'
              go_simp
              with_reducible rfl
             rotate_left
             ·simp only [Act.put, List.setIfInBounds_toArray, List.set_cons_zero, List.set_cons_succ, i64_w, i32_w]
              rfl
             refine take_ (i := 2) (N := some 69) (v := ?_) (a' := ?_) #[true, true, true, false, false, true, false, true, true, false, false, false, true, false, false, false, true, false, false, false, false] rfl rfl (take_ofW HT_.out HW_.out (by kernel_rfl)) (fun _ _ _ h => h) (Or.inl ⟨by rfl, ?_⟩) hHeld ?_ ?_
             rotate_left
             ·rintro w' ⟨s0, s1, s2, s3, s4, s5⟩
              go_simp
              with_reducible rfl
             rotate_left
             ·simp only [Act.put, List.setIfInBounds_toArray, List.set_cons_zero, List.set_cons_succ, i64_w, i32_w]
              rfl
             refine pure_ (i := 3) (N := some 70) (v := ?_) (a' := ?_) #[true, true, true, true, false, true, false, true, true, false, false, false, true, false, false, false, true, false, false, false, false] rfl rfl (any_of HT_.out (by kernel_rfl)) (fun _ _ _ h => h) (Or.inl ⟨by rfl, ?_⟩) ?_ ?_
             rotate_left
             ·intro w'
              go_simp
              with_reducible rfl
             rotate_left
             ·simp only [Act.put, List.setIfInBounds_toArray, List.set_cons_zero, List.set_cons_succ, i64_w, i32_w]
              rfl
             refine take_ (i := 4) (N := some 71) (v := ?_) (a' := ?_) #[true, true, true, true, true, true, false, true, true, false, false, false, true, false, false, false, true, false, false, false, false] rfl rfl (take_ofW HT_.out HW_.out (by kernel_rfl)) (fun _ _ _ h => h) (Or.inl ⟨by rfl, ?_⟩) hHeld ?_ ?_
             rotate_left
             ·rintro w' ⟨s0, s1, s2, s3, s4, s5⟩
              go_simp
              with_reducible rfl
             rotate_left
             ·simp only [Act.put, List.setIfInBounds_toArray, List.set_cons_zero, List.set_cons_succ, i64_w, i32_w]
              rfl
             refine take_ (i := 6) (N := some 73) (v := ?_) (a' := ?_) #[true, true, true, true, true, true, true, true, true, false, false, false, true, false, false, false, true, false, false, false, false] rfl rfl (take_ofW HT_.out HW_.out (by kernel_rfl)) (fun _ _ _ h => h) (Or.inl ⟨by rfl, ?_⟩) hHeld ?_ ?_
             rotate_left
             ·rintro w' ⟨s0, s1, s2, s3, s4, s5⟩
              go_simp
              with_reducible rfl
             rotate_left
             ·simp only [Act.put, List.setIfInBounds_toArray, List.set_cons_zero, List.set_cons_succ, i64_w, i32_w]
              rfl
             refine take_ (i := 9) (N := some 76) (v := ?_) (a' := ?_) #[true, true, true, true, true, true, true, true, true, true, false, false, true, false, false, false, true, false, false, false, false] rfl rfl (take_ofW HT_.out HW_.out (by kernel_rfl)) (fun _ _ _ h => h) (Or.inl ⟨by rfl, ?_⟩) hHeld ?_ ?_
             rotate_left
             ·rintro w' ⟨s0, s1, s2, s3, s4, s5⟩
              go_simp
              with_reducible rfl
             rotate_left
             ·simp only [Act.put, List.setIfInBounds_toArray, List.set_cons_zero, List.set_cons_succ, i64_w, i32_w]
              rfl
             refine pure_ (i := 10) (N := some 77) (v := ?_) (a' := ?_) #[true, true, true, true, true, true, true, true, true, true, true, false, true, false, false, false, true, false, false, false, false] rfl rfl (any_of HT_.out (by kernel_rfl)) (fun _ _ _ h => h) (Or.inl ⟨by rfl, ?_⟩) ?_ ?_
             rotate_left
             ·intro w'
              go_simp
              with_reducible rfl
             rotate_left
             ·simp only [Act.put, List.setIfInBounds_toArray, List.set_cons_zero, List.set_cons_succ, i64_w, i32_w]
              rfl
             refine take_ (i := 11) (N := some 78) (v := ?_) (a' := ?_) #[true, true, true, true, true, true, true, true, true, true, true, true, true, false, false, false, true, false, false, false, false] rfl rfl (take_ofW HT_.out HW_.out (by kernel_rfl)) (fun _ _ _ h => h) (Or.inl ⟨by rfl, ?_⟩) hHeld ?_ ?_
             rotate_left
             ·rintro w' ⟨s0, s1, s2, s3, s4, s5⟩
              go_simp
              with_reducible rfl
             rotate_left
             ·simp only [Act.put, List.setIfInBounds_toArray, List.set_cons_zero, List.set_cons_succ, i64_w, i32_w]
              rfl
             refine take_ (i := 13) (N := some 80) (v := ?_) (a' := ?_) #[true, true, true, true, true, true, true, true, true, true, true, true, true, true, false, false, true, false, false, false, false] rfl rfl (take_ofW HT_.out HW_.out (by kernel_rfl)) (fun _ _ _ h => h) (Or.inl ⟨by rfl, ?_⟩) hHeld ?_ ?_
             rotate_left
             ·rintro w' ⟨s0, s1, s2, s3, s4, s5⟩
              go_simp
              with_reducible rfl
             rotate_left
             ·simp only [Act.put, List.setIfInBounds_toArray, List.set_cons_zero, List.set_cons_succ, i64_w, i32_w]
              rfl
             refine pure_ (i := 14) (N := some 81) (v := ?_) (a' := ?_) #[true, true, true, true, true, true, true, true, true, true, true, true, true, true, true, false, true, false, false, false, false] rfl rfl (any_of HT_.out (by kernel_rfl)) (fun _ _ _ h => h) (Or.inl ⟨by rfl, ?_⟩) ?_ ?_
             rotate_left
             ·intro w'
              go_simp
              with_reducible rfl
             rotate_left
             ·simp only [Act.put, List.setIfInBounds_toArray, List.set_cons_zero, List.set_cons_succ, i64_w, i32_w]
              rfl
             refine take_ (i := 15) (N := some 82) (v := ?_) (a' := ?_) #[true, true, true, true, true, true, true, true, true, true, true, true, true, true, true, true, true, false, false, false, false] rfl rfl (take_ofW HT_.out HW_.out (by kernel_rfl)) (fun _ _ _ h => h) (Or.inl ⟨by rfl, ?_⟩) hHeld ?_ ?_
             rotate_left
             ·rintro w' ⟨s0, s1, s2, s3, s4, s5⟩
              go_simp
              with_reducible rfl
             rotate_left
             ·simp only [Act.put, List.setIfInBounds_toArray, List.set_cons_zero, List.set_cons_succ, i64_w, i32_w]
              rfl
             refine take_ (i := 17) (N := some 84) (v := ?_) (a' := ?_) #[true, true, true, true, true, true, true, true, true, true, true, true, true, true, true, true, true, true, false, false, false] rfl rfl (take_ofW HT_.out HW_.out (by kernel_rfl)) (fun _ _ _ h => h) (Or.inl ⟨by rfl, ?_⟩) hHeld ?_ ?_
             rotate_left
             ·rintro w' ⟨s0, s1, s2, s3, s4, s5⟩
              go_simp
              with_reducible rfl
             rotate_left
             ·simp only [Act.put, List.setIfInBounds_toArray, List.set_cons_zero, List.set_cons_succ, i64_w, i32_w]
              rfl
             refine one_ (i := 18) (N := some 85) #[true, true, true, true, true, true, true, true, true, true, true, true, true, true, true, true, true, true, true, false, false] rfl rfl (one_of HT_.out (by kernel_rfl)) (by decide) (fun K hK => ?_)
             refine goes_ Try.func75 (by kernel_rfl) rfl #[.int .i64 (rd (rd_L8 x6_2 ((rd_T45 s0_1 x10_2).f0)) ((rd_T45 s0_1 x10_2).f1)), .int .i64 ((rd_T45 s0_1 x10_2).f2)] (by rfl) rfl rfl (by (try simp only [List.map_toArray, List.map_cons, List.map_nil]); first | done | rfl | (simp only [List.length_drop, List.length_take]; rfl)) ?_
             with_reducible refine (spec_l00Min.calls (rd (rd_L8 x6_2 ((rd_T45 s0_1 x10_2).f0)) ((rd_T45 s0_1 x10_2).f1)) ((rd_T45 s0_1 x10_2).f2) t290 _ A34.out).mono ?_
             rintro e w' ⟨rfl, ⟨nd, rfl⟩⟩
             refine ⟨_, rfl, ?_⟩
             have p35 : 0 ≤ (((rd_T45 s0_1 x10_2).f1) : Int) := of_decide_eq_true (by with_reducible assumption)
             have q35 : (((rd_T45 s0_1 x10_2).f1) : Int) < (((rd_L8 x6_2 ((rd_T45 s0_1 x10_2).f0)).length : Int) : Int) := of_decide_eq_true (by with_reducible assumption)
             obtain ⟨go35, co35, eo35, gb35, gl35, cl35, HG35⟩ := Kd.R_form HL287_0.out (by omega)
             (first | cases eo35 | (injection eo35 with ea_ en_ ec_; (first | subst ea_ | (injection ea_ with ea_; subst ea_)); subst ec_; clear en_))
             have GB35 := Aside0.mk gb35
             have GG35 := Aside0.mk HG35
             clear gb35 gl35 HG35
             (first | simp only [add_plain] at hx289_0 | skip)
             obtain ⟨hx35_0, hf35_0⟩ := Kd.R_celln 0 HL287_0.out (((rd_T45 s0_1 x10_2).f1) : Int) p35 q35
             replace p35 := eq_true p35
             replace q35 := eq_true q35
             have hq43 : (((rd_T45 s0_1 x10_2).f0) : Int) < (x6_2.length : Int) := (by have h_ : (((rd_T45 s0_1 x10_2).f0) : Int) < ((x6_2.length : Int) : Int) := of_decide_eq_true (by with_reducible assumption); first | exact h_ | (have e_ := (Kd.S_reads' HO_6.out).1; omega) | simpa only [List.length_set, List.length_set] using h_)
             obtain ⟨oki43, ce43, hcl43, hM43, hcc43, hok43, hbk43⟩ := Kd.S_borrow HO_6.out [] (((rd_T45 s0_1 x10_2).f0) : Int) (of_decide_eq_true (by with_reducible assumption)) hq43
             obtain ⟨ve43_0, rfl, ge43_0⟩ := hM43
             have hv43 := hcc43 0 _ rfl
             rw [Nat.add_zero, show ((Kd.slice 2 (Kd.int .i64))).sz = 1 from rfl, Nat.mul_one] at hv43
             replace hv43 := Option.some.inj (hv43.symm.trans HX287_0.out)
             subst hv43
             clear hcc43 hcl43
             replace ge43_0 := (show Kd.R (Kd.int .i64) 2 _ _ _ _ (rd_L8 x6_2 ((rd_T45 s0_1 x10_2).f0)) from ge43_0)
             have HP43 := Kd.R_putg ge43_0 (((rd_T45 s0_1 x10_2).f1) : Int) t290
             have HN0_go35 := Aside0.mk (show g ≠ go35 from by have h_ := IsS29.own_ne HI0.out HL287_0.out (by decide); intro e_; exact h_ (by rw [e_]; rfl))
             rw [← Ny291.out] at HP43
             have HS43 := hbk43 HP43.2 (fun k_ e_ => by injection e_ with e_; subst e_; exact ge43_0.1 _ rfl) (x' := y291) (Kd.M_row HP43.1)
             rw [← Ny293.out] at HS43
             have HQ43 := Aside0.mk HS43
             clear HP43 HS43 hbk43 hok43
             refine hK.out _ _ ⟨(blk_cell BK285.out 0).trans rfl, (blk_cell BK285.out 1).trans rfl, (blk_cell BK285.out 2).trans rfl, hHeld.2.2.2.1, hHeld.2.2.2.2.1, hHeld.2.2.2.2.2⟩ (fun hHeld => ?_)
             clear hK K
             refine norm_ (a' := ?_) ?_ ?_
             rotate_left
             ·show Act.put _ (some 85) _ = _
              simp only [Act.put, List.setIfInBounds_toArray, List.set_cons_zero, List.set_cons_succ, i64_w, i32_w]
              rfl
             refine pure_ (i := 19) (N := some 86) (v := ?_) (a' := ?_) #[true, true, true, true, true, true, true, true, true, true, true, true, true, true, true, true, true, true, true, true, false] rfl rfl (any_of HT_.out (by kernel_rfl)) (fun _ _ _ h => h) (Or.inl ⟨by rfl, ?_⟩) ?_ ?_
             rotate_left
             ·intro w'
              go_simp
              with_reducible rfl
             rotate_left
             ·simp only [Act.put, List.setIfInBounds_toArray, List.set_cons_zero, List.set_cons_succ, i64_w, i32_w]
              rfl
             refine last_ (i := 20) (N := none) #[true, true, true, true, true, true, true, true, true, true, true, true, true, true, true, true, true, true, true, true, true] rfl rfl (one_of HT_.out (by kernel_rfl)) (by decide) (fun K hK => ?_)
             refine skip_ (w1 := ?_) (by rfl) rfl ?_ ?_
             rotate_left
             ·go_simp
              rfl
             refine hK.out _ _ ?_
             clear hK K
             refine done_ (done_of HT_.out (by kernel_rfl)) ?_
             try go_wp2
             go_roundg k2
             case measure => have := HK1.out; have := HK2.out; omega
             case rel => exact ⟨(y293), (wrap64 (x10_2 + 1)), (by first | rfl | (simp; done) | (simp [*]; done)), H', ⟨by have := HK1.out; have := HK2.out; omega⟩, ⟨by (with_reducible repeat (first | apply Kd.S_alloc | apply Kd.S_drewN | apply Kd.S_drew)); exact HQ43.out⟩, ⟨by repeat (first | (with_reducible first | exact HI0.out | apply IsS29.alloc | apply IsS29.drewN | apply IsS29.drew | apply IsS29.set_0 | refine IsS29.far ?_ HN0_go35.out _ | refine IsS29.far ?_ NB0_285.out _) | exact HI0.out)⟩, ⟨by repeat (first | (with_reducible first | exact HK.out | apply KeepBut.set_ | apply keep_drewN | apply keep_drew | apply keep_alloc | refine keep_far ?_ GB35.out _ | refine keep_far ?_ GW285.out _) | exact HK.out)⟩, ⟨by repeat (first | (with_reducible first | exact HB.out | apply below_alloc | apply pw_below_drewN | apply below_drew1 | refine below_set ?_ (Nat.le_trans HL.out GB35.out) | refine below_set ?_ (IsS29.ge HI0.out) | refine below_set ?_ GE285.out) | exact HB.out)⟩⟩
            ·rw [if_neg c33] at H
             exact absurd H (by simp)
           ·rw [if_neg c32] at H
            exact absurd H (by simp)
          ·rw [if_neg c31] at H
           exact absurd H (by simp)
         ·rw [if_neg c30] at H
          exact absurd H (by simp)
       ·rw [if_neg c23] at H
        exact absurd H (by simp)
      ·rw [if_neg c22] at H
       have c22b0 : decide (x10_2 < (s0_1.length : Int)) = false := decide_eq_false c22
       clear c22
       have H' := Aside0.mk H
       clear H
       obtain ⟨ASz45_1, cSz45_1, HGz45, hgz45, HSz45_1⟩ := HI0.out
       have hcz45_0 := cellS29_0 HGz45
       have hcz45_1 := cellS29_1 HGz45
       have hfz45_0 := blk_frozen HGz45 0
       clear HGz45 hgz45
       go_wp2
       go_loopg [12] k2 (fun kq v12 w' => ∃ (x6_3 : List (List Int)) (x12_3 : Int), v12 = .int .i64 x12_3 ∧ Aside0 (spec_l04Tight.l3 kq x6_3 x12_3 s0_0 s0_1 = some (r1, r2, r3)) ∧ Aside0 (kq ≤ k2) ∧ Aside0 (Kd.S (Kd.slice 2 (Kd.int .i64)) 33 w' w.heap.size (fun _ => True) u6 x6_3) ∧ Aside0 (IsS29 w0 w' g s0_0 s0_1) ∧ Aside0 (KeepBut w w' g none) ∧ Aside0 (Below w0.heap.size w0 w'))
       case atStart => exact ⟨(x6_2), (0), (by first | rfl | (simp; done) | (simp [*]; done)), H', ⟨Nat.le_refl _⟩, ⟨by (with_reducible repeat (first | apply Kd.S_alloc | apply Kd.S_drewN | apply Kd.S_drew)); exact HO_6.out⟩, ⟨by repeat (first | (with_reducible first | exact HI0.out | apply IsS29.alloc | apply IsS29.drewN | apply IsS29.drew | apply IsS29.set_0) | exact HI0.out)⟩, ⟨by repeat (first | (with_reducible first | exact HK.out | apply KeepBut.set_ | apply keep_drewN | apply keep_drew | apply keep_alloc) | exact HK.out)⟩, ⟨by repeat (first | (with_reducible first | exact HB.out | apply below_alloc | apply pw_below_drewN | apply below_drew1 | refine below_set ?_ (IsS29.ge HI0.out)) | exact HB.out)⟩⟩
       case round =>
        clear H'
        try clear c1
        try clear c2
        try clear p2
        try clear q2
        try clear hx2
        try clear c3
        try clear p3
        try clear q3
        try clear hx3
        try clear hf3
        try clear c4
        try clear q4
        try clear c5
        try clear c5b0
        try clear c6
        try clear p6
        try clear c7
        try clear c9
        try clear c9b0
        try clear c10
        try clear c10b0
        try clear c10b1
        try clear c11
        try clear c14
        try clear c17
        try clear c22
        try clear c22b0
        try clear c23
        try clear c23b0
        try clear c25
        try clear c28
        try clear p28
        try clear q28
        try clear hx28
        try clear c30
        try clear c30b0
        try clear c31
        try clear c31b0
        try clear c32
        try clear c32b0
        try clear c33
        try clear c33b0
        try clear p35
        try clear q35
        try clear hx35
        try clear hf35
        try clear c38
        try clear c43
        try clear q43
        try clear hcz12_0
        try clear hcz12_1
        try clear hcz15_0
        try clear hcz15_1
        try clear hcz18_0
        try clear hcz18_1
        try clear hcz21_0
        try clear hcz21_1
        try clear hcz26_0
        try clear hcz26_1
        try clear hcz29_0
        try clear hcz29_1
        try clear hcz29_2
        try clear hcz36_0
        try clear hcz36_1
        try clear hcz39_0
        try clear hcz39_1
        try clear hcz39_2
        try clear hcz45_0
        try clear hcz45_1
        try clear hcz6_0
        try clear hcz6_1
        try clear hfz12_0
        try clear hfz15_0
        try clear hfz18_0
        try clear hfz21_0
        try clear hfz26_0
        try clear hfz29_0
        try clear hfz29_1
        try clear hfz29_2
        try clear hfz36_0
        try clear hfz39_0
        try clear hfz39_1
        try clear hfz39_2
        try clear hfz45_0
        try clear hfz6_0
        try clear hx284_0
        try clear hx284_1
        try clear hx284_2
        try clear hx287_0
        try clear hx288_0
        try clear hx289_0
        try clear hx35_0
        try clear p2
        try clear p284
        try clear p287
        try clear p288
        try clear p289
        try clear p35
        try clear p6
        try clear q284
        try clear q287
        try clear q288
        try clear q289
        try clear q35
        obtain ⟨x6_3, x12_3, rfl, HA, HK3, HO_6, HI0, HK, HB⟩ := hrel
        cases gk with
        | zero => exact absurd HA.out (by simp [spec_l04Tight.l3])
        | succ k3 =>
         have H := HA.out
         clear HA
         simp only [spec_l04Tight.l3] at H
         by_cases c46 : x12_3 < s0_0
         ·rw [if_pos c46] at H
          have c46b0 : decide (x12_3 < s0_0) = true := decide_eq_true c46
          clear c46
          have H' := Aside0.mk H
          clear H
          obtain ⟨ASz47_1, cSz47_1, HGz47, hgz47, HSz47_1⟩ := HI0.out
          have hcz47_0 := cellS29_0 HGz47
          have hcz47_1 := cellS29_1 HGz47
          have hfz47_0 := blk_frozen HGz47 0
          clear HGz47 hgz47
          go_wp2
          go_loopg [13] k3 (fun kq v13 w' => ∃ (x6_4 : List (List Int)) (x13_4 : Int), v13 = .int .i64 x13_4 ∧ Aside0 (spec_l04Tight.l4 kq x6_4 x12_3 x13_4 s0_0 s0_1 = some (r1, r2, r3)) ∧ Aside0 (kq ≤ k3) ∧ Aside0 (Kd.S (Kd.slice 2 (Kd.int .i64)) 33 w' w.heap.size (fun _ => True) u6 x6_4) ∧ Aside0 (IsS29 w0 w' g s0_0 s0_1) ∧ Aside0 (KeepBut w w' g none) ∧ Aside0 (Below w0.heap.size w0 w'))
          case atStart => exact ⟨(x6_3), (0), (by first | rfl | (simp; done) | (simp [*]; done)), H', ⟨Nat.le_refl _⟩, ⟨by (with_reducible repeat (first | apply Kd.S_alloc | apply Kd.S_drewN | apply Kd.S_drew)); exact HO_6.out⟩, ⟨by repeat (first | (with_reducible first | exact HI0.out | apply IsS29.alloc | apply IsS29.drewN | apply IsS29.drew | apply IsS29.set_0) | exact HI0.out)⟩, ⟨by repeat (first | (with_reducible first | exact HK.out | apply KeepBut.set_ | apply keep_drewN | apply keep_drew | apply keep_alloc) | exact HK.out)⟩, ⟨by repeat (first | (with_reducible first | exact HB.out | apply below_alloc | apply pw_below_drewN | apply below_drew1 | refine below_set ?_ (IsS29.ge HI0.out)) | exact HB.out)⟩⟩
          case round =>
           clear H'
           try clear c1
           try clear c2
           try clear p2
           try clear q2
           try clear hx2
           try clear c3
           try clear p3
           try clear q3
           try clear hx3
           try clear hf3
           try clear c4
           try clear q4
           try clear c5
           try clear c5b0
           try clear c6
           try clear p6
           try clear c7
           try clear c9
           try clear c9b0
           try clear c10
           try clear c10b0
           try clear c10b1
           try clear c11
           try clear c14
           try clear c17
           try clear c22
           try clear c22b0
           try clear c23
           try clear c23b0
           try clear c25
           try clear c28
           try clear p28
           try clear q28
           try clear hx28
           try clear c30
           try clear c30b0
           try clear c31
           try clear c31b0
           try clear c32
           try clear c32b0
           try clear c33
           try clear c33b0
           try clear p35
           try clear q35
           try clear hx35
           try clear hf35
           try clear c38
           try clear c43
           try clear q43
           try clear c46
           try clear c46b0
           try clear hcz12_0
           try clear hcz12_1
           try clear hcz15_0
           try clear hcz15_1
           try clear hcz18_0
           try clear hcz18_1
           try clear hcz21_0
           try clear hcz21_1
           try clear hcz26_0
           try clear hcz26_1
           try clear hcz29_0
           try clear hcz29_1
           try clear hcz29_2
           try clear hcz36_0
           try clear hcz36_1
           try clear hcz39_0
           try clear hcz39_1
           try clear hcz39_2
           try clear hcz45_0
           try clear hcz45_1
           try clear hcz47_0
           try clear hcz47_1
           try clear hcz6_0
           try clear hcz6_1
           try clear hfz12_0
           try clear hfz15_0
           try clear hfz18_0
           try clear hfz21_0
           try clear hfz26_0
           try clear hfz29_0
           try clear hfz29_1
           try clear hfz29_2
           try clear hfz36_0
           try clear hfz39_0
           try clear hfz39_1
           try clear hfz39_2
           try clear hfz45_0
           try clear hfz47_0
           try clear hfz6_0
           try clear hx284_0
           try clear hx284_1
           try clear hx284_2
           try clear hx287_0
           try clear hx288_0
           try clear hx289_0
           try clear hx35_0
           try clear p2
           try clear p28
           try clear p284
           try clear p287
           try clear p288
           try clear p289
           try clear p3
           try clear p35
           try clear p6
           try clear q2
           try clear q28
           try clear q284
           try clear q287
           try clear q288
           try clear q289
           try clear q3
           try clear q35
           try clear q4
           try clear q43
           obtain ⟨x6_4, x13_4, rfl, HA, HK4, HO_6, HI0, HK, HB⟩ := hrel
           cases gk with
           | zero => exact absurd HA.out (by simp [spec_l04Tight.l4])
           | succ k4 =>
            have H := HA.out
            clear HA
            simp only [spec_l04Tight.l4] at H
            by_cases c48 : x13_4 < s0_0
            ·rw [if_pos c48] at H
             have c48b0 : decide (x13_4 < s0_0) = true := decide_eq_true c48
             clear c48
             have H' := Aside0.mk H
             clear H
             obtain ⟨ASz49_1, cSz49_1, HGz49, hgz49, HSz49_1⟩ := HI0.out
             have hcz49_0 := cellS29_0 HGz49
             have hcz49_1 := cellS29_1 HGz49
             have hfz49_0 := blk_frozen HGz49 0
             clear HGz49 hgz49
             go_wp2
             go_loopg [14] k4 (fun kq v14 w' => ∃ (x6_5 : List (List Int)) (x14_5 : Int), v14 = .int .i64 x14_5 ∧ Aside0 (spec_l04Tight.l5 kq x6_5 x12_3 x13_4 x14_5 s0_0 s0_1 = some (r1, r2, r3)) ∧ Aside0 (kq ≤ k4) ∧ Aside0 (Kd.S (Kd.slice 2 (Kd.int .i64)) 33 w' w.heap.size (fun _ => True) u6 x6_5) ∧ Aside0 (IsS29 w0 w' g s0_0 s0_1) ∧ Aside0 (KeepBut w w' g none) ∧ Aside0 (Below w0.heap.size w0 w'))
             case atStart => exact ⟨(x6_4), (0), (by first | rfl | (simp; done) | (simp [*]; done)), H', ⟨Nat.le_refl _⟩, ⟨by (with_reducible repeat (first | apply Kd.S_alloc | apply Kd.S_drewN | apply Kd.S_drew)); exact HO_6.out⟩, ⟨by repeat (first | (with_reducible first | exact HI0.out | apply IsS29.alloc | apply IsS29.drewN | apply IsS29.drew | apply IsS29.set_0) | exact HI0.out)⟩, ⟨by repeat (first | (with_reducible first | exact HK.out | apply KeepBut.set_ | apply keep_drewN | apply keep_drew | apply keep_alloc) | exact HK.out)⟩, ⟨by repeat (first | (with_reducible first | exact HB.out | apply below_alloc | apply pw_below_drewN | apply below_drew1 | refine below_set ?_ (IsS29.ge HI0.out)) | exact HB.out)⟩⟩
             case round =>
              clear H'
              try clear c1
              try clear c2
              try clear p2
              try clear q2
              try clear hx2
              try clear c3
              try clear p3
              try clear q3
              try clear hx3
              try clear hf3
              try clear c4
              try clear q4
              try clear c5
              try clear c5b0
              try clear c6
              try clear p6
              try clear c7
              try clear c9
              try clear c9b0
              try clear c10
              try clear c10b0
              try clear c10b1
              try clear c11
              try clear c14
              try clear c17
              try clear c22
              try clear c22b0
              try clear c23
              try clear c23b0
              try clear c25
              try clear c28
              try clear p28
              try clear q28
              try clear hx28
              try clear c30
              try clear c30b0
              try clear c31
              try clear c31b0
              try clear c32
              try clear c32b0
              try clear c33
              try clear c33b0
              try clear p35
              try clear q35
              try clear hx35
              try clear hf35
              try clear c38
              try clear c43
              try clear q43
              try clear c46
              try clear c46b0
              try clear c48
              try clear c48b0
              try clear hcz12_0
              try clear hcz12_1
              try clear hcz15_0
              try clear hcz15_1
              try clear hcz18_0
              try clear hcz18_1
              try clear hcz21_0
              try clear hcz21_1
              try clear hcz26_0
              try clear hcz26_1
              try clear hcz29_0
              try clear hcz29_1
              try clear hcz29_2
              try clear hcz36_0
              try clear hcz36_1
              try clear hcz39_0
              try clear hcz39_1
              try clear hcz39_2
              try clear hcz45_0
              try clear hcz45_1
              try clear hcz47_0
              try clear hcz47_1
              try clear hcz49_0
              try clear hcz49_1
              try clear hcz6_0
              try clear hcz6_1
              try clear hfz12_0
              try clear hfz15_0
              try clear hfz18_0
              try clear hfz21_0
              try clear hfz26_0
              try clear hfz29_0
              try clear hfz29_1
              try clear hfz29_2
              try clear hfz36_0
              try clear hfz39_0
              try clear hfz39_1
              try clear hfz39_2
              try clear hfz45_0
              try clear hfz47_0
              try clear hfz49_0
              try clear hfz6_0
              try clear hx284_0
              try clear hx284_1
              try clear hx284_2
              try clear hx287_0
              try clear hx288_0
              try clear hx289_0
              try clear hx35_0
              try clear p2
              try clear p28
              try clear p284
              try clear p287
              try clear p288
              try clear p289
              try clear p3
              try clear p35
              try clear p6
              try clear q2
              try clear q28
              try clear q284
              try clear q287
              try clear q288
              try clear q289
              try clear q3
              try clear q35
              try clear q4
              try clear q43
              obtain ⟨x6_5, x14_5, rfl, HA, HK5, HO_6, HI0, HK, HB⟩ := hrel
              cases gk with
              | zero => exact absurd HA.out (by simp [spec_l04Tight.l5])
              | succ k5 =>
               have H := HA.out
               clear HA
               simp only [spec_l04Tight.l5] at H
               by_cases c50 : x14_5 < s0_0
               ·rw [if_pos c50] at H
                have c50b0 : decide (x14_5 < s0_0) = true := decide_eq_true c50
                clear c50
                by_cases c51 : 0 ≤ x13_4
                ·rw [if_pos c51] at H
                 have c51b0 : decide (0 ≤ x13_4) = true := decide_eq_true c51
                 clear c51
                 by_cases c52 : x13_4 < (x6_5.length : Int)
                 ·rw [if_pos c52] at H
                  have c52b0 : decide (x13_4 < (x6_5.length : Int)) = true := decide_eq_true c52
                  clear c52
                  by_cases c53 : 0 ≤ x12_3
                  ·rw [if_pos c53] at H
                   have c53b0 : decide (0 ≤ x12_3) = true := decide_eq_true c53
                   clear c53
                   by_cases c54 : x12_3 < ((rd_L8 x6_5 x13_4).length : Int)
                   ·rw [if_pos c54] at H
                    have c54b0 : decide (x12_3 < ((rd_L8 x6_5 x13_4).length : Int)) = true := decide_eq_true c54
                    clear c54
                    by_cases c55 : (rd (rd_L8 x6_5 x13_4) x12_3) < 1000000
                    ·rw [if_pos c55] at H
                     have c55b0 : decide ((rd (rd_L8 x6_5 x13_4) x12_3) < 1000000) = true := decide_eq_true c55
                     clear c55
                     by_cases c56 : x12_3 < (x6_5.length : Int)
                     ·rw [if_pos c56] at H
                      have c56b0 : decide (x12_3 < (x6_5.length : Int)) = true := decide_eq_true c56
                      clear c56
                      by_cases c57 : 0 ≤ x14_5
                      ·rw [if_pos c57] at H
                       have c57b0 : decide (0 ≤ x14_5) = true := decide_eq_true c57
                       clear c57
                       by_cases c58 : x14_5 < ((rd_L8 x6_5 x12_3).length : Int)
                       ·rw [if_pos c58] at H
                        have c58b0 : decide (x14_5 < ((rd_L8 x6_5 x12_3).length : Int)) = true := decide_eq_true c58
                        clear c58
                        by_cases c59 : (rd (rd_L8 x6_5 x12_3) x14_5) < 1000000
                        ·rw [if_pos c59] at H
                         have c59b0 : decide ((rd (rd_L8 x6_5 x12_3) x14_5) < 1000000) = true := decide_eq_true c59
                         clear c59
                         by_cases c60 : x14_5 < ((rd_L8 x6_5 x13_4).length : Int)
                         ·rw [if_pos c60] at H
                          have c60b0 : decide (x14_5 < ((rd_L8 x6_5 x13_4).length : Int)) = true := decide_eq_true c60
                          clear c60
                          replace H := Option.bind_eq_some_iff.mp H
                          obtain ⟨t305, A610, H⟩ := H
                          replace H : (spec_l04Tight.l5 k5 (x6_5.set (x13_4 : Int).toNat ((rd_L8 x6_5 x13_4).set (x14_5 : Int).toNat t305)) x12_3 x13_4 (wrap64 (x14_5 + 1)) s0_0 s0_1) = some (r1, r2, r3) := H
                          have A61 := Aside0.mk A610
                          clear A610
                          obtain ⟨y306, hy306⟩ : ∃ y_ : List Int, y_ = ((rd_L8 x6_5 x13_4).set (x14_5 : Int).toNat t305) := ⟨_, rfl⟩
                          replace H : (spec_l04Tight.l5 k5 (x6_5.set (x13_4 : Int).toNat y306) x12_3 x13_4 (wrap64 (x14_5 + 1)) s0_0 s0_1) = some (r1, r2, r3) := by first | (rw [hy306]; with_reducible exact H) | (have H2_ := (Option.bind_some _ _).symm.trans H; rw [hy306]; with_reducible exact H2_) | (have H2_ := (Option.bind_some _ _).symm.trans H; with_reducible exact H2_) | with_reducible exact H | (rw [hy306]; exact H) | exact H
                          have Ny306 := Aside0.mk hy306
                          clear hy306
                          obtain ⟨y308, hy308⟩ : ∃ y_ : List (List Int), y_ = (x6_5.set (x13_4 : Int).toNat y306) := ⟨_, rfl⟩
                          replace H : (spec_l04Tight.l5 k5 y308 x12_3 x13_4 (wrap64 (x14_5 + 1)) s0_0 s0_1) = some (r1, r2, r3) := by first | (rw [hy308]; with_reducible exact H) | (have H2_ := (Option.bind_some _ _).symm.trans H; rw [hy308]; with_reducible exact H2_) | (have H2_ := (Option.bind_some _ _).symm.trans H; with_reducible exact H2_) | with_reducible exact H | (rw [hy308]; exact H) | exact H
                          have Ny308 := Aside0.mk hy308
                          clear hy308
                          have H' := Aside0.mk H
                          clear H
                          obtain ⟨ASz63_1, cSz63_1, HGz63, hgz63, HSz63_1⟩ := HI0.out
                          have hcz63_0 := cellS29_0 HGz63
                          have hcz63_1 := cellS29_1 HGz63
                          have hfz63_0 := blk_frozen HGz63 0
                          clear HGz63 hgz63
                          obtain ⟨Ao64, co64, eo64⟩ := Kd.S_slice HO_6.out
                          subst eo64
                          have p294 : 0 ≤ (x13_4 : Int) := of_decide_eq_true (by with_reducible assumption)
                          have q294 : x13_4 < (x6_5.length : Int) := of_decide_eq_true (by with_reducible assumption)
                          obtain ⟨ad294, A294_0, c294_0, e294, hx294_0, hl294_0, hi294_0⟩ := at_L8 (Kd.S_reads' HO_6.out).2.2 x13_4 p294 q294
                          cases e294
                          obtain ⟨ce294, hce294, hMe294, hcc294⟩ := Kd.S_get HO_6.out [] x13_4 p294 (by first | exact q294 | exact of_decide_eq_true (by with_reducible assumption) | (have e_ := (Kd.S_reads' HO_6.out).1; omega))
                          obtain ⟨ve294_0, rfl, ge294_0⟩ := hMe294
                          have hv294_0 := hcc294 0 _ rfl
                          rw [Nat.add_zero, show ((Kd.slice 2 (Kd.int .i64))).sz = 1 from rfl, Nat.mul_one] at hv294_0
                          replace hv294_0 := Option.some.inj (hv294_0.symm.trans hx294_0)
                          rw [hv294_0] at ge294_0
                          have HL294_0 := Aside0.mk (show Kd.R (Kd.int .i64) 2 _ _ _ _ (rd_L8 x6_5 x13_4) from ge294_0)
                          clear hv294_0 ge294_0
                          have HX294_0 := Aside0.mk hx294_0
                          clear hcc294 hce294
                          have HR294_0 := Aside0.mk hi294_0
                          have HC294_0 := Aside0.mk hl294_0
                          clear hi294_0 hl294_0
                          replace p294 := eq_true p294
                          replace q294 := eq_true q294
                          have p295 : 0 ≤ (x12_3 : Int) := of_decide_eq_true (by with_reducible assumption)
                          have q295 : x12_3 < ((rd_L8 x6_5 x13_4).length : Int) := of_decide_eq_true (by with_reducible assumption)
                          obtain ⟨ad295, e295, hx295_0⟩ := Kd.at_int (by repeat (first | (with_reducible exact HR294_0.out) | (with_reducible refine Kd.C_alloc ?_ _) | (with_reducible refine Kd.C_drewN ?_ _) | (with_reducible refine Kd.C_drew ?_) | exact HR294_0.out)) x12_3 p295 q295
                          cases e295
                          replace p295 := eq_true p295
                          replace q295 := eq_true q295
                          have p296 : 0 ≤ (x12_3 : Int) := of_decide_eq_true (by with_reducible assumption)
                          have q296 : x12_3 < (x6_5.length : Int) := of_decide_eq_true (by with_reducible assumption)
                          obtain ⟨ad296, A296_0, c296_0, e296, hx296_0, hl296_0, hi296_0⟩ := at_L8 (Kd.S_reads' HO_6.out).2.2 x12_3 p296 q296
                          obtain rfl : ad294 = ad296 := (by injection e296)
                          obtain ⟨ce296, hce296, hMe296, hcc296⟩ := Kd.S_get HO_6.out [] x12_3 p296 (by first | exact q296 | exact of_decide_eq_true (by with_reducible assumption) | (have e_ := (Kd.S_reads' HO_6.out).1; omega))
                          obtain ⟨ve296_0, rfl, ge296_0⟩ := hMe296
                          have hv296_0 := hcc296 0 _ rfl
                          rw [Nat.add_zero, show ((Kd.slice 2 (Kd.int .i64))).sz = 1 from rfl, Nat.mul_one] at hv296_0
                          replace hv296_0 := Option.some.inj (hv296_0.symm.trans hx296_0)
                          rw [hv296_0] at ge296_0
                          have HL296_0 := Aside0.mk (show Kd.R (Kd.int .i64) 2 _ _ _ _ (rd_L8 x6_5 x12_3) from ge296_0)
                          clear hv296_0 ge296_0
                          have HX296_0 := Aside0.mk hx296_0
                          clear hcc296 hce296
                          have HR296_0 := Aside0.mk hi296_0
                          have HC296_0 := Aside0.mk hl296_0
                          clear hi296_0 hl296_0
                          replace p296 := eq_true p296
                          replace q296 := eq_true q296
                          have p297 : 0 ≤ (x14_5 : Int) := of_decide_eq_true (by with_reducible assumption)
                          have q297 : x14_5 < ((rd_L8 x6_5 x12_3).length : Int) := of_decide_eq_true (by with_reducible assumption)
                          obtain ⟨ad297, e297, hx297_0⟩ := Kd.at_int (by repeat (first | (with_reducible exact HR296_0.out) | (with_reducible refine Kd.C_alloc ?_ _) | (with_reducible refine Kd.C_drewN ?_ _) | (with_reducible refine Kd.C_drew ?_) | exact HR296_0.out)) x14_5 p297 q297
                          cases e297
                          replace p297 := eq_true p297
                          replace q297 := eq_true q297
                          try go_wp2
                          have n0_ := Aside0.mk (Kd.S_drew HO_6.out)
                          have n1_ := Aside0.mk (Kd.R_drew HL294_0.out)
                          have n2_ := Aside0.mk (Kd.R_drew HL296_0.out)
                          have n3_ := Aside0.mk (Kd.C_drew HR294_0.out)
                          have n4_ := Aside0.mk (Kd.C_drew HR296_0.out)
                          have n5_ := Aside0.mk (IsS29.drew HI0.out)
                          have n6_ := Aside0.mk (keep_drew HK.out)
                          have n7_ := Aside0.mk (below_drew1 HB.out)
                          clear HO_6
                          clear HL294_0
                          clear HL296_0
                          clear HR294_0
                          clear HR296_0
                          clear HI0
                          clear HK
                          clear HB
                          have HO_6 := n0_
                          have HL294_0 := n1_
                          have HL296_0 := n2_
                          have HR294_0 := n3_
                          have HR296_0 := n4_
                          have HI0 := n5_
                          have HK := n6_
                          have HB := n7_
                          clear n0_ n1_ n2_ n3_ n4_ n5_ n6_ n7_
                          have p298 : 0 ≤ (x13_4 : Int) := of_decide_eq_true (by with_reducible assumption)
                          have q298 : x13_4 < (x6_5.length : Int) := of_decide_eq_true (by with_reducible assumption)
                          obtain ⟨ad298, A298_0, c298_0, e298, hx298_0, hl298_0, hi298_0⟩ := at_L8 (Kd.S_reads' HO_6.out).2.2 x13_4 p298 q298
                          obtain rfl : ad294 = ad298 := (by injection e298)
                          obtain ⟨ce298, hce298, hMe298, hcc298⟩ := Kd.S_get HO_6.out [] x13_4 p298 (by first | exact q298 | exact of_decide_eq_true (by with_reducible assumption) | (have e_ := (Kd.S_reads' HO_6.out).1; omega))
                          obtain ⟨ve298_0, rfl, ge298_0⟩ := hMe298
                          have hv298_0 := hcc298 0 _ rfl
                          rw [Nat.add_zero, show ((Kd.slice 2 (Kd.int .i64))).sz = 1 from rfl, Nat.mul_one] at hv298_0
                          replace hv298_0 := Option.some.inj (hv298_0.symm.trans hx298_0)
                          rw [hv298_0] at ge298_0
                          have HL298_0 := Aside0.mk (show Kd.R (Kd.int .i64) 2 _ _ _ _ (rd_L8 x6_5 x13_4) from ge298_0)
                          clear hv298_0 ge298_0
                          have HX298_0 := Aside0.mk hx298_0
                          clear hcc298 hce298
                          have HR298_0 := Aside0.mk hi298_0
                          have HC298_0 := Aside0.mk hl298_0
                          clear hi298_0 hl298_0
                          replace p298 := eq_true p298
                          replace q298 := eq_true q298
                          have p299 : 0 ≤ (x13_4 : Int) := of_decide_eq_true (by with_reducible assumption)
                          have q299 : x13_4 < (x6_5.length : Int) := of_decide_eq_true (by with_reducible assumption)
                          obtain ⟨ad299, A299_0, c299_0, e299, hx299_0, hl299_0, hi299_0⟩ := at_L8 (Kd.S_reads' HO_6.out).2.2 x13_4 p299 q299
                          obtain rfl : ad294 = ad299 := (by injection e299)
                          obtain ⟨ce299, hce299, hMe299, hcc299⟩ := Kd.S_get HO_6.out [] x13_4 p299 (by first | exact q299 | exact of_decide_eq_true (by with_reducible assumption) | (have e_ := (Kd.S_reads' HO_6.out).1; omega))
                          obtain ⟨ve299_0, rfl, ge299_0⟩ := hMe299
                          have hv299_0 := hcc299 0 _ rfl
                          rw [Nat.add_zero, show ((Kd.slice 2 (Kd.int .i64))).sz = 1 from rfl, Nat.mul_one] at hv299_0
                          replace hv299_0 := Option.some.inj (hv299_0.symm.trans hx299_0)
                          rw [hv299_0] at ge299_0
                          have HL299_0 := Aside0.mk (show Kd.R (Kd.int .i64) 2 _ _ _ _ (rd_L8 x6_5 x13_4) from ge299_0)
                          clear hv299_0 ge299_0
                          have HX299_0 := Aside0.mk hx299_0
                          clear hcc299 hce299
                          have HR299_0 := Aside0.mk hi299_0
                          have HC299_0 := Aside0.mk hl299_0
                          clear hi299_0 hl299_0
                          replace p299 := eq_true p299
                          replace q299 := eq_true q299
                          have ea_ := Option.some.inj (hx298_0.symm.trans hx299_0)
                          injection ea_ with ea_ en_ ec_
                          subst ea_
                          subst ec_
                          clear en_
                          have p300 : 0 ≤ (x14_5 : Int) := of_decide_eq_true (by with_reducible assumption)
                          have q300 : x14_5 < ((rd_L8 x6_5 x13_4).length : Int) := of_decide_eq_true (by with_reducible assumption)
                          obtain ⟨ad300, e300, hx300_0⟩ := Kd.at_int (by repeat (first | (with_reducible exact HR299_0.out) | (with_reducible refine Kd.C_alloc ?_ _) | (with_reducible refine Kd.C_drewN ?_ _) | (with_reducible refine Kd.C_drew ?_) | exact HR299_0.out)) x14_5 p300 q300
                          cases e300
                          replace p300 := eq_true p300
                          replace q300 := eq_true q300
                          have p301 : 0 ≤ (x13_4 : Int) := of_decide_eq_true (by with_reducible assumption)
                          have q301 : x13_4 < (x6_5.length : Int) := of_decide_eq_true (by with_reducible assumption)
                          obtain ⟨ad301, A301_0, c301_0, e301, hx301_0, hl301_0, hi301_0⟩ := at_L8 (Kd.S_reads' HO_6.out).2.2 x13_4 p301 q301
                          obtain rfl : ad294 = ad301 := (by injection e301)
                          obtain ⟨ce301, hce301, hMe301, hcc301⟩ := Kd.S_get HO_6.out [] x13_4 p301 (by first | exact q301 | exact of_decide_eq_true (by with_reducible assumption) | (have e_ := (Kd.S_reads' HO_6.out).1; omega))
                          obtain ⟨ve301_0, rfl, ge301_0⟩ := hMe301
                          have hv301_0 := hcc301 0 _ rfl
                          rw [Nat.add_zero, show ((Kd.slice 2 (Kd.int .i64))).sz = 1 from rfl, Nat.mul_one] at hv301_0
                          replace hv301_0 := Option.some.inj (hv301_0.symm.trans hx301_0)
                          rw [hv301_0] at ge301_0
                          have HL301_0 := Aside0.mk (show Kd.R (Kd.int .i64) 2 _ _ _ _ (rd_L8 x6_5 x13_4) from ge301_0)
                          clear hv301_0 ge301_0
                          have HX301_0 := Aside0.mk hx301_0
                          clear hcc301 hce301
                          have HR301_0 := Aside0.mk hi301_0
                          have HC301_0 := Aside0.mk hl301_0
                          clear hi301_0 hl301_0
                          replace p301 := eq_true p301
                          replace q301 := eq_true q301
                          have ea_ := Option.some.inj (hx298_0.symm.trans hx301_0)
                          injection ea_ with ea_ en_ ec_
                          subst ea_
                          subst ec_
                          clear en_
                          have p302 : 0 ≤ (x12_3 : Int) := of_decide_eq_true (by with_reducible assumption)
                          have q302 : x12_3 < ((rd_L8 x6_5 x13_4).length : Int) := of_decide_eq_true (by with_reducible assumption)
                          obtain ⟨ad302, e302, hx302_0⟩ := Kd.at_int (by repeat (first | (with_reducible exact HR301_0.out) | (with_reducible refine Kd.C_alloc ?_ _) | (with_reducible refine Kd.C_drewN ?_ _) | (with_reducible refine Kd.C_drew ?_) | exact HR301_0.out)) x12_3 p302 q302
                          cases e302
                          replace p302 := eq_true p302
                          replace q302 := eq_true q302
                          have p303 : 0 ≤ (x12_3 : Int) := of_decide_eq_true (by with_reducible assumption)
                          have q303 : x12_3 < (x6_5.length : Int) := of_decide_eq_true (by with_reducible assumption)
                          obtain ⟨ad303, A303_0, c303_0, e303, hx303_0, hl303_0, hi303_0⟩ := at_L8 (Kd.S_reads' HO_6.out).2.2 x12_3 p303 q303
                          obtain rfl : ad294 = ad303 := (by injection e303)
                          obtain ⟨ce303, hce303, hMe303, hcc303⟩ := Kd.S_get HO_6.out [] x12_3 p303 (by first | exact q303 | exact of_decide_eq_true (by with_reducible assumption) | (have e_ := (Kd.S_reads' HO_6.out).1; omega))
                          obtain ⟨ve303_0, rfl, ge303_0⟩ := hMe303
                          have hv303_0 := hcc303 0 _ rfl
                          rw [Nat.add_zero, show ((Kd.slice 2 (Kd.int .i64))).sz = 1 from rfl, Nat.mul_one] at hv303_0
                          replace hv303_0 := Option.some.inj (hv303_0.symm.trans hx303_0)
                          rw [hv303_0] at ge303_0
                          have HL303_0 := Aside0.mk (show Kd.R (Kd.int .i64) 2 _ _ _ _ (rd_L8 x6_5 x12_3) from ge303_0)
                          clear hv303_0 ge303_0
                          have HX303_0 := Aside0.mk hx303_0
                          clear hcc303 hce303
                          have HR303_0 := Aside0.mk hi303_0
                          have HC303_0 := Aside0.mk hl303_0
                          clear hi303_0 hl303_0
                          replace p303 := eq_true p303
                          replace q303 := eq_true q303
                          have p304 : 0 ≤ (x14_5 : Int) := of_decide_eq_true (by with_reducible assumption)
                          have q304 : x14_5 < ((rd_L8 x6_5 x12_3).length : Int) := of_decide_eq_true (by with_reducible assumption)
                          obtain ⟨ad304, e304, hx304_0⟩ := Kd.at_int (by repeat (first | (with_reducible exact HR303_0.out) | (with_reducible refine Kd.C_alloc ?_ _) | (with_reducible refine Kd.C_drewN ?_ _) | (with_reducible refine Kd.C_drew ?_) | exact HR303_0.out)) x14_5 p304 q304
                          cases e304
                          replace p304 := eq_true p304
                          replace q304 := eq_true q304
                          refine start_ (n := 30) (S := fun w' => w'.cell? (ad294.add (x13_4).toNat) = some (.slice (some ad300) (rd_L8 x6_5 x13_4).length c298_0) ∧ w'.cell? (ad294.add (x13_4).toNat) = some (.slice (some ad300) (rd_L8 x6_5 x13_4).length c298_0) ∧ w'.cell? (ad300.add (x14_5).toNat) = some (.int .i64 (rd (rd_L8 x6_5 x13_4) x14_5)) ∧ w'.cell? (ad294.add (x13_4).toNat) = some (.slice (some ad300) (rd_L8 x6_5 x13_4).length c298_0) ∧ w'.cell? (ad300.add (x12_3).toNat) = some (.int .i64 (rd (rd_L8 x6_5 x13_4) x12_3)) ∧ w'.cell? (ad294.add (x12_3).toNat) = some (.slice (some ad304) (rd_L8 x6_5 x12_3).length c303_0) ∧ w'.cell? (ad304.add (x14_5).toNat) = some (.int .i64 (rd (rd_L8 x6_5 x12_3) x14_5))) (ds := [29]) #[false, false, false, false, false, false, false, false, false, false, false, false, false, false, false, false, false, false, false, false, false, false, false, false, false, false, false, false, false, false] (by kernel_rfl) rfl rfl ⟨hx298_0, hx299_0, hx300_0, hx301_0, hx302_0, hx303_0, hx304_0⟩ (fun hHeld => ?_); refine with_tabW spec_l04Tight.tab29 spec_l04Tight.bits29 (fun HT_ HW_ => ?_)
                          generalize wr.drew = w65 at HO_6 HL294_0 HL296_0 HR294_0 HR296_0 HI0 HK HB HL298_0 HL299_0 HL301_0 HL303_0 HR298_0 HR299_0 HR301_0 HR303_0 HX298_0 HX299_0 HX301_0 HX303_0 hx298_0 hx299_0 hx300_0 hx301_0 hx302_0 hx303_0 hx304_0 hHeld ⊢
                          refine pure_ (i := 0) (N := some 129) (v := ?_) (a' := ?_) #[true, false, false, false, false, false, false, false, false, false, false, false, false, false, false, false, false, false, false, false, false, false, false, false, false, false, false, false, false, false] rfl rfl (any_of HT_.out (by kernel_rfl)) (fun _ _ _ h => h) (Or.inl ⟨by rfl, ?_⟩) ?_ ?_
                          rotate_left
                          ·intro w'
                           go_simp
                           with_reducible rfl
                          rotate_left
                          ·simp only [Act.put, List.setIfInBounds_toArray, List.set_cons_zero, List.set_cons_succ, i64_w, i32_w]
                           rfl
                          refine pure_ (i := 1) (N := some 130) (v := ?_) (a' := ?_) #[true, true, false, false, false, false, false, false, false, false, false, false, false, false, false, false, false, false, false, false, false, false, false, false, false, false, false, false, false, false] rfl rfl (any_of HT_.out (by kernel_rfl)) (fun _ _ _ h => h) (Or.inl ⟨by rfl, ?_⟩) ?_ ?_
                          rotate_left
                          ·intro w'
                           go_simp
                           with_reducible rfl
                          rotate_left
                          ·simp only [Act.put, List.setIfInBounds_toArray, List.set_cons_zero, List.set_cons_succ, i64_w, i32_w]
                           rfl
                          refine pure_ (i := 2) (N := some 131) (v := ?_) (a' := ?_) #[true, true, true, false, false, false, false, false, false, false, false, false, false, false, false, false, false, false, false, false, false, false, false, false, false, false, false, false, false, false] rfl rfl (any_of HT_.out (by kernel_rfl)) (fun _ _ _ h => h) (Or.inl ⟨by rfl, ?_⟩) ?_ ?_
                          rotate_left
                          ·intro w'
                           go_simp
                           with_reducible rfl
                          rotate_left
                          ·simp only [Act.put, List.setIfInBounds_toArray, List.set_cons_zero, List.set_cons_succ, i64_w, i32_w]
                           rfl
                          refine pure_ (i := 4) (N := some 133) (v := ?_) (a' := ?_) #[true, true, true, false, true, false, false, false, false, false, false, false, false, false, false, false, false, false, false, false, false, false, false, false, false, false, false, false, false, false] rfl rfl (any_of HT_.out (by kernel_rfl)) (fun _ _ _ h => h) (Or.inl ⟨by rfl, ?_⟩) ?_ ?_
                          rotate_left
                          ·intro w'
                           go_simp
                           with_reducible rfl
                          rotate_left
                          ·simp only [Act.put, List.setIfInBounds_toArray, List.set_cons_zero, List.set_cons_succ, i64_w, i32_w]
                           rfl
                          refine pure_ (i := 5) (N := some 134) (v := ?_) (a' := ?_) #[true, true, true, false, true, true, false, false, false, false, false, false, false, false, false, false, false, false, false, false, false, false, false, false, false, false, false, false, false, false] rfl rfl (any_of HT_.out (by kernel_rfl)) (fun _ _ _ h => h) (Or.inl ⟨by rfl, ?_⟩) ?_ ?_
                          rotate_left
                          ·intro w'
                           go_simp
                           with_reducible rfl
                          rotate_left
                          ·simp only [Act.put, List.setIfInBounds_toArray, List.set_cons_zero, List.set_cons_succ, i64_w, i32_w]
                           rfl
                          refine pure_ (i := 6) (N := some 135) (v := ?_) (a' := ?_) #[true, true, true, false, true, true, true, false, false, false, false, false, false, false, false, false, false, false, false, false, false, false, false, false, false, false, false, false, false, false] rfl rfl (any_of HT_.out (by kernel_rfl)) (fun _ _ _ h => h) (Or.inl ⟨by rfl, ?_⟩) ?_ ?_
                          rotate_left
                          ·intro w'
                           go_simp
                           with_reducible rfl
                          rotate_left
                          ·simp only [Act.put, List.setIfInBounds_toArray, List.set_cons_zero, List.set_cons_succ, i64_w, i32_w]
                           rfl
                          refine pure_ (i := 7) (N := some 136) (v := ?_) (a' := ?_) #[true, true, true, false, true, true, true, true, false, false, false, false, false, false, false, false, false, false, false, false, false, false, false, false, false, false, false, false, false, false] rfl rfl (any_of HT_.out (by kernel_rfl)) (fun _ _ _ h => h) (Or.inl ⟨by rfl, ?_⟩) ?_ ?_
                          rotate_left
                          ·intro w'
                           go_simp
                           with_reducible rfl
                          rotate_left
                          ·simp only [Act.put, List.setIfInBounds_toArray, List.set_cons_zero, List.set_cons_succ, i64_w, i32_w]
                           rfl
                          refine pure_ (i := 9) (N := some 138) (v := ?_) (a' := ?_) #[true, true, true, false, true, true, true, true, false, true, false, false, false, false, false, false, false, false, false, false, false, false, false, false, false, false, false, false, false, false] rfl rfl (any_of HT_.out (by kernel_rfl)) (fun _ _ _ h => h) (Or.inl ⟨by rfl, ?_⟩) ?_ ?_
                          rotate_left
                          ·intro w'
                           go_simp
                           with_reducible rfl
                          rotate_left
                          ·simp only [Act.put, List.setIfInBounds_toArray, List.set_cons_zero, List.set_cons_succ, i64_w, i32_w]
                           rfl
                          refine pure_ (i := 12) (N := some 141) (v := ?_) (a' := ?_) #[true, true, true, false, true, true, true, true, false, true, false, false, true, false, false, false, false, false, false, false, false, false, false, false, false, false, false, false, false, false] rfl rfl (any_of HT_.out (by kernel_rfl)) (fun _ _ _ h => h) (Or.inl ⟨by rfl, ?_⟩) ?_ ?_
                          rotate_left
                          ·intro w'
                           go_simp
                           with_reducible rfl
                          rotate_left
                          ·simp only [Act.put, List.setIfInBounds_toArray, List.set_cons_zero, List.set_cons_succ, i64_w, i32_w]
                           rfl
                          refine pure_ (i := 13) (N := some 142) (v := ?_) (a' := ?_) #[true, true, true, false, true, true, true, true, false, true, false, false, true, true, false, false, false, false, false, false, false, false, false, false, false, false, false, false, false, false] rfl rfl (any_of HT_.out (by kernel_rfl)) (fun _ _ _ h => h) (Or.inl ⟨by rfl, ?_⟩) ?_ ?_
                          rotate_left
                          ·intro w'
                           go_simp
                           with_reducible rfl
                          rotate_left
                          ·simp only [Act.put, List.setIfInBounds_toArray, List.set_cons_zero, List.set_cons_succ, i64_w, i32_w]
                           rfl
                          refine pure_ (i := 14) (N := some 143) (v := ?_) (a' := ?_) #[true, true, true, false, true, true, true, true, false, true, false, false, true, true, true, false, false, false, false, false, false, false, false, false, false, false, false, false, false, false] rfl rfl (any_of HT_.out (by kernel_rfl)) (fun _ _ _ h => h) (Or.inl ⟨by rfl, ?_⟩) ?_ ?_
                          rotate_left
                          ·intro w'
                           go_simp
                           with_reducible rfl
                          rotate_left
                          ·simp only [Act.put, List.setIfInBounds_toArray, List.set_cons_zero, List.set_cons_succ, i64_w, i32_w]
                           rfl
                          refine pure_ (i := 16) (N := some 145) (v := ?_) (a' := ?_) #[true, true, true, false, true, true, true, true, false, true, false, false, true, true, true, false, true, false, false, false, false, false, false, false, false, false, false, false, false, false] rfl rfl (any_of HT_.out (by kernel_rfl)) (fun _ _ _ h => h) (Or.inl ⟨by rfl, ?_⟩) ?_ ?_
                          rotate_left
                          ·intro w'
                           go_simp
                           with_reducible rfl
                          rotate_left
                          ·simp only [Act.put, List.setIfInBounds_toArray, List.set_cons_zero, List.set_cons_succ, i64_w, i32_w]
                           rfl
                          refine pure_ (i := 19) (N := some 148) (v := ?_) (a' := ?_) #[true, true, true, false, true, true, true, true, false, true, false, false, true, true, true, false, true, false, false, true, false, false, false, false, false, false, false, false, false, false] rfl rfl (any_of HT_.out (by kernel_rfl)) (fun _ _ _ h => h) (Or.inl ⟨by rfl, ?_⟩) ?_ ?_
                          rotate_left
                          ·intro w'
                           go_simp
                           with_reducible rfl
                          rotate_left
                          ·simp only [Act.put, List.setIfInBounds_toArray, List.set_cons_zero, List.set_cons_succ, i64_w, i32_w]
                           rfl
                          refine pure_ (i := 20) (N := some 149) (v := ?_) (a' := ?_) #[true, true, true, false, true, true, true, true, false, true, false, false, true, true, true, false, true, false, false, true, true, false, false, false, false, false, false, false, false, false] rfl rfl (any_of HT_.out (by kernel_rfl)) (fun _ _ _ h => h) (Or.inl ⟨by rfl, ?_⟩) ?_ ?_
                          rotate_left
                          ·intro w'
                           go_simp
                           with_reducible rfl
                          rotate_left
                          ·simp only [Act.put, List.setIfInBounds_toArray, List.set_cons_zero, List.set_cons_succ, i64_w, i32_w]
                           rfl
                          refine pure_ (i := 21) (N := some 150) (v := ?_) (a' := ?_) #[true, true, true, false, true, true, true, true, false, true, false, false, true, true, true, false, true, false, false, true, true, true, false, false, false, false, false, false, false, false] rfl rfl (any_of HT_.out (by kernel_rfl)) (fun _ _ _ h => h) (Or.inl ⟨by rfl, ?_⟩) ?_ ?_
                          rotate_left
                          ·intro w'
                           go_simp
                           with_reducible rfl
                          rotate_left
                          ·simp only [Act.put, List.setIfInBounds_toArray, List.set_cons_zero, List.set_cons_succ, i64_w, i32_w]
                           rfl
                          refine pure_ (i := 23) (N := some 152) (v := ?_) (a' := ?_) #[true, true, true, false, true, true, true, true, false, true, false, false, true, true, true, false, true, false, false, true, true, true, false, true, false, false, false, false, false, false] rfl rfl (any_of HT_.out (by kernel_rfl)) (fun _ _ _ h => h) (Or.inl ⟨by rfl, ?_⟩) ?_ ?_
                          rotate_left
                          ·intro w'
                           go_simp
                           with_reducible rfl
                          rotate_left
                          ·simp only [Act.put, List.setIfInBounds_toArray, List.set_cons_zero, List.set_cons_succ, i64_w, i32_w]
                           rfl
                          refine take_ (i := 3) (N := some 132) (v := ?_) (a' := ?_) #[true, true, true, true, true, true, true, true, false, true, false, false, true, true, true, false, true, false, false, true, true, true, false, true, false, false, false, false, false, false] rfl rfl (take_ofW HT_.out HW_.out (by kernel_rfl)) (fun _ _ _ h => h) (Or.inl ⟨by rfl, ?_⟩) hHeld ?_ ?_
                          rotate_left
                          ·rintro w' ⟨s0, s1, s2, s3, s4, s5, s6⟩
                           go_simp
                           with_reducible rfl
                          rotate_left
                          ·simp only [Act.put, List.setIfInBounds_toArray, List.set_cons_zero, List.set_cons_succ, i64_w, i32_w]
                           rfl
                          refine take_ (i := 8) (N := some 137) (v := ?_) (a' := ?_) #[true, true, true, true, true, true, true, true, true, true, false, false, true, true, true, false, true, false, false, true, true, true, false, true, false, false, false, false, false, false] rfl rfl (take_ofW HT_.out HW_.out (by kernel_rfl)) (fun _ _ _ h => h) (Or.inl ⟨by rfl, ?_⟩) hHeld ?_ ?_
                          rotate_left
                          ·rintro w' ⟨s0, s1, s2, s3, s4, s5, s6⟩
                           go_simp
                           with_reducible rfl
                          rotate_left
                          ·simp only [Act.put, List.setIfInBounds_toArray, List.set_cons_zero, List.set_cons_succ, i64_w, i32_w]
                           rfl
                          refine pure_ (i := 10) (N := some 139) (v := ?_) (a' := ?_) #[true, true, true, true, true, true, true, true, true, true, true, false, true, true, true, false, true, false, false, true, true, true, false, true, false, false, false, false, false, false] rfl rfl (any_of HT_.out (by kernel_rfl)) (fun _ _ _ h => h) (Or.inl ⟨by rfl, ?_⟩) ?_ ?_
                          rotate_left
                          ·intro w'
                           go_simp
                           with_reducible rfl
                          rotate_left
                          ·simp only [Act.put, List.setIfInBounds_toArray, List.set_cons_zero, List.set_cons_succ, i64_w, i32_w]
                           rfl
                          refine take_ (i := 11) (N := some 140) (v := ?_) (a' := ?_) #[true, true, true, true, true, true, true, true, true, true, true, true, true, true, true, false, true, false, false, true, true, true, false, true, false, false, false, false, false, false] rfl rfl (take_ofW HT_.out HW_.out (by kernel_rfl)) (fun _ _ _ h => h) (Or.inl ⟨by rfl, ?_⟩) hHeld ?_ ?_
                          rotate_left
                          ·rintro w' ⟨s0, s1, s2, s3, s4, s5, s6⟩
                           go_simp
                           with_reducible rfl
                          rotate_left
                          ·simp only [Act.put, List.setIfInBounds_toArray, List.set_cons_zero, List.set_cons_succ, i64_w, i32_w]
                           rfl
                          refine take_ (i := 15) (N := some 144) (v := ?_) (a' := ?_) #[true, true, true, true, true, true, true, true, true, true, true, true, true, true, true, true, true, false, false, true, true, true, false, true, false, false, false, false, false, false] rfl rfl (take_ofW HT_.out HW_.out (by kernel_rfl)) (fun _ _ _ h => h) (Or.inl ⟨by rfl, ?_⟩) hHeld ?_ ?_
                          rotate_left
                          ·rintro w' ⟨s0, s1, s2, s3, s4, s5, s6⟩
                           go_simp
                           with_reducible rfl
                          rotate_left
                          ·simp only [Act.put, List.setIfInBounds_toArray, List.set_cons_zero, List.set_cons_succ, i64_w, i32_w]
                           rfl
                          refine pure_ (i := 17) (N := some 146) (v := ?_) (a' := ?_) #[true, true, true, true, true, true, true, true, true, true, true, true, true, true, true, true, true, true, false, true, true, true, false, true, false, false, false, false, false, false] rfl rfl (any_of HT_.out (by kernel_rfl)) (fun _ _ _ h => h) (Or.inl ⟨by rfl, ?_⟩) ?_ ?_
                          rotate_left
                          ·intro w'
                           go_simp
                           with_reducible rfl
                          rotate_left
                          ·simp only [Act.put, List.setIfInBounds_toArray, List.set_cons_zero, List.set_cons_succ, i64_w, i32_w]
                           rfl
                          refine take_ (i := 18) (N := some 147) (v := ?_) (a' := ?_) #[true, true, true, true, true, true, true, true, true, true, true, true, true, true, true, true, true, true, true, true, true, true, false, true, false, false, false, false, false, false] rfl rfl (take_ofW HT_.out HW_.out (by kernel_rfl)) (fun _ _ _ h => h) (Or.inl ⟨by rfl, ?_⟩) hHeld ?_ ?_
                          rotate_left
                          ·rintro w' ⟨s0, s1, s2, s3, s4, s5, s6⟩
                           go_simp
                           with_reducible rfl
                          rotate_left
                          ·simp only [Act.put, List.setIfInBounds_toArray, List.set_cons_zero, List.set_cons_succ, i64_w, i32_w]
                           rfl
                          refine take_ (i := 22) (N := some 151) (v := ?_) (a' := ?_) #[true, true, true, true, true, true, true, true, true, true, true, true, true, true, true, true, true, true, true, true, true, true, true, true, false, false, false, false, false, false] rfl rfl (take_ofW HT_.out HW_.out (by kernel_rfl)) (fun _ _ _ h => h) (Or.inl ⟨by rfl, ?_⟩) hHeld ?_ ?_
                          rotate_left
                          ·rintro w' ⟨s0, s1, s2, s3, s4, s5, s6⟩
                           go_simp
                           with_reducible rfl
                          rotate_left
                          ·simp only [Act.put, List.setIfInBounds_toArray, List.set_cons_zero, List.set_cons_succ, i64_w, i32_w]
                           rfl
                          refine pure_ (i := 24) (N := some 153) (v := ?_) (a' := ?_) #[true, true, true, true, true, true, true, true, true, true, true, true, true, true, true, true, true, true, true, true, true, true, true, true, true, false, false, false, false, false] rfl rfl (any_of HT_.out (by kernel_rfl)) (fun _ _ _ h => h) (Or.inl ⟨by rfl, ?_⟩) ?_ ?_
                          rotate_left
                          ·intro w'
                           go_simp
                           with_reducible rfl
                          rotate_left
                          ·simp only [Act.put, List.setIfInBounds_toArray, List.set_cons_zero, List.set_cons_succ, i64_w, i32_w]
                           rfl
                          refine take_ (i := 25) (N := some 154) (v := ?_) (a' := ?_) #[true, true, true, true, true, true, true, true, true, true, true, true, true, true, true, true, true, true, true, true, true, true, true, true, true, true, false, false, false, false] rfl rfl (take_ofW HT_.out HW_.out (by kernel_rfl)) (fun _ _ _ h => h) (Or.inl ⟨by rfl, ?_⟩) hHeld ?_ ?_
                          rotate_left
                          ·rintro w' ⟨s0, s1, s2, s3, s4, s5, s6⟩
                           go_simp
                           with_reducible rfl
                          rotate_left
                          ·simp only [Act.put, List.setIfInBounds_toArray, List.set_cons_zero, List.set_cons_succ, i64_w, i32_w]
                           rfl
                          refine pure_ (i := 26) (N := some 155) (v := ?_) (a' := ?_) #[true, true, true, true, true, true, true, true, true, true, true, true, true, true, true, true, true, true, true, true, true, true, true, true, true, true, true, false, false, false] rfl rfl (any_of HT_.out (by kernel_rfl)) (fun _ _ _ h => h) (Or.inl ⟨by rfl, ?_⟩) ?_ ?_
                          rotate_left
                          ·intro w'
                           go_simp
                           with_reducible rfl
                          rotate_left
                          ·simp only [Act.put, List.setIfInBounds_toArray, List.set_cons_zero, List.set_cons_succ, i64_w, i32_w]
                           rfl
                          refine one_ (i := 27) (N := some 156) #[true, true, true, true, true, true, true, true, true, true, true, true, true, true, true, true, true, true, true, true, true, true, true, true, true, true, true, true, false, false] rfl rfl (one_of HT_.out (by kernel_rfl)) (by decide) (fun K hK => ?_)
                          refine goes_ Try.func75 (by kernel_rfl) rfl #[.int .i64 (rd (rd_L8 x6_5 x13_4) x14_5), .int .i64 (wrap64 ((rd (rd_L8 x6_5 x13_4) x12_3) + (rd (rd_L8 x6_5 x12_3) x14_5)))] (by rfl) rfl rfl (by (try simp only [List.map_toArray, List.map_cons, List.map_nil]); first | done | rfl | (simp only [List.length_drop, List.length_take]; rfl)) ?_
                          with_reducible refine (spec_l00Min.calls (rd (rd_L8 x6_5 x13_4) x14_5) (wrap64 ((rd (rd_L8 x6_5 x13_4) x12_3) + (rd (rd_L8 x6_5 x12_3) x14_5))) t305 _ A61.out).mono ?_
                          rintro e w' ⟨rfl, ⟨nd, rfl⟩⟩
                          refine ⟨_, rfl, ?_⟩
                          have p62 : 0 ≤ (x14_5 : Int) := of_decide_eq_true (by with_reducible assumption)
                          have q62 : (x14_5 : Int) < (((rd_L8 x6_5 x13_4).length : Int) : Int) := of_decide_eq_true (by with_reducible assumption)
                          obtain ⟨go62, co62, eo62, gb62, gl62, cl62, HG62⟩ := Kd.R_form HL298_0.out (by omega)
                          (first | cases eo62 | (injection eo62 with ea_ en_ ec_; (first | subst ea_ | (injection ea_ with ea_; subst ea_)); subst ec_; clear en_))
                          have GB62 := Aside0.mk gb62
                          have GG62 := Aside0.mk HG62
                          clear gb62 gl62 HG62
                          (first | simp only [add_plain] at hx302_0 | skip)
                          obtain ⟨hx62_0, hf62_0⟩ := Kd.R_celln 0 HL298_0.out (x14_5 : Int) p62 q62
                          replace p62 := eq_true p62
                          replace q62 := eq_true q62
                          have hq66 : (x13_4 : Int) < (x6_5.length : Int) := (by have h_ : (x13_4 : Int) < ((x6_5.length : Int) : Int) := of_decide_eq_true (by with_reducible assumption); first | exact h_ | (have e_ := (Kd.S_reads' HO_6.out).1; omega) | simpa only [List.length_set, List.length_set] using h_)
                          obtain ⟨oki66, ce66, hcl66, hM66, hcc66, hok66, hbk66⟩ := Kd.S_borrow HO_6.out [] (x13_4 : Int) (of_decide_eq_true (by with_reducible assumption)) hq66
                          obtain ⟨ve66_0, rfl, ge66_0⟩ := hM66
                          have hv66 := hcc66 0 _ rfl
                          rw [Nat.add_zero, show ((Kd.slice 2 (Kd.int .i64))).sz = 1 from rfl, Nat.mul_one] at hv66
                          replace hv66 := Option.some.inj (hv66.symm.trans HX298_0.out)
                          subst hv66
                          clear hcc66 hcl66
                          replace ge66_0 := (show Kd.R (Kd.int .i64) 2 _ _ _ _ (rd_L8 x6_5 x13_4) from ge66_0)
                          have HP66 := Kd.R_putg ge66_0 (x14_5 : Int) t305
                          have HN0_go62 := Aside0.mk (show g ≠ go62 from by have h_ := IsS29.own_ne HI0.out HL298_0.out (by decide); intro e_; exact h_ (by rw [e_]; rfl))
                          rw [← Ny306.out] at HP66
                          have HS66 := hbk66 HP66.2 (fun k_ e_ => by injection e_ with e_; subst e_; exact ge66_0.1 _ rfl) (x' := y306) (Kd.M_row HP66.1)
                          rw [← Ny308.out] at HS66
                          have HQ66 := Aside0.mk HS66
                          clear HP66 HS66 hbk66 hok66
                          refine hK.out _ _ ⟨hHeld.1, hHeld.2.1, hHeld.2.2.1, hHeld.2.2.2.1, hHeld.2.2.2.2.1, hHeld.2.2.2.2.2.1, hHeld.2.2.2.2.2.2⟩ (fun hHeld => ?_)
                          clear hK K
                          refine norm_ (a' := ?_) ?_ ?_
                          rotate_left
                          ·show Act.put _ (some 156) _ = _
                           simp only [Act.put, List.setIfInBounds_toArray, List.set_cons_zero, List.set_cons_succ, i64_w, i32_w]
                           rfl
                          refine pure_ (i := 28) (N := some 157) (v := ?_) (a' := ?_) #[true, true, true, true, true, true, true, true, true, true, true, true, true, true, true, true, true, true, true, true, true, true, true, true, true, true, true, true, true, false] rfl rfl (any_of HT_.out (by kernel_rfl)) (fun _ _ _ h => h) (Or.inl ⟨by rfl, ?_⟩) ?_ ?_
                          rotate_left
                          ·intro w'
                           go_simp
                           with_reducible rfl
                          rotate_left
                          ·simp only [Act.put, List.setIfInBounds_toArray, List.set_cons_zero, List.set_cons_succ, i64_w, i32_w]
                           rfl
                          refine last_ (i := 29) (N := none) #[true, true, true, true, true, true, true, true, true, true, true, true, true, true, true, true, true, true, true, true, true, true, true, true, true, true, true, true, true, true] rfl rfl (one_of HT_.out (by kernel_rfl)) (by decide) (fun K hK => ?_)
                          refine skip_ (w1 := ?_) (by rfl) rfl ?_ ?_
                          rotate_left
                          ·go_simp
                           rfl
                          refine hK.out _ _ ?_
                          clear hK K
                          refine done_ (done_of HT_.out (by kernel_rfl)) ?_
                          try go_wp2
                          go_roundg k5
                          case measure => have := HK1.out; have := HK2.out; have := HK3.out; have := HK4.out; have := HK5.out; omega
                          case rel => exact ⟨(y308), (wrap64 (x14_5 + 1)), (by first | rfl | (simp; done) | (simp [*]; done)), H', ⟨by have := HK1.out; have := HK2.out; have := HK3.out; have := HK4.out; have := HK5.out; omega⟩, ⟨by (with_reducible repeat (first | apply Kd.S_alloc | apply Kd.S_drewN | apply Kd.S_drew)); exact HQ66.out⟩, ⟨by repeat (first | (with_reducible first | exact HI0.out | apply IsS29.alloc | apply IsS29.drewN | apply IsS29.drew | apply IsS29.set_0 | refine IsS29.far ?_ HN0_go62.out _) | exact HI0.out)⟩, ⟨by repeat (first | (with_reducible first | exact HK.out | apply KeepBut.set_ | apply keep_drewN | apply keep_drew | apply keep_alloc | refine keep_far ?_ GB62.out _) | exact HK.out)⟩, ⟨by repeat (first | (with_reducible first | exact HB.out | apply below_alloc | apply pw_below_drewN | apply below_drew1 | refine below_set ?_ (Nat.le_trans HL.out GB62.out) | refine below_set ?_ (IsS29.ge HI0.out)) | exact HB.out)⟩⟩
                         ·rw [if_neg c60] at H
                          exact absurd H (by simp)
                        ·rw [if_neg c59] at H
                         have c59b0 : decide ((rd (rd_L8 x6_5 x12_3) x14_5) < 1000000) = false := decide_eq_false c59
                         clear c59
                         have H' := Aside0.mk H
                         clear H
                         obtain ⟨ASz68_1, cSz68_1, HGz68, hgz68, HSz68_1⟩ := HI0.out
                         have hcz68_0 := cellS29_0 HGz68
                         have hcz68_1 := cellS29_1 HGz68
                         have hfz68_0 := blk_frozen HGz68 0
                         clear HGz68 hgz68
                         obtain ⟨Ao69, co69, eo69⟩ := Kd.S_slice HO_6.out
                         subst eo69
                         have p294 : 0 ≤ (x13_4 : Int) := of_decide_eq_true (by with_reducible assumption)
                         have q294 : x13_4 < (x6_5.length : Int) := of_decide_eq_true (by with_reducible assumption)
                         obtain ⟨ad294, A294_0, c294_0, e294, hx294_0, hl294_0, hi294_0⟩ := at_L8 (Kd.S_reads' HO_6.out).2.2 x13_4 p294 q294
                         cases e294
                         obtain ⟨ce294, hce294, hMe294, hcc294⟩ := Kd.S_get HO_6.out [] x13_4 p294 (by first | exact q294 | exact of_decide_eq_true (by with_reducible assumption) | (have e_ := (Kd.S_reads' HO_6.out).1; omega))
                         obtain ⟨ve294_0, rfl, ge294_0⟩ := hMe294
                         have hv294_0 := hcc294 0 _ rfl
                         rw [Nat.add_zero, show ((Kd.slice 2 (Kd.int .i64))).sz = 1 from rfl, Nat.mul_one] at hv294_0
                         replace hv294_0 := Option.some.inj (hv294_0.symm.trans hx294_0)
                         rw [hv294_0] at ge294_0
                         have HL294_0 := Aside0.mk (show Kd.R (Kd.int .i64) 2 _ _ _ _ (rd_L8 x6_5 x13_4) from ge294_0)
                         clear hv294_0 ge294_0
                         have HX294_0 := Aside0.mk hx294_0
                         clear hcc294 hce294
                         have HR294_0 := Aside0.mk hi294_0
                         have HC294_0 := Aside0.mk hl294_0
                         clear hi294_0 hl294_0
                         replace p294 := eq_true p294
                         replace q294 := eq_true q294
                         have p295 : 0 ≤ (x12_3 : Int) := of_decide_eq_true (by with_reducible assumption)
                         have q295 : x12_3 < ((rd_L8 x6_5 x13_4).length : Int) := of_decide_eq_true (by with_reducible assumption)
                         obtain ⟨ad295, e295, hx295_0⟩ := Kd.at_int (by repeat (first | (with_reducible exact HR294_0.out) | (with_reducible refine Kd.C_alloc ?_ _) | (with_reducible refine Kd.C_drewN ?_ _) | (with_reducible refine Kd.C_drew ?_) | exact HR294_0.out)) x12_3 p295 q295
                         cases e295
                         replace p295 := eq_true p295
                         replace q295 := eq_true q295
                         have p296 : 0 ≤ (x12_3 : Int) := of_decide_eq_true (by with_reducible assumption)
                         have q296 : x12_3 < (x6_5.length : Int) := of_decide_eq_true (by with_reducible assumption)
                         obtain ⟨ad296, A296_0, c296_0, e296, hx296_0, hl296_0, hi296_0⟩ := at_L8 (Kd.S_reads' HO_6.out).2.2 x12_3 p296 q296
                         obtain rfl : ad294 = ad296 := (by injection e296)
                         obtain ⟨ce296, hce296, hMe296, hcc296⟩ := Kd.S_get HO_6.out [] x12_3 p296 (by first | exact q296 | exact of_decide_eq_true (by with_reducible assumption) | (have e_ := (Kd.S_reads' HO_6.out).1; omega))
                         obtain ⟨ve296_0, rfl, ge296_0⟩ := hMe296
                         have hv296_0 := hcc296 0 _ rfl
                         rw [Nat.add_zero, show ((Kd.slice 2 (Kd.int .i64))).sz = 1 from rfl, Nat.mul_one] at hv296_0
                         replace hv296_0 := Option.some.inj (hv296_0.symm.trans hx296_0)
                         rw [hv296_0] at ge296_0
                         have HL296_0 := Aside0.mk (show Kd.R (Kd.int .i64) 2 _ _ _ _ (rd_L8 x6_5 x12_3) from ge296_0)
                         clear hv296_0 ge296_0
                         have HX296_0 := Aside0.mk hx296_0
                         clear hcc296 hce296
                         have HR296_0 := Aside0.mk hi296_0
                         have HC296_0 := Aside0.mk hl296_0
                         clear hi296_0 hl296_0
                         replace p296 := eq_true p296
                         replace q296 := eq_true q296
                         have p297 : 0 ≤ (x14_5 : Int) := of_decide_eq_true (by with_reducible assumption)
                         have q297 : x14_5 < ((rd_L8 x6_5 x12_3).length : Int) := of_decide_eq_true (by with_reducible assumption)
                         obtain ⟨ad297, e297, hx297_0⟩ := Kd.at_int (by repeat (first | (with_reducible exact HR296_0.out) | (with_reducible refine Kd.C_alloc ?_ _) | (with_reducible refine Kd.C_drewN ?_ _) | (with_reducible refine Kd.C_drew ?_) | exact HR296_0.out)) x14_5 p297 q297
                         cases e297
                         replace p297 := eq_true p297
                         replace q297 := eq_true q297
                         go_wp2
                         go_roundg k5
                         case measure => have := HK1.out; have := HK2.out; have := HK3.out; have := HK4.out; have := HK5.out; omega
                         case rel => exact ⟨(x6_5), (wrap64 (x14_5 + 1)), (by first | rfl | (simp; done) | (simp [*]; done)), H', ⟨by have := HK1.out; have := HK2.out; have := HK3.out; have := HK4.out; have := HK5.out; omega⟩, ⟨by (with_reducible repeat (first | apply Kd.S_alloc | apply Kd.S_drewN | apply Kd.S_drew)); exact HO_6.out⟩, ⟨by repeat (first | (with_reducible first | exact HI0.out | apply IsS29.alloc | apply IsS29.drewN | apply IsS29.drew | apply IsS29.set_0) | exact HI0.out)⟩, ⟨by repeat (first | (with_reducible first | exact HK.out | apply KeepBut.set_ | apply keep_drewN | apply keep_drew | apply keep_alloc) | exact HK.out)⟩, ⟨by repeat (first | (with_reducible first | exact HB.out | apply below_alloc | apply pw_below_drewN | apply below_drew1 | refine below_set ?_ (IsS29.ge HI0.out)) | exact HB.out)⟩⟩
                       ·rw [if_neg c58] at H
                        exact absurd H (by simp)
                      ·rw [if_neg c57] at H
                       exact absurd H (by simp)
                     ·rw [if_neg c56] at H
                      exact absurd H (by simp)
                    ·rw [if_neg c55] at H
                     have c55b0 : decide ((rd (rd_L8 x6_5 x13_4) x12_3) < 1000000) = false := decide_eq_false c55
                     clear c55
                     have H' := Aside0.mk H
                     clear H
                     obtain ⟨ASz70_1, cSz70_1, HGz70, hgz70, HSz70_1⟩ := HI0.out
                     have hcz70_0 := cellS29_0 HGz70
                     have hcz70_1 := cellS29_1 HGz70
                     have hfz70_0 := blk_frozen HGz70 0
                     clear HGz70 hgz70
                     obtain ⟨Ao71, co71, eo71⟩ := Kd.S_slice HO_6.out
                     subst eo71
                     have p294 : 0 ≤ (x13_4 : Int) := of_decide_eq_true (by with_reducible assumption)
                     have q294 : x13_4 < (x6_5.length : Int) := of_decide_eq_true (by with_reducible assumption)
                     obtain ⟨ad294, A294_0, c294_0, e294, hx294_0, hl294_0, hi294_0⟩ := at_L8 (Kd.S_reads' HO_6.out).2.2 x13_4 p294 q294
                     cases e294
                     obtain ⟨ce294, hce294, hMe294, hcc294⟩ := Kd.S_get HO_6.out [] x13_4 p294 (by first | exact q294 | exact of_decide_eq_true (by with_reducible assumption) | (have e_ := (Kd.S_reads' HO_6.out).1; omega))
                     obtain ⟨ve294_0, rfl, ge294_0⟩ := hMe294
                     have hv294_0 := hcc294 0 _ rfl
                     rw [Nat.add_zero, show ((Kd.slice 2 (Kd.int .i64))).sz = 1 from rfl, Nat.mul_one] at hv294_0
                     replace hv294_0 := Option.some.inj (hv294_0.symm.trans hx294_0)
                     rw [hv294_0] at ge294_0
                     have HL294_0 := Aside0.mk (show Kd.R (Kd.int .i64) 2 _ _ _ _ (rd_L8 x6_5 x13_4) from ge294_0)
                     clear hv294_0 ge294_0
                     have HX294_0 := Aside0.mk hx294_0
                     clear hcc294 hce294
                     have HR294_0 := Aside0.mk hi294_0
                     have HC294_0 := Aside0.mk hl294_0
                     clear hi294_0 hl294_0
                     replace p294 := eq_true p294
                     replace q294 := eq_true q294
                     have p295 : 0 ≤ (x12_3 : Int) := of_decide_eq_true (by with_reducible assumption)
                     have q295 : x12_3 < ((rd_L8 x6_5 x13_4).length : Int) := of_decide_eq_true (by with_reducible assumption)
                     obtain ⟨ad295, e295, hx295_0⟩ := Kd.at_int (by repeat (first | (with_reducible exact HR294_0.out) | (with_reducible refine Kd.C_alloc ?_ _) | (with_reducible refine Kd.C_drewN ?_ _) | (with_reducible refine Kd.C_drew ?_) | exact HR294_0.out)) x12_3 p295 q295
                     cases e295
                     replace p295 := eq_true p295
                     replace q295 := eq_true q295
                     go_wp2
                     go_roundg k5
                     case measure => have := HK1.out; have := HK2.out; have := HK3.out; have := HK4.out; have := HK5.out; omega
                     case rel => exact ⟨(x6_5), (wrap64 (x14_5 + 1)), (by first | rfl | (simp; done) | (simp [*]; done)), H', ⟨by have := HK1.out; have := HK2.out; have := HK3.out; have := HK4.out; have := HK5.out; omega⟩, ⟨by (with_reducible repeat (first | apply Kd.S_alloc | apply Kd.S_drewN | apply Kd.S_drew)); exact HO_6.out⟩, ⟨by repeat (first | (with_reducible first | exact HI0.out | apply IsS29.alloc | apply IsS29.drewN | apply IsS29.drew | apply IsS29.set_0) | exact HI0.out)⟩, ⟨by repeat (first | (with_reducible first | exact HK.out | apply KeepBut.set_ | apply keep_drewN | apply keep_drew | apply keep_alloc) | exact HK.out)⟩, ⟨by repeat (first | (with_reducible first | exact HB.out | apply below_alloc | apply pw_below_drewN | apply below_drew1 | refine below_set ?_ (IsS29.ge HI0.out)) | exact HB.out)⟩⟩
                   ·rw [if_neg c54] at H
                    exact absurd H (by simp)
                  ·rw [if_neg c53] at H
                   exact absurd H (by simp)
                 ·rw [if_neg c52] at H
                  exact absurd H (by simp)
                ·rw [if_neg c51] at H
                 exact absurd H (by simp)
               ·rw [if_neg c50] at H
                have c50b0 : decide (x14_5 < s0_0) = false := decide_eq_false c50
                clear c50
                have H' := Aside0.mk H
                clear H
                obtain ⟨ASz72_1, cSz72_1, HGz72, hgz72, HSz72_1⟩ := HI0.out
                have hcz72_0 := cellS29_0 HGz72
                have hcz72_1 := cellS29_1 HGz72
                have hfz72_0 := blk_frozen HGz72 0
                clear HGz72 hgz72
                go_wp2
                go_roundg k5
                case measure => have := HK1.out; have := HK2.out; have := HK3.out; have := HK4.out; have := HK5.out; omega
                case rel => exact ⟨(x6_5), (wrap64 (x13_4 + 1)), (by first | rfl | (simp; done) | (simp [*]; done)), H', ⟨by have := HK1.out; have := HK2.out; have := HK3.out; have := HK4.out; have := HK5.out; omega⟩, ⟨by (with_reducible repeat (first | apply Kd.S_alloc | apply Kd.S_drewN | apply Kd.S_drew)); exact HO_6.out⟩, ⟨by repeat (first | (with_reducible first | exact HI0.out | apply IsS29.alloc | apply IsS29.drewN | apply IsS29.drew | apply IsS29.set_0) | exact HI0.out)⟩, ⟨by repeat (first | (with_reducible first | exact HK.out | apply KeepBut.set_ | apply keep_drewN | apply keep_drew | apply keep_alloc) | exact HK.out)⟩, ⟨by repeat (first | (with_reducible first | exact HB.out | apply below_alloc | apply pw_below_drewN | apply below_drew1 | refine below_set ?_ (IsS29.ge HI0.out)) | exact HB.out)⟩⟩
            ·rw [if_neg c48] at H
             have c48b0 : decide (x13_4 < s0_0) = false := decide_eq_false c48
             clear c48
             have H' := Aside0.mk H
             clear H
             obtain ⟨ASz73_1, cSz73_1, HGz73, hgz73, HSz73_1⟩ := HI0.out
             have hcz73_0 := cellS29_0 HGz73
             have hcz73_1 := cellS29_1 HGz73
             have hfz73_0 := blk_frozen HGz73 0
             clear HGz73 hgz73
             go_wp2
             go_roundg k4
             case measure => have := HK1.out; have := HK2.out; have := HK3.out; have := HK4.out; omega
             case rel => exact ⟨(x6_4), (wrap64 (x12_3 + 1)), (by first | rfl | (simp; done) | (simp [*]; done)), H', ⟨by have := HK1.out; have := HK2.out; have := HK3.out; have := HK4.out; omega⟩, ⟨by (with_reducible repeat (first | apply Kd.S_alloc | apply Kd.S_drewN | apply Kd.S_drew)); exact HO_6.out⟩, ⟨by repeat (first | (with_reducible first | exact HI0.out | apply IsS29.alloc | apply IsS29.drewN | apply IsS29.drew | apply IsS29.set_0) | exact HI0.out)⟩, ⟨by repeat (first | (with_reducible first | exact HK.out | apply KeepBut.set_ | apply keep_drewN | apply keep_drew | apply keep_alloc) | exact HK.out)⟩, ⟨by repeat (first | (with_reducible first | exact HB.out | apply below_alloc | apply pw_below_drewN | apply below_drew1 | refine below_set ?_ (IsS29.ge HI0.out)) | exact HB.out)⟩⟩
         ·rw [if_neg c46] at H
          have c46b0 : decide (x12_3 < s0_0) = false := decide_eq_false c46
          clear c46
          have H' := Aside0.mk H
          clear H
          obtain ⟨ASz74_1, cSz74_1, HGz74, hgz74, HSz74_1⟩ := HI0.out
          have hcz74_0 := cellS29_0 HGz74
          have hcz74_1 := cellS29_1 HGz74
          have hfz74_0 := blk_frozen HGz74 0
          clear HGz74 hgz74
          go_wp2
          go_loopg [15] k3 (fun kq v15 w' => ∃ (x15_4 : Int), v15 = .int .i64 x15_4 ∧ Aside0 (spec_l04Tight.l6 kq x6_3 x15_4 s0_0 s0_1 = some (r1, r2, r3)) ∧ Aside0 (kq ≤ k3) ∧ Aside0 (Kd.S (Kd.slice 2 (Kd.int .i64)) 33 w' w.heap.size (fun _ => True) u6 x6_3) ∧ Aside0 (IsS29 w0 w' g s0_0 s0_1) ∧ Aside0 (KeepBut w w' g none) ∧ Aside0 (Below w0.heap.size w0 w'))
          case atStart => exact ⟨(0), (by first | rfl | (simp; done) | (simp [*]; done)), H', ⟨Nat.le_refl _⟩, ⟨by (with_reducible repeat (first | apply Kd.S_alloc | apply Kd.S_drewN | apply Kd.S_drew)); exact HO_6.out⟩, ⟨by repeat (first | (with_reducible first | exact HI0.out | apply IsS29.alloc | apply IsS29.drewN | apply IsS29.drew | apply IsS29.set_0) | exact HI0.out)⟩, ⟨by repeat (first | (with_reducible first | exact HK.out | apply KeepBut.set_ | apply keep_drewN | apply keep_drew | apply keep_alloc) | exact HK.out)⟩, ⟨by repeat (first | (with_reducible first | exact HB.out | apply below_alloc | apply pw_below_drewN | apply below_drew1 | refine below_set ?_ (IsS29.ge HI0.out)) | exact HB.out)⟩⟩
          case round =>
           clear H'
           try clear c2
           try clear p2
           try clear q2
           try clear hx2
           try clear c3
           try clear p3
           try clear q3
           try clear hx3
           try clear c4
           try clear c5
           try clear c6
           try clear p6
           try clear q6
           try clear hx6
           try clear hf6
           try clear c7
           try clear c29
           try clear p29
           try clear q29
           try clear hx29
           try clear c30
           try clear p30
           try clear q30
           try clear hx30
           try clear c46
           try clear c46b0
           try clear c48
           try clear c48b0
           try clear c50
           try clear c50b0
           try clear c51
           try clear c52
           try clear c53
           try clear c54
           try clear c55
           try clear c55b0
           try clear c56
           try clear c57
           try clear c58
           try clear c59
           try clear c59b0
           try clear c60
           try clear p62
           try clear q62
           try clear hx62
           try clear hf62
           try clear p64
           try clear c66
           try clear q66
           try clear hcz68_0
           try clear hcz68_1
           try clear hcz70_0
           try clear hcz70_1
           try clear hcz72_0
           try clear hcz72_1
           try clear hcz73_0
           try clear hcz73_1
           try clear hcz74_0
           try clear hcz74_1
           try clear hfz68_0
           try clear hfz70_0
           try clear hfz72_0
           try clear hfz73_0
           try clear hfz74_0
           try clear hx294_0
           try clear hx295_0
           try clear hx296_0
           try clear hx297_0
           try clear hx298_0
           try clear hx299_0
           try clear hx300_0
           try clear hx301_0
           try clear hx302_0
           try clear hx303_0
           try clear hx304_0
           try clear hx62_0
           try clear p294
           try clear p295
           try clear p296
           try clear p297
           try clear p298
           try clear p299
           try clear p300
           try clear p301
           try clear p302
           try clear p303
           try clear p304
           try clear p62
           try clear q294
           try clear q295
           try clear q296
           try clear q297
           try clear q298
           try clear q299
           try clear q300
           try clear q301
           try clear q302
           try clear q303
           try clear q304
           try clear q62
           obtain ⟨x15_4, rfl, HA, HK4, HO_6, HI0, HK, HB⟩ := hrel
           cases gk with
           | zero => exact absurd HA.out (by simp [spec_l04Tight.l6])
           | succ k4 =>
            have H := HA.out
            clear HA
            simp only [spec_l04Tight.l6] at H
            by_cases c75 : x15_4 < s0_0
            ·rw [if_pos c75] at H
             have c75b0 : decide (x15_4 < s0_0) = true := decide_eq_true c75
             clear c75
             by_cases c76 : 0 ≤ x15_4
             ·rw [if_pos c76] at H
              have c76b0 : decide (0 ≤ x15_4) = true := decide_eq_true c76
              clear c76
              by_cases c77 : x15_4 < (x6_3.length : Int)
              ·rw [if_pos c77] at H
               have c77b0 : decide (x15_4 < (x6_3.length : Int)) = true := decide_eq_true c77
               clear c77
               by_cases c78 : x15_4 < ((rd_L8 x6_3 x15_4).length : Int)
               ·rw [if_pos c78] at H
                have c78b0 : decide (x15_4 < ((rd_L8 x6_3 x15_4).length : Int)) = true := decide_eq_true c78
                clear c78
                by_cases c79 : (rd (rd_L8 x6_3 x15_4) x15_4) < 0
                ·rw [if_pos c79] at H
                 have c79b0 : decide ((rd (rd_L8 x6_3 x15_4) x15_4) < 0) = true := decide_eq_true c79
                 clear c79
                 simp only [Option.some.injEq, Prod.mk.injEq] at H
                 obtain ⟨rfl, rfl, rfl⟩ := H
                 obtain ⟨ASz80_1, cSz80_1, HGz80, hgz80, HSz80_1⟩ := HI0.out
                 have hcz80_0 := cellS29_0 HGz80
                 have hcz80_1 := cellS29_1 HGz80
                 have hfz80_0 := blk_frozen HGz80 0
                 clear HGz80 hgz80
                 obtain ⟨Ao81, co81, eo81⟩ := Kd.S_slice HO_6.out
                 subst eo81
                 have p309 : 0 ≤ (x15_4 : Int) := of_decide_eq_true (by with_reducible assumption)
                 have q309 : x15_4 < (x6_3.length : Int) := of_decide_eq_true (by with_reducible assumption)
                 obtain ⟨ad309, A309_0, c309_0, e309, hx309_0, hl309_0, hi309_0⟩ := at_L8 (Kd.S_reads' HO_6.out).2.2 x15_4 p309 q309
                 cases e309
                 obtain ⟨ce309, hce309, hMe309, hcc309⟩ := Kd.S_get HO_6.out [] x15_4 p309 (by first | exact q309 | exact of_decide_eq_true (by with_reducible assumption) | (have e_ := (Kd.S_reads' HO_6.out).1; omega))
                 obtain ⟨ve309_0, rfl, ge309_0⟩ := hMe309
                 have hv309_0 := hcc309 0 _ rfl
                 rw [Nat.add_zero, show ((Kd.slice 2 (Kd.int .i64))).sz = 1 from rfl, Nat.mul_one] at hv309_0
                 replace hv309_0 := Option.some.inj (hv309_0.symm.trans hx309_0)
                 rw [hv309_0] at ge309_0
                 have HL309_0 := Aside0.mk (show Kd.R (Kd.int .i64) 2 _ _ _ _ (rd_L8 x6_3 x15_4) from ge309_0)
                 clear hv309_0 ge309_0
                 have HX309_0 := Aside0.mk hx309_0
                 clear hcc309 hce309
                 have HR309_0 := Aside0.mk hi309_0
                 have HC309_0 := Aside0.mk hl309_0
                 clear hi309_0 hl309_0
                 replace p309 := eq_true p309
                 replace q309 := eq_true q309
                 have p310 : 0 ≤ (x15_4 : Int) := of_decide_eq_true (by with_reducible assumption)
                 have q310 : x15_4 < ((rd_L8 x6_3 x15_4).length : Int) := of_decide_eq_true (by with_reducible assumption)
                 obtain ⟨ad310, e310, hx310_0⟩ := Kd.at_int (by repeat (first | (with_reducible exact HR309_0.out) | (with_reducible refine Kd.C_alloc ?_ _) | (with_reducible refine Kd.C_drewN ?_ _) | (with_reducible refine Kd.C_drew ?_) | exact HR309_0.out)) x15_4 p310 q310
                 cases e310
                 replace p310 := eq_true p310
                 replace q310 := eq_true q310
                 go_wp2
                 go_ret2
                 exact ⟨_, by first | rfl | (simp [errW_none, errW_some] <;> rfl) | (simp [*, errW_none, errW_some] <;> rfl), by (with_reducible repeat (first | apply Kd.S_alloc | apply Kd.S_drewN | apply Kd.S_drew)); exact HO_6.out, by repeat (first | (with_reducible first | exact HI0.out | apply IsS29.alloc | apply IsS29.drewN | apply IsS29.drew | apply IsS29.set_0) | exact HI0.out), by repeat (first | (with_reducible first | exact HB.out | apply below_alloc | apply pw_below_drewN | apply below_drew1 | refine below_set ?_ (IsS29.ge HI0.out)) | exact HB.out), by repeat (first | (with_reducible first | exact HK.out | apply KeepBut.set_ | apply keep_drewN | apply keep_drew | apply keep_alloc) | exact HK.out)⟩
                ·rw [if_neg c79] at H
                 have c79b0 : decide ((rd (rd_L8 x6_3 x15_4) x15_4) < 0) = false := decide_eq_false c79
                 clear c79
                 have H' := Aside0.mk H
                 clear H
                 obtain ⟨ASz82_1, cSz82_1, HGz82, hgz82, HSz82_1⟩ := HI0.out
                 have hcz82_0 := cellS29_0 HGz82
                 have hcz82_1 := cellS29_1 HGz82
                 have hfz82_0 := blk_frozen HGz82 0
                 clear HGz82 hgz82
                 obtain ⟨Ao83, co83, eo83⟩ := Kd.S_slice HO_6.out
                 subst eo83
                 have p309 : 0 ≤ (x15_4 : Int) := of_decide_eq_true (by with_reducible assumption)
                 have q309 : x15_4 < (x6_3.length : Int) := of_decide_eq_true (by with_reducible assumption)
                 obtain ⟨ad309, A309_0, c309_0, e309, hx309_0, hl309_0, hi309_0⟩ := at_L8 (Kd.S_reads' HO_6.out).2.2 x15_4 p309 q309
                 cases e309
                 obtain ⟨ce309, hce309, hMe309, hcc309⟩ := Kd.S_get HO_6.out [] x15_4 p309 (by first | exact q309 | exact of_decide_eq_true (by with_reducible assumption) | (have e_ := (Kd.S_reads' HO_6.out).1; omega))
                 obtain ⟨ve309_0, rfl, ge309_0⟩ := hMe309
                 have hv309_0 := hcc309 0 _ rfl
                 rw [Nat.add_zero, show ((Kd.slice 2 (Kd.int .i64))).sz = 1 from rfl, Nat.mul_one] at hv309_0
                 replace hv309_0 := Option.some.inj (hv309_0.symm.trans hx309_0)
                 rw [hv309_0] at ge309_0
                 have HL309_0 := Aside0.mk (show Kd.R (Kd.int .i64) 2 _ _ _ _ (rd_L8 x6_3 x15_4) from ge309_0)
                 clear hv309_0 ge309_0
                 have HX309_0 := Aside0.mk hx309_0
                 clear hcc309 hce309
                 have HR309_0 := Aside0.mk hi309_0
                 have HC309_0 := Aside0.mk hl309_0
                 clear hi309_0 hl309_0
                 replace p309 := eq_true p309
                 replace q309 := eq_true q309
                 have p310 : 0 ≤ (x15_4 : Int) := of_decide_eq_true (by with_reducible assumption)
                 have q310 : x15_4 < ((rd_L8 x6_3 x15_4).length : Int) := of_decide_eq_true (by with_reducible assumption)
                 obtain ⟨ad310, e310, hx310_0⟩ := Kd.at_int (by repeat (first | (with_reducible exact HR309_0.out) | (with_reducible refine Kd.C_alloc ?_ _) | (with_reducible refine Kd.C_drewN ?_ _) | (with_reducible refine Kd.C_drew ?_) | exact HR309_0.out)) x15_4 p310 q310
                 cases e310
                 replace p310 := eq_true p310
                 replace q310 := eq_true q310
                 go_wp2
                 go_roundg k4
                 case measure => have := HK1.out; have := HK2.out; have := HK3.out; have := HK4.out; omega
                 case rel => exact ⟨(wrap64 (x15_4 + 1)), (by first | rfl | (simp; done) | (simp [*]; done)), H', ⟨by have := HK1.out; have := HK2.out; have := HK3.out; have := HK4.out; omega⟩, ⟨by (with_reducible repeat (first | apply Kd.S_alloc | apply Kd.S_drewN | apply Kd.S_drew)); exact HO_6.out⟩, ⟨by repeat (first | (with_reducible first | exact HI0.out | apply IsS29.alloc | apply IsS29.drewN | apply IsS29.drew | apply IsS29.set_0) | exact HI0.out)⟩, ⟨by repeat (first | (with_reducible first | exact HK.out | apply KeepBut.set_ | apply keep_drewN | apply keep_drew | apply keep_alloc) | exact HK.out)⟩, ⟨by repeat (first | (with_reducible first | exact HB.out | apply below_alloc | apply pw_below_drewN | apply below_drew1 | refine below_set ?_ (IsS29.ge HI0.out)) | exact HB.out)⟩⟩
               ·rw [if_neg c78] at H
                exact absurd H (by simp)
              ·rw [if_neg c77] at H
               exact absurd H (by simp)
             ·rw [if_neg c76] at H
              exact absurd H (by simp)
            ·rw [if_neg c75] at H
             have c75b0 : decide (x15_4 < s0_0) = false := decide_eq_false c75
             clear c75
             simp only [Option.some.injEq, Prod.mk.injEq] at H
             obtain ⟨rfl, rfl, rfl⟩ := H
             obtain ⟨ASz84_1, cSz84_1, HGz84, hgz84, HSz84_1⟩ := HI0.out
             have hcz84_0 := cellS29_0 HGz84
             have hcz84_1 := cellS29_1 HGz84
             have hfz84_0 := blk_frozen HGz84 0
             clear HGz84 hgz84
             go_wp2
             go_ret2
             exact ⟨_, by first | rfl | (simp [errW_none, errW_some] <;> rfl) | (simp [*, errW_none, errW_some] <;> rfl), by (with_reducible repeat (first | apply Kd.S_alloc | apply Kd.S_drewN | apply Kd.S_drew)); exact HO_6.out, by repeat (first | (with_reducible first | exact HI0.out | apply IsS29.alloc | apply IsS29.drewN | apply IsS29.drew | apply IsS29.set_0) | exact HI0.out), by repeat (first | (with_reducible first | exact HB.out | apply below_alloc | apply pw_below_drewN | apply below_drew1 | refine below_set ?_ (IsS29.ge HI0.out)) | exact HB.out), by repeat (first | (with_reducible first | exact HK.out | apply KeepBut.set_ | apply keep_drewN | apply keep_drew | apply keep_alloc) | exact HK.out)⟩

end Go.Proofs.Ytljboamepnhfpaa.Pa

