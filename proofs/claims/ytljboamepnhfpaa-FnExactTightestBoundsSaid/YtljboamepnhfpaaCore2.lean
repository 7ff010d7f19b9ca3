-- Written for this claim by a program of this session.
import Derived.Test.YtljboamepnhfpaaPax0
import Derived.Test.YtljboamepnhfpaaCore1
namespace Go.Proofs.Ytljboamepnhfpaa.Pa
open Go.RowKit Go.Proofs.YtljboamepnhfpaaW.PrintWords Go.Proofs.YtljboamepnhfpaaW.PrintLast Go.Proofs.YtljboamepnhfpaaW.PrintMore
attribute [local go_sem] max2_int min2_int max_two min_two max_three min_three max_four min_four   -- for this text's walks alone
set_option linter.unusedVariables false
set_option linter.unusedSimpArgs false

/-! ### impl_tightest: function 66 -/
mutual
def impl_tightest.l0 : Nat → Int → List (S45) → List (List Int) → Int → Int → Option ((List (List Int)) × Bool)
 | 0, _, _, _, _, _ => none
 | k + 1, x0, x1, x6, x16, x17 => if x17 < x16 then ((slices_Repeat_int64_int64.f (([1000000] : List Int)) x0).bind fun t336 => (if 0 ≤ x17 then (if x17 < (t336.length : Int) then (if x6.length < 5864062014805 then (impl_tightest.l0 k x0 x1 (x6 ++ [(t336.set (x17 : Int).toNat 0)]) x16 (wrap64 (x17 + 1))) else (none)) else (none)) else (none))) else (impl_tightest.l1 k x6 x1 (x1.length : Int) 0)
def impl_tightest.l1 : Nat → List (List Int) → List (S45) → Int → Int → Option ((List (List Int)) × Bool)
 | 0, _, _, _, _ => none
 | k + 1, x6, x31, x32, x33 => if x33 < x32 then (if 0 ≤ x33 then (if x33 < (x31.length : Int) then (if 0 ≤ ((rd_T45 x31 x33).f0) then (if ((rd_T45 x31 x33).f0) < (x6.length : Int) then (if 0 ≤ ((rd_T45 x31 x33).f1) then (if ((rd_T45 x31 x33).f1) < ((rd_L8 x6 ((rd_T45 x31 x33).f0)).length : Int) then (impl_tightest.l1 k (x6.set (((rd_T45 x31 x33).f0) : Int).toNat ((rd_L8 x6 ((rd_T45 x31 x33).f0)).set (((rd_T45 x31 x33).f1) : Int).toNat (mn (rd (rd_L8 x6 ((rd_T45 x31 x33).f0)) ((rd_T45 x31 x33).f1)) ((rd_T45 x31 x33).f2)))) x31 x32 (wrap64 (x33 + 1))) else (none)) else (none)) else (none)) else (none)) else (none)) else (none)) else (impl_tightest.l2 k x6 (x6.length : Int) 0)
def impl_tightest.l2 : Nat → List (List Int) → Int → Int → Option ((List (List Int)) × Bool)
 | 0, _, _, _ => none
 | k + 1, x6, x59, x60 => if x60 < x59 then (impl_tightest.l3 k x6 x60 x59 x60 (x6.length : Int) 0) else (impl_tightest.l5 k x6 (x6.length : Int) 0)
def impl_tightest.l3 : Nat → List (List Int) → Int → Int → Int → Int → Int → Option ((List (List Int)) × Bool)
 | 0, _, _, _, _, _, _ => none
 | k + 1, x6, x11, x59, x60, x64, x65 => if x65 < x64 then (impl_tightest.l4 k x6 x11 x65 x59 x60 x64 x65 (x6.length : Int) 0) else (impl_tightest.l2 k x6 x59 (wrap64 (x60 + 1)))
def impl_tightest.l4 : Nat → List (List Int) → Int → Int → Int → Int → Int → Int → Int → Int → Option ((List (List Int)) × Bool)
 | 0, _, _, _, _, _, _, _, _, _ => none
 | k + 1, x6, x11, x12, x59, x60, x64, x65, x69, x70 => if x70 < x69 then (if 0 ≤ x12 then (if x12 < (x6.length : Int) then (if 0 ≤ x11 then (if x11 < ((rd_L8 x6 x12).length : Int) then (if (rd (rd_L8 x6 x12) x11) < 1000000 then (if x11 < (x6.length : Int) then (if 0 ≤ x70 then (if x70 < ((rd_L8 x6 x11).length : Int) then (if (rd (rd_L8 x6 x11) x70) < 1000000 then (if x70 < ((rd_L8 x6 x12).length : Int) then (impl_tightest.l4 k (x6.set (x12 : Int).toNat ((rd_L8 x6 x12).set (x70 : Int).toNat (mn (rd (rd_L8 x6 x12) x70) (wrap64 ((rd (rd_L8 x6 x12) x11) + (rd (rd_L8 x6 x11) x70)))))) x11 x12 x59 x60 x64 x65 x69 (wrap64 (x70 + 1))) else (none)) else (impl_tightest.l4 k x6 x11 x12 x59 x60 x64 x65 x69 (wrap64 (x70 + 1)))) else (none)) else (none)) else (none)) else (impl_tightest.l4 k x6 x11 x12 x59 x60 x64 x65 x69 (wrap64 (x70 + 1)))) else (none)) else (none)) else (none)) else (none)) else (impl_tightest.l3 k x6 x11 x59 x60 x64 (wrap64 (x65 + 1)))
def impl_tightest.l5 : Nat → List (List Int) → Int → Int → Option ((List (List Int)) × Bool)
 | 0, _, _, _ => none
 | k + 1, x6, x124, x125 => if x125 < x124 then (if 0 ≤ x125 then (if x125 < (x6.length : Int) then (if x125 < ((rd_L8 x6 x125).length : Int) then (if (rd (rd_L8 x6 x125) x125) < 0 then (some (([] : List (List Int)), false)) else (impl_tightest.l5 k x6 x124 (wrap64 (x125 + 1)))) else (none)) else (none)) else (none)) else (some (x6, true))
end
def impl_tightest.f (k : Nat) (a0 : Int) (l1 : List (S45)) : Option ((List (List Int)) × Bool) := impl_tightest.l0 k a0 l1 (([] : List (List Int))) a0 0
theorem impl_tightest.mono_l : ∀ k, (∀ y0 y1 y2 y3 y4, LeO (impl_tightest.l0 k y0 y1 y2 y3 y4) (impl_tightest.l0 (k + 1) y0 y1 y2 y3 y4)) ∧ (∀ y0 y1 y2 y3, LeO (impl_tightest.l1 k y0 y1 y2 y3) (impl_tightest.l1 (k + 1) y0 y1 y2 y3)) ∧ (∀ y0 y1 y2, LeO (impl_tightest.l2 k y0 y1 y2) (impl_tightest.l2 (k + 1) y0 y1 y2)) ∧ (∀ y0 y1 y2 y3 y4 y5, LeO (impl_tightest.l3 k y0 y1 y2 y3 y4 y5) (impl_tightest.l3 (k + 1) y0 y1 y2 y3 y4 y5)) ∧ (∀ y0 y1 y2 y3 y4 y5 y6 y7 y8, LeO (impl_tightest.l4 k y0 y1 y2 y3 y4 y5 y6 y7 y8) (impl_tightest.l4 (k + 1) y0 y1 y2 y3 y4 y5 y6 y7 y8)) ∧ (∀ y0 y1 y2, LeO (impl_tightest.l5 k y0 y1 y2) (impl_tightest.l5 (k + 1) y0 y1 y2))
 | 0 => ⟨fun _ _ _ _ _ r h => by simp [impl_tightest.l0] at h, fun _ _ _ _ r h => by simp [impl_tightest.l1] at h, fun _ _ _ r h => by simp [impl_tightest.l2] at h, fun _ _ _ _ _ _ r h => by simp [impl_tightest.l3] at h, fun _ _ _ _ _ _ _ _ _ r h => by simp [impl_tightest.l4] at h, fun _ _ _ r h => by simp [impl_tightest.l5] at h⟩
 | k + 1 => by
  obtain ⟨ih0, ih1, ih2, ih3, ih4, ih5⟩ := impl_tightest.mono_l k
  refine ⟨?_, ?_, ?_, ?_, ?_, ?_⟩
  ·intro y0 y1 y2 y3 y4
   unfold impl_tightest.l0
   repeat' first
   | (with_reducible exact ih0 _ _ _ _ _)
   | (with_reducible exact ih1 _ _ _ _)
   | (with_reducible exact ih2 _ _ _)
   | (with_reducible exact ih3 _ _ _ _ _ _)
   | (with_reducible exact ih4 _ _ _ _ _ _ _ _ _)
   | (with_reducible exact ih5 _ _ _)
   | (with_reducible exact LeO.refl _)
   | (with_reducible exact LeO.none _)
   | (with_reducible refine LeO.ite ?_ ?_)
   | (with_reducible refine LeO.bind ?_ (fun _ => ?_))
   | exact ih0 _ _ _ _ _
   | exact ih1 _ _ _ _
   | exact ih2 _ _ _
   | exact ih3 _ _ _ _ _ _
   | exact ih4 _ _ _ _ _ _ _ _ _
   | exact ih5 _ _ _
   | exact LeO.none _
   | refine LeO.ite ?_ ?_
   | refine LeO.bind ?_ (fun _ => ?_)
  ·intro y0 y1 y2 y3
   unfold impl_tightest.l1
   repeat' first
   | (with_reducible exact ih0 _ _ _ _ _)
   | (with_reducible exact ih1 _ _ _ _)
   | (with_reducible exact ih2 _ _ _)
   | (with_reducible exact ih3 _ _ _ _ _ _)
   | (with_reducible exact ih4 _ _ _ _ _ _ _ _ _)
   | (with_reducible exact ih5 _ _ _)
   | (with_reducible exact LeO.refl _)
   | (with_reducible exact LeO.none _)
   | (with_reducible refine LeO.ite ?_ ?_)
   | (with_reducible refine LeO.bind ?_ (fun _ => ?_))
   | exact ih0 _ _ _ _ _
   | exact ih1 _ _ _ _
   | exact ih2 _ _ _
   | exact ih3 _ _ _ _ _ _
   | exact ih4 _ _ _ _ _ _ _ _ _
   | exact ih5 _ _ _
   | exact LeO.none _
   | refine LeO.ite ?_ ?_
   | refine LeO.bind ?_ (fun _ => ?_)
  ·intro y0 y1 y2
   unfold impl_tightest.l2
   repeat' first
   | (with_reducible exact ih0 _ _ _ _ _)
   | (with_reducible exact ih1 _ _ _ _)
   | (with_reducible exact ih2 _ _ _)
   | (with_reducible exact ih3 _ _ _ _ _ _)
   | (with_reducible exact ih4 _ _ _ _ _ _ _ _ _)
   | (with_reducible exact ih5 _ _ _)
   | (with_reducible exact LeO.refl _)
   | (with_reducible exact LeO.none _)
   | (with_reducible refine LeO.ite ?_ ?_)
   | (with_reducible refine LeO.bind ?_ (fun _ => ?_))
   | exact ih0 _ _ _ _ _
   | exact ih1 _ _ _ _
   | exact ih2 _ _ _
   | exact ih3 _ _ _ _ _ _
   | exact ih4 _ _ _ _ _ _ _ _ _
   | exact ih5 _ _ _
   | exact LeO.none _
   | refine LeO.ite ?_ ?_
   | refine LeO.bind ?_ (fun _ => ?_)
  ·intro y0 y1 y2 y3 y4 y5
   unfold impl_tightest.l3
   repeat' first
   | (with_reducible exact ih0 _ _ _ _ _)
   | (with_reducible exact ih1 _ _ _ _)
   | (with_reducible exact ih2 _ _ _)
   | (with_reducible exact ih3 _ _ _ _ _ _)
   | (with_reducible exact ih4 _ _ _ _ _ _ _ _ _)
   | (with_reducible exact ih5 _ _ _)
   | (with_reducible exact LeO.refl _)
   | (with_reducible exact LeO.none _)
   | (with_reducible refine LeO.ite ?_ ?_)
   | (with_reducible refine LeO.bind ?_ (fun _ => ?_))
   | exact ih0 _ _ _ _ _
   | exact ih1 _ _ _ _
   | exact ih2 _ _ _
   | exact ih3 _ _ _ _ _ _
   | exact ih4 _ _ _ _ _ _ _ _ _
   | exact ih5 _ _ _
   | exact LeO.none _
   | refine LeO.ite ?_ ?_
   | refine LeO.bind ?_ (fun _ => ?_)
  ·intro y0 y1 y2 y3 y4 y5 y6 y7 y8
   unfold impl_tightest.l4
   repeat' first
   | (with_reducible exact ih0 _ _ _ _ _)
   | (with_reducible exact ih1 _ _ _ _)
   | (with_reducible exact ih2 _ _ _)
   | (with_reducible exact ih3 _ _ _ _ _ _)
   | (with_reducible exact ih4 _ _ _ _ _ _ _ _ _)
   | (with_reducible exact ih5 _ _ _)
   | (with_reducible exact LeO.refl _)
   | (with_reducible exact LeO.none _)
   | (with_reducible refine LeO.ite ?_ ?_)
   | (with_reducible refine LeO.bind ?_ (fun _ => ?_))
   | exact ih0 _ _ _ _ _
   | exact ih1 _ _ _ _
   | exact ih2 _ _ _
   | exact ih3 _ _ _ _ _ _
   | exact ih4 _ _ _ _ _ _ _ _ _
   | exact ih5 _ _ _
   | exact LeO.none _
   | refine LeO.ite ?_ ?_
   | refine LeO.bind ?_ (fun _ => ?_)
  ·intro y0 y1 y2
   unfold impl_tightest.l5
   repeat' first
   | (with_reducible exact ih0 _ _ _ _ _)
   | (with_reducible exact ih1 _ _ _ _)
   | (with_reducible exact ih2 _ _ _)
   | (with_reducible exact ih3 _ _ _ _ _ _)
   | (with_reducible exact ih4 _ _ _ _ _ _ _ _ _)
   | (with_reducible exact ih5 _ _ _)
   | (with_reducible exact LeO.refl _)
   | (with_reducible exact LeO.none _)
   | (with_reducible refine LeO.ite ?_ ?_)
   | (with_reducible refine LeO.bind ?_ (fun _ => ?_))
   | exact ih0 _ _ _ _ _
   | exact ih1 _ _ _ _
   | exact ih2 _ _ _
   | exact ih3 _ _ _ _ _ _
   | exact ih4 _ _ _ _ _ _ _ _ _
   | exact ih5 _ _ _
   | exact LeO.none _
   | refine LeO.ite ?_ ?_
   | refine LeO.bind ?_ (fun _ => ?_)
theorem impl_tightest.mono : ∀ a0 a1 k, LeO (impl_tightest.f k a0 a1) (impl_tightest.f (k + 1) a0 a1) := by
 intro a0 a1 k
 obtain ⟨ih0, ih1, ih2, ih3, ih4, ih5⟩ := impl_tightest.mono_l k
 unfold impl_tightest.f
 repeat' first
   | (with_reducible exact ih0 _ _ _ _ _)
   | (with_reducible exact ih1 _ _ _ _)
   | (with_reducible exact ih2 _ _ _)
   | (with_reducible exact ih3 _ _ _ _ _ _)
   | (with_reducible exact ih4 _ _ _ _ _ _ _ _ _)
   | (with_reducible exact ih5 _ _ _)
   | (with_reducible exact LeO.refl _)
   | (with_reducible exact LeO.none _)
   | (with_reducible refine LeO.ite ?_ ?_)
   | (with_reducible refine LeO.bind ?_ (fun _ => ?_))
   | exact ih0 _ _ _ _ _
   | exact ih1 _ _ _ _
   | exact ih2 _ _ _
   | exact ih3 _ _ _ _ _ _
   | exact ih4 _ _ _ _ _ _ _ _ _
   | exact ih5 _ _ _
   | exact LeO.none _
   | refine LeO.ite ?_ ?_
   | refine LeO.bind ?_ (fun _ => ?_)
def impl_tightest.T12 : Bool × List (List Nat × List Nat) := (true, [([], []), ([], []), ([1], [1]), ([0, 2], [0, 2]), ([3], [3]), ([], []), ([5], [5]), ([], []), ([], []), ([8], [8]), ([7, 9], [7, 9]), ([10], [10]), ([], []), ([12], [12]), ([11, 13], [11, 13]), ([14], [14]), ([], []), ([16], [16]), ([15, 17], [15, 17]), ([4, 6, 0, 1, 2, 3, 4, 5, 6, 7, 8, 9, 10, 11, 12, 13, 14, 15, 16, 17, 18], [4, 6]), ([19, 18, 0, 1, 2, 3, 4, 5, 6, 7, 8, 9, 10, 11, 12, 13, 14, 15, 16, 17, 18], [18, 19])])
def impl_tightest.B12 : List Nat := [0, 0, 2, 7, 15, 0, 32, 0, 0, 256, 896, 1920, 0, 4096, 16256, 32640, 0, 65536, 262016, 524287, 1048575]
theorem impl_tightest.tab12 : rtab .any (opsOf Try.f66 12) = impl_tightest.T12 := by kernel_rfl
theorem impl_tightest.bits12 : waitsOk impl_tightest.T12.2 impl_tightest.B12 = true := by kernel_rfl
def impl_tightest.T24 : Bool × List (List Nat × List Nat) := (true, [([], []), ([], []), ([0, 1], [0, 1]), ([2], [2]), ([], []), ([], []), ([], []), ([5, 6], [5, 6]), ([7], [7]), ([], []), ([8, 9], [8, 9]), ([10], [10]), ([], []), ([], []), ([12, 13], [12, 13]), ([14], [14]), ([], []), ([15, 16], [15, 16]), ([17], [17]), ([], []), ([], []), ([19, 20], [19, 20]), ([21], [21]), ([], []), ([22, 23], [22, 23]), ([24], [24]), ([18, 25], [18, 25]), ([11, 26], [11, 26]), ([3, 4, 0, 1, 2, 3, 4, 5, 6, 7, 8, 9, 10, 11, 12, 13, 14, 15, 16, 17, 18, 19, 20, 21, 22, 23, 24, 25, 26, 27], [3, 4]), ([28, 27, 0, 1, 2, 3, 4, 5, 6, 7, 8, 9, 10, 11, 12, 13, 14, 15, 16, 17, 18, 19, 20, 21, 22, 23, 24, 25, 26, 27], [27, 28])])
def impl_tightest.B24 : List Nat := [0, 0, 3, 7, 0, 0, 0, 96, 224, 0, 992, 2016, 0, 0, 12288, 28672, 0, 126976, 258048, 0, 0, 1572864, 3670016, 0, 16252928, 33030144, 67104768, 134217696, 268435455, 536870911]
theorem impl_tightest.tab24 : rtab .any (opsOf Try.f66 24) = impl_tightest.T24 := by kernel_rfl
theorem impl_tightest.bits24 : waitsOk impl_tightest.T24.2 impl_tightest.B24 = true := by kernel_rfl
set_option maxHeartbeats 8000000 in
set_option maxRecDepth 100000 in
theorem impl_tightest.calls (k : Nat) (a0 : Int) (A1 : Option Addr) (c1 : Nat) (l1 : List (S45)) (r1 : List (List Int)) (r2 : Bool) (w : World) (hr1 : Kd.C k45 w A1 l1.length l1) (hc1 : l1.length ≤ c1) (h : impl_tightest.f k a0 l1 = some (r1, r2)) :
  Calls Try.prog 66 #[.int .i64 a0, .slice A1 l1.length c1] w fun e w' => ∃ v0_ : Value, e = .returned (.tuple #[v0_, .bool r2]) ∧ Kd.S (Kd.slice 2 (Kd.int .i64)) 33 w' w.heap.size (fun _ => True) v0_ r1 ∧ Below w.heap.size w w' := by
 have hu45 := Try.underlying45
 have HR1 := Aside0.mk hr1
 have HC1 := Aside0.mk hc1
 clear hr1 hc1
 have HB := Aside0.mk (Below.refl w.heap.size w)
 have H : (impl_tightest.l0 k a0 l1 (([] : List (List Int))) a0 0) = some (r1, r2) := h
 clear h
 obtain ⟨y330, hy330⟩ : ∃ y_ : List (List Int), y_ = (([] : List (List Int))) := ⟨_, rfl⟩
 replace H : (impl_tightest.l0 k a0 l1 y330 a0 0) = some (r1, r2) := by first | (rw [hy330]; with_reducible exact H) | (have H2_ := (Option.bind_some _ _).symm.trans H; rw [hy330]; with_reducible exact H2_) | (have H2_ := (Option.bind_some _ _).symm.trans H; with_reducible exact H2_) | with_reducible exact H | (rw [hy330]; exact H) | exact H
 have Ny330 := Aside0.mk hy330
 clear hy330
 have H' := Aside0.mk H
 clear H
 go_enter Try.func66, Try.ntmps66
 go_wp2_with (first | ((with_reducible refine gate_dst (N := 15) rfl ?_); refine Kd.S_lit (Kd.slice 2 (Kd.int .i64)) _ 33 ?hg (N := 15) ?hd (xs := ([] : List (List Int))) (inner := []) (ok := fun _ => True) (okp := fun _ => True) ?hr ?hp (fun _ hk => hk) trivial (Below.refl _ _) (Nat.le_refl _) (by simp) ?_; (case hd => rfl); (case hg => rfl); (case hr => first | (go_simp; done) | (go_simp; rfl)); (case hp => exact (Reps.none _ _)); intro v331 w3 ho4 hb hg_ hnew_; clear hg_ hnew_; (first | rw [← Ny330.out] at ho4 | (simp only [Int.reduceToNat] at ho4; rw [← Ny330.out] at ho4)); have n0_ := Aside0.mk (Kd.S_lower ho4 (below_size (by repeat (first | (with_reducible first | exact HB.out | apply below_alloc | apply pw_below_drewN | apply below_drew1) | exact HB.out)))); have n1_ := Aside0.mk (below_step (by repeat (first | (with_reducible first | exact HB.out | apply below_alloc | apply pw_below_drewN | apply below_drew1) | exact HB.out)) hb); clear HB; have HO332 := n0_; have HB := n1_; clear n0_ n1_; clear hb ho4))
 go_loopg [6, 17] k (fun kq v6 v17 w' => ∃ (x6_1 : List (List Int)) (x17_1 : Int), v17 = .int .i64 x17_1 ∧ Aside0 (impl_tightest.l0 kq a0 l1 x6_1 a0 x17_1 = some (r1, r2)) ∧ Aside0 (kq ≤ k) ∧ Aside0 (Kd.S (Kd.slice 2 (Kd.int .i64)) 33 w' w.heap.size (fun _ => True) v6 x6_1) ∧ Aside0 (Below w.heap.size w w'))
 case atStart => exact ⟨(y330), (0), (by first | rfl | (simp; done) | (simp [*]; done)), H', ⟨Nat.le_refl _⟩, ⟨by (with_reducible repeat (first | apply Kd.S_alloc | apply Kd.S_drewN | apply Kd.S_drew)); exact HO332.out⟩, ⟨by repeat (first | (with_reducible first | exact HB.out | apply below_alloc | apply pw_below_drewN | apply below_drew1) | exact HB.out)⟩⟩
 case round =>
  clear H'
  try clear c1
  try clear p2
  obtain ⟨x6_1, x17_1, rfl, HA, HK1, HO_6, HB⟩ := hrel
  cases gk with
  | zero => exact absurd HA.out (by simp [impl_tightest.l0])
  | succ k1 =>
   have H := HA.out
   clear HA
   simp only [impl_tightest.l0] at H
   by_cases c5 : x17_1 < a0
   ·rw [if_pos c5] at H
    have c5b0 : decide (x17_1 < a0) = true := decide_eq_true c5
    clear c5
    obtain ⟨y333, hy333⟩ : ∃ y_ : List Int, y_ = (([1000000] : List Int)) := ⟨_, rfl⟩
    replace H : ((slices_Repeat_int64_int64.f y333 a0).bind fun t336 => (if 0 ≤ x17_1 then (if x17_1 < (t336.length : Int) then (if x6_1.length < 5864062014805 then (impl_tightest.l0 k1 a0 l1 (x6_1 ++ [(t336.set (x17_1 : Int).toNat 0)]) a0 (wrap64 (x17_1 + 1))) else (none)) else (none)) else (none))) = some (r1, r2) := by first | (rw [hy333]; with_reducible exact H) | (have H2_ := (Option.bind_some _ _).symm.trans H; rw [hy333]; with_reducible exact H2_) | (have H2_ := (Option.bind_some _ _).symm.trans H; with_reducible exact H2_) | with_reducible exact H | (rw [hy333]; exact H) | exact H
    have Ny333 := Aside0.mk hy333
    clear hy333
    replace H := Option.bind_eq_some_iff.mp H
    obtain ⟨t336, A60, H⟩ := H
    replace H : (if 0 ≤ x17_1 then (if x17_1 < (t336.length : Int) then (if x6_1.length < 5864062014805 then (impl_tightest.l0 k1 a0 l1 (x6_1 ++ [(t336.set (x17_1 : Int).toNat 0)]) a0 (wrap64 (x17_1 + 1))) else (none)) else (none)) else (none)) = some (r1, r2) := H
    have A6 := Aside0.mk A60
    clear A60
    by_cases c7 : 0 ≤ x17_1
    ·rw [if_pos c7] at H
     have c7b0 : decide (0 ≤ x17_1) = true := decide_eq_true c7
     clear c7
     by_cases c8 : x17_1 < (t336.length : Int)
     ·rw [if_pos c8] at H
      have c8b0 : decide (x17_1 < (t336.length : Int)) = true := decide_eq_true c8
      clear c8
      obtain ⟨y339, hy339⟩ : ∃ y_ : List Int, y_ = (t336.set (x17_1 : Int).toNat 0) := ⟨_, rfl⟩
      replace H : (if x6_1.length < 5864062014805 then (impl_tightest.l0 k1 a0 l1 (x6_1 ++ [y339]) a0 (wrap64 (x17_1 + 1))) else (none)) = some (r1, r2) := by first | (rw [hy339]; with_reducible exact H) | (have H2_ := (Option.bind_some _ _).symm.trans H; rw [hy339]; with_reducible exact H2_) | (have H2_ := (Option.bind_some _ _).symm.trans H; with_reducible exact H2_) | with_reducible exact H | (rw [hy339]; exact H) | exact H
      have Ny339 := Aside0.mk hy339
      clear hy339
      by_cases c10 : x6_1.length < 5864062014805
      ·rw [if_pos c10] at H
       have LMc10 := Aside0.mk c10
       clear c10
       obtain ⟨y340, hy340⟩ : ∃ y_ : List (List Int), y_ = (x6_1 ++ [y339]) := ⟨_, rfl⟩
       replace H : (impl_tightest.l0 k1 a0 l1 y340 a0 (wrap64 (x17_1 + 1))) = some (r1, r2) := by first | (rw [hy340]; with_reducible exact H) | (have H2_ := (Option.bind_some _ _).symm.trans H; rw [hy340]; with_reducible exact H2_) | (have H2_ := (Option.bind_some _ _).symm.trans H; with_reducible exact H2_) | with_reducible exact H | (rw [hy340]; exact H) | exact H
       have Ny340 := Aside0.mk hy340
       clear hy340
       have H' := Aside0.mk H
       clear H
       go_wp2_with (first | ((with_reducible refine gate_dst (N := 20) rfl ?_); refine Kd.R_lit (Kd.int .i64) _ 2 ?hg (N := 20) ?hd (xs := ([1000000] : List Int)) (inner := [.int .i64 1000000]) (ok := fun _ => True) (okp := fun _ => True) ?hr ?hp (fun _ hk => hk) trivial (Below.refl _ _) (Nat.le_refl _) (by simp) ?_; (case hd => rfl); (case hg => rfl); (case hr => first | (go_simp; done) | (go_simp; rfl)); (case hp => exact (Reps.one (show Kd.M (Kd.int .i64) _ _ _ 1000000 [.int .i64 1000000] from rfl) (Reps.none _ _))); intro v334 w11 ho12 hb hg_ hnew_; clear hg_ hnew_; (first | rw [← Ny333.out] at ho12 | (simp only [Int.reduceToNat] at ho12; rw [← Ny333.out] at ho12)); have n0_ := Aside0.mk (Kd.S_elder' (by (with_reducible repeat (first | apply Kd.S_alloc | apply Kd.S_drewN | apply Kd.S_drew)); exact HO_6.out) (Kd.R_base ho12) hb); have n1_ := Aside0.mk (Kd.R_lower ho12 (below_size (by repeat (first | (with_reducible first | exact HB.out | apply below_alloc | apply pw_below_drewN | apply below_drew1) | exact HB.out)))); have n2_ := Aside0.mk (below_step (by repeat (first | (with_reducible first | exact HB.out | apply below_alloc | apply pw_below_drewN | apply below_drew1) | exact HB.out)) hb); clear HO_6; clear HB; have HO_6 := n0_; have HO335 := n1_; have HB := n2_; clear n0_ n1_ n2_; clear hb ho12; obtain ⟨Ao13, co13, eo13⟩ := Kd.R_slice HO335.out; subst eo13) | ((with_reducible refine gate_callee (f := 77) rfl ?_); refine goesL_ (some 22) rfl rfl Try.func77 (by kernel_rfl) rfl #[.slice Ao13 y333.length co13, .int .i64 a0] rfl (by (try simp only [List.map_toArray, List.map_cons, List.map_nil]); first | done | rfl | (simp only [List.length_drop, List.length_take]; rfl)) ?_; (with_reducible refine (slices_Repeat_int64_int64.calls _ _ y333 a0 t336 _ ?side1 ?side2 A6.out).mono ?_); (case side1 => repeat (first | exact (Kd.R_reads' HO335.out).2.2 | (with_reducible refine Kd.C_alloc ?_ _) | (with_reducible refine Kd.C_drewN ?_ _) | (with_reducible refine Kd.C_drew ?_))); (case side2 => exact (Kd.R_reads' HO335.out).2.1); rintro e w14 ⟨v337, rfl, ho0, hb⟩; refine ⟨_, rfl, ?_⟩; have n0_ := Aside0.mk (Kd.S_elder' (by (with_reducible repeat (first | apply Kd.S_alloc | apply Kd.S_drewN | apply Kd.S_drew)); exact HO_6.out) (Kd.R_base ho0) hb); have n1_ := Aside0.mk (Kd.R_elder' (by (with_reducible repeat (first | apply Kd.R_alloc | apply Kd.R_drewN | apply Kd.R_drew)); exact HO335.out) (Kd.R_base ho0) hb); have n2_ := Aside0.mk (Kd.R_lower (Kd.R_new' ho0 (Kd.R_lt (by (with_reducible repeat (first | apply Kd.R_alloc | apply Kd.R_drewN | apply Kd.R_drew)); exact HO335.out))) (below_size (by repeat (first | (with_reducible first | exact HB.out | apply below_alloc | apply pw_below_drewN | apply below_drew1) | exact HB.out)))); have n3_ := Aside0.mk (below_step (by repeat (first | (with_reducible first | exact HB.out | apply below_alloc | apply pw_below_drewN | apply below_drew1) | exact HB.out)) hb); clear HO_6; clear HO335; clear HB; have HO_6 := n0_; have HO335 := n1_; have HO338 := n2_; have HB := n3_; clear n0_ n1_ n2_ n3_; (try clear hb); (try clear hb2); (try clear hk); (try clear hi); (try clear ho0); have p9 : 0 ≤ (x17_1 : Int) := of_decide_eq_true (by with_reducible assumption); have q9 : (x17_1 : Int) < ((t336.length : Int) : Int) := of_decide_eq_true (by with_reducible assumption); obtain ⟨go9, co9, eo9, gb9, gl9, cl9, HG9⟩ := Kd.R_form HO338.out (by omega); (first | cases eo9 | (injection eo9 with ea_ en_ ec_; (first | subst ea_ | (injection ea_ with ea_; subst ea_)); subst ec_; clear en_)); have GB9 := Aside0.mk gb9; have GG9 := Aside0.mk HG9; clear gb9 gl9 HG9; obtain ⟨hx9_0, hf9_0⟩ := Kd.R_celln 0 HO338.out (x17_1 : Int) p9 q9; replace p9 := eq_true p9; replace q9 := eq_true q9; have n_ := Aside0.mk (Kd.R_mono (ok' := (fun k_ => some k_ ≠ (.slice Ao13 y333.length co13 : Value).ownBlock)) HO338.out (fun k_ hk => hk.2)); clear HO338; have HO338 := n_; clear n_; obtain ⟨hy15_, hz15_⟩ := Kd.R_celln 0 HO338.out (x17_1 : Int) (of_decide_eq_true (by with_reducible assumption)) (of_decide_eq_true (by with_reducible assumption)); have HP15 := Kd.R_putg HO338.out (x17_1 : Int) 0) | ((with_reducible refine gate_store (t := 2) (p := 25) rfl ?_); refine store_event (t := 2) (p := 25) (v := ?vo_w16) (w1 := (w14.setCell ⟨go9, (x17_1 : Int).toNat, none⟩ (.int .i64 0))) ?hg ?ho ?hn ?hr ?_; (case ho => rfl); (case hg => rfl); (case hn => rfl); (case hr => first | (go_simp; done) | (go_simp; rfl)); intro w16 hw; have hg : w14.grownBy w16 (some go9) := (by rw [hw]; exact HP15.2); have hp_ : Kd.R (Kd.int .i64) 2 w16 w.heap.size (fun k_ => some k_ ≠ (.slice Ao13 y333.length co13 : Value).ownBlock) (.slice (some ⟨go9, 0, none⟩) t336.length co9) y339 := (by rw [hw, Ny339.out]; exact HP15.1); clear HP15; have n0_ := Aside0.mk (Kd.S_after (v := (.slice (some ⟨go9, 0, none⟩) t336.length co9)) (v1 := (.slice (some ⟨go9, 0, none⟩) t336.length co9)) (ok := (fun k_ => some k_ ≠ (.slice Ao13 y333.length co13 : Value).ownBlock)) (by (with_reducible repeat (first | apply Kd.S_alloc | apply Kd.S_drewN | apply Kd.S_drew)); exact Kd.S_mono HO_6.out (fun _ hk => ⟨hk.1.2, hk.2⟩)) hg (.inl rfl)); have n1_ := Aside0.mk (Kd.R_after (v := (.slice (some ⟨go9, 0, none⟩) t336.length co9)) (v1 := (.slice (some ⟨go9, 0, none⟩) t336.length co9)) (ok := (fun _ => True)) (by (with_reducible repeat (first | apply Kd.R_alloc | apply Kd.R_drewN | apply Kd.R_drew)); exact HO335.out) hg (.inl rfl)); have n2_ := Aside0.mk (hp_); have n3_ := Aside0.mk ((by rw [hw]; exact below_set (HB.out) GB9.out : Below w.heap.size w w16)); clear HO_6; clear HO335; clear HO338; clear HB; have HO_6 := n0_; have HO335 := n1_; have HO338 := n2_; have HB := n3_; clear n0_ n1_ n2_ n3_; clear hg hw hp_) | ((with_reducible refine gate_builtin (b := .append) (xs := #[.tmp 26, .tmp 28]) rfl ?_); at_builtin; refine Kd.S_append (Kd.slice 2 (Kd.int .i64)) (w0 := w) w.heap.size rfl (.tmp 26) (.tmp 28) 55 33 (.slice none 0 0) 24 rfl Try.underlying55 info33 rfl (by decide) (by omega) u6 x6_1 y339 [.slice (some ⟨go9, 0, none⟩) t336.length co9] (fun k_ => some k_ ≠ (.slice Ao13 y333.length co13 : Value).ownBlock) (fun k_ => some k_ = (.slice (some ⟨go9, 0, none⟩) t336.length co9 : Value).ownBlock) rfl rfl ?aP (fun k_ hk_ => ((Kd.R_mono (ok' := fun k_ => ((fun k_ => some k_ ≠ (.slice Ao13 y333.length co13 : Value).ownBlock)) k_ ∧ some k_ ≠ (u6 : Value).ownBlock) (Kd.R_apart' (HO338.out) (Kd.S_typed HO_6.out) (by decide)) (fun k_ hk => ⟨hk.1, hk.2⟩))).1 k_ hk_.symm) ?aF ?aO ?aB ?aS ?aL ?_; (case aP => exact Kd.M_row (Kd.R_mono (Kd.R_tight rfl (Kd.R_mono (ok' := fun k_ => ((fun k_ => some k_ ≠ (.slice Ao13 y333.length co13 : Value).ownBlock)) k_ ∧ some k_ ≠ (u6 : Value).ownBlock) (Kd.R_apart' (HO338.out) (Kd.S_typed HO_6.out) (by decide)) (fun k_ hk => ⟨hk.1, hk.2⟩))) (fun _ h_ => h_))); (case aB => exact (by repeat (first | (with_reducible first | exact HB.out | apply below_alloc | apply pw_below_drewN | apply below_drew1) | exact HB.out))); (case aF => exact (fun k_ hk => Kd.fresh' (Kd.R_lt (by (with_reducible repeat (first | apply Kd.R_alloc | apply Kd.R_drewN | apply Kd.R_drew)); exact HO335.out)) k_ hk)); (case aO => exact (by (with_reducible repeat (first | apply Kd.S_alloc | apply Kd.S_drewN | apply Kd.S_drew)); exact Kd.S_mono HO_6.out (fun k_ hk => ⟨hk.1, fun e_ => hk.2 e_⟩))); (case aS => exact (below_size (by repeat (first | (with_reducible first | exact HB.out | apply below_alloc | apply pw_below_drewN | apply below_drew1) | exact HB.out)))); (case aL => have := LMc10.out; omega); intro v341 w17 ho hb hg hat; rw [← Ny340.out] at ho; have n0_ := Aside0.mk (Kd.R_over' (by (with_reducible repeat (first | apply Kd.R_alloc | apply Kd.R_drewN | apply Kd.R_drew)); exact HO335.out) (Kd.S_typed (by (with_reducible repeat (first | apply Kd.S_alloc | apply Kd.S_drewN | apply Kd.S_drew)); exact HO_6.out)) (by decide) hg); have n1_ := Aside0.mk (hb); have n2_ := Aside0.mk (ho); clear HO335; clear HB; clear HO_6; clear HO338; have HO335 := n0_; have HB := n1_; have HO342 := n2_; clear n0_ n1_ n2_; clear ho hb hg hat))
       go_roundg k1
       case measure => have := HK1.out; omega
       case rel => exact ⟨(y340), (wrap64 (x17_1 + 1)), (by first | rfl | (simp; done) | (simp [*]; done)), H', ⟨by have := HK1.out; omega⟩, ⟨by (with_reducible repeat (first | apply Kd.S_alloc | apply Kd.S_drewN | apply Kd.S_drew)); exact Kd.S_mono HO342.out (fun _ hk => trivial)⟩, ⟨by repeat (first | (with_reducible first | exact HB.out | apply below_alloc | apply pw_below_drewN | apply below_drew1) | exact HB.out)⟩⟩
      ·rw [if_neg c10] at H
       exact absurd H (by simp)
     ·rw [if_neg c8] at H
      exact absurd H (by simp)
    ·rw [if_neg c7] at H
     exact absurd H (by simp)
   ·rw [if_neg c5] at H
    have c5b0 : decide (x17_1 < a0) = false := decide_eq_false c5
    clear c5
    have H' := Aside0.mk H
    clear H
    go_wp2
    go_loopg [33] k1 (fun kq v33 w' => ∃ (x6_2 : List (List Int)) (x33_2 : Int), v33 = .int .i64 x33_2 ∧ Aside0 (impl_tightest.l1 kq x6_2 l1 (l1.length : Int) x33_2 = some (r1, r2)) ∧ Aside0 (kq ≤ k1) ∧ Aside0 (Kd.S (Kd.slice 2 (Kd.int .i64)) 33 w' w.heap.size (fun _ => True) u6 x6_2) ∧ Aside0 (Below w.heap.size w w'))
    case atStart => exact ⟨(x6_1), (0), (by first | rfl | (simp; done) | (simp [*]; done)), H', ⟨Nat.le_refl _⟩, ⟨by (with_reducible repeat (first | apply Kd.S_alloc | apply Kd.S_drewN | apply Kd.S_drew)); exact HO_6.out⟩, ⟨by repeat (first | (with_reducible first | exact HB.out | apply below_alloc | apply pw_below_drewN | apply below_drew1) | exact HB.out)⟩⟩
    case round =>
     clear H'
     try clear c1
     try clear p2
     try clear c5
     try clear c5b0
     try clear c6
     try clear p6
     try clear c7
     try clear c7b0
     try clear c8
     try clear c8b0
     try clear p9
     try clear q9
     try clear hx9
     try clear hf9
     try clear c10
     try clear hx9_0
     try clear p2
     try clear p9
     try clear q9
     obtain ⟨x6_2, x33_2, rfl, HA, HK2, HO_6, HB⟩ := hrel
     cases gk with
     | zero => exact absurd HA.out (by simp [impl_tightest.l1])
     | succ k2 =>
      have H := HA.out
      clear HA
      simp only [impl_tightest.l1] at H
      by_cases c18 : x33_2 < (l1.length : Int)
      ·rw [if_pos c18] at H
       have c18b0 : decide (x33_2 < (l1.length : Int)) = true := decide_eq_true c18
       clear c18
       by_cases c19 : 0 ≤ x33_2
       ·rw [if_pos c19] at H
        have c19b0 : decide (0 ≤ x33_2) = true := decide_eq_true c19
        clear c19
        by_cases c20 : x33_2 < (l1.length : Int)
        ·rw [if_pos c20] at H
         have c20b0 : decide (x33_2 < (l1.length : Int)) = true := decide_eq_true c20
         clear c20
         by_cases c21 : 0 ≤ ((rd_T45 l1 x33_2).f0)
         ·rw [if_pos c21] at H
          have c21b0 : decide (0 ≤ ((rd_T45 l1 x33_2).f0)) = true := decide_eq_true c21
          clear c21
          by_cases c22 : ((rd_T45 l1 x33_2).f0) < (x6_2.length : Int)
          ·rw [if_pos c22] at H
           have c22b0 : decide (((rd_T45 l1 x33_2).f0) < (x6_2.length : Int)) = true := decide_eq_true c22
           clear c22
           by_cases c23 : 0 ≤ ((rd_T45 l1 x33_2).f1)
           ·rw [if_pos c23] at H
            have c23b0 : decide (0 ≤ ((rd_T45 l1 x33_2).f1)) = true := decide_eq_true c23
            clear c23
            by_cases c24 : ((rd_T45 l1 x33_2).f1) < ((rd_L8 x6_2 ((rd_T45 l1 x33_2).f0)).length : Int)
            ·rw [if_pos c24] at H
             have c24b0 : decide (((rd_T45 l1 x33_2).f1) < ((rd_L8 x6_2 ((rd_T45 l1 x33_2).f0)).length : Int)) = true := decide_eq_true c24
             clear c24
             obtain ⟨ji25, hji25⟩ : ∃ j_ : Int, (mn (rd (rd_L8 x6_2 ((rd_T45 l1 x33_2).f0)) ((rd_T45 l1 x33_2).f1)) ((rd_T45 l1 x33_2).f2)) = j_ := ⟨_, rfl⟩
             replace H : (impl_tightest.l1 k2 (x6_2.set (((rd_T45 l1 x33_2).f0) : Int).toNat ((rd_L8 x6_2 ((rd_T45 l1 x33_2).f0)).set (((rd_T45 l1 x33_2).f1) : Int).toNat (ji25))) l1 (l1.length : Int) (wrap64 (x33_2 + 1))) = some (r1, r2) := by first | (rw [hji25] at H; exact H) | (simp only [hji25] at H ⊢; exact H)
             have hji25_ : (if ((rd_T45 l1 x33_2).f2) < (rd (rd_L8 x6_2 ((rd_T45 l1 x33_2).f0)) ((rd_T45 l1 x33_2).f1)) then ((rd_T45 l1 x33_2).f2) else (rd (rd_L8 x6_2 ((rd_T45 l1 x33_2).f0)) ((rd_T45 l1 x33_2).f1))) = ji25 := hji25
             obtain ⟨y348, hy348⟩ : ∃ y_ : List Int, y_ = ((rd_L8 x6_2 ((rd_T45 l1 x33_2).f0)).set (((rd_T45 l1 x33_2).f1) : Int).toNat (ji25)) := ⟨_, rfl⟩
             replace H : (impl_tightest.l1 k2 (x6_2.set (((rd_T45 l1 x33_2).f0) : Int).toNat y348) l1 (l1.length : Int) (wrap64 (x33_2 + 1))) = some (r1, r2) := by first | (rw [hy348]; with_reducible exact H) | (have H2_ := (Option.bind_some _ _).symm.trans H; rw [hy348]; with_reducible exact H2_) | (have H2_ := (Option.bind_some _ _).symm.trans H; with_reducible exact H2_) | with_reducible exact H | (rw [hy348]; exact H) | exact H
             have Ny348 := Aside0.mk hy348
             clear hy348
             obtain ⟨y350, hy350⟩ : ∃ y_ : List (List Int), y_ = (x6_2.set (((rd_T45 l1 x33_2).f0) : Int).toNat y348) := ⟨_, rfl⟩
             replace H : (impl_tightest.l1 k2 y350 l1 (l1.length : Int) (wrap64 (x33_2 + 1))) = some (r1, r2) := by first | (rw [hy350]; with_reducible exact H) | (have H2_ := (Option.bind_some _ _).symm.trans H; rw [hy350]; with_reducible exact H2_) | (have H2_ := (Option.bind_some _ _).symm.trans H; with_reducible exact H2_) | with_reducible exact H | (rw [hy350]; exact H) | exact H
             have Ny350 := Aside0.mk hy350
             clear hy350
             have H' := Aside0.mk H
             clear H
             have p343 : 0 ≤ (x33_2 : Int) := of_decide_eq_true (by with_reducible assumption)
             have q343 : x33_2 < (l1.length : Int) := of_decide_eq_true (by with_reducible assumption)
             obtain ⟨ad343, e343, hx343_0, hx343_1, hx343_2⟩ := at_T45 HR1.out x33_2 p343 q343
             cases e343
             replace hx343_0 := (HB.out.cell (World.block_lt_of_cell? w _ hx343_0)).trans hx343_0
             replace hx343_1 := (HB.out.cell (World.block_lt_of_cell? w _ hx343_1)).trans hx343_1
             replace hx343_2 := (HB.out.cell (World.block_lt_of_cell? w _ hx343_2)).trans hx343_2
             replace p343 := eq_true p343
             replace q343 := eq_true q343
             try go_wp2_with (first | ((with_reducible refine gate_dst (N := 10) rfl ?_); refine box_event ?hg (N := 10) ?hd (cs := #[.int .i64 0, .int .i64 0, .int .i64 0]) (t := 45) ?hr ?_; (case hd => rfl); (case hg => rfl); (case hr => first | (go_simp; done) | (go_simp; rfl)); intro gb344 hg w27 hbox hb; have n0_ := Aside0.mk (Kd.S_below (by (with_reducible repeat (first | apply Kd.S_alloc | apply Kd.S_drewN | apply Kd.S_drew)); exact HO_6.out) hb); have n1_ := Aside0.mk (below_step (by repeat (first | (with_reducible first | exact HB.out | apply below_alloc | apply pw_below_drewN | apply below_drew1) | exact HB.out)) hb); have n2_ := Aside0.mk (hbox); have n3_ := Aside0.mk ((by rw [hg]; exact (below_size (by repeat (first | (with_reducible first | exact HB.out | apply below_alloc | apply pw_below_drewN | apply below_drew1) | exact HB.out))) : w.heap.size ≤ gb344)); have n4_ := Aside0.mk ((by rw [hg]; exact (below_size (by repeat (first | (with_reducible first | exact HB.out | apply below_alloc | apply pw_below_drewN | apply below_drew1) | exact HB.out))) : w.heap.size ≤ gb344)); clear HO_6; clear HB; have HO_6 := n0_; have HB := n1_; have BK344 := n2_; have GW344 := n3_; have GE344 := n4_; clear n0_ n1_ n2_ n3_ n4_; clear hb hbox hg; have hcz28_0 : w27.cell? ⟨gb344, 0, none⟩ = some (.int .i64 0) := (blk_cell BK344.out 0).trans rfl; have hcz28_1 : w27.cell? ⟨gb344, 1, none⟩ = some (.int .i64 0) := (blk_cell BK344.out 1).trans rfl; have hcz28_2 : w27.cell? ⟨gb344, 2, none⟩ = some (.int .i64 0) := (blk_cell BK344.out 2).trans rfl; have hfz28_0 := blk_frozen BK344.out 0; have hfz28_1 := blk_frozen BK344.out 1; have hfz28_2 := blk_frozen BK344.out 2))
             have n0_ : Aside0 (Kd.S (Kd.slice 2 (Kd.int .i64)) 33 (((w27.setCell ⟨gb344, 0, none⟩ (.int .i64 ((rd_T45 l1 x33_2).f0))).setCell ⟨gb344, 1, none⟩ (.int .i64 ((rd_T45 l1 x33_2).f1))).setCell ⟨gb344, 2, none⟩ (.int .i64 ((rd_T45 l1 x33_2).f2))) w.heap.size (fun _ => True) u6 x6_2) := ⟨by (with_reducible repeat (first | apply Kd.S_alloc | apply Kd.S_drewN | apply Kd.S_drew)); exact Kd.S_mono (Kd.S_far (p := ⟨gb344, 2, none⟩) (Kd.S_far (p := ⟨gb344, 1, none⟩) (Kd.S_far (p := ⟨gb344, 0, none⟩) (Kd.S_types HO_6.out BK344.out (by decide)) (fun _ hk => hk.2) (.int .i64 ((rd_T45 l1 x33_2).f0))) (fun _ hk => hk.2) (.int .i64 ((rd_T45 l1 x33_2).f1))) (fun _ hk => hk.2) (.int .i64 ((rd_T45 l1 x33_2).f2))) (fun _ hk => trivial)⟩
             have n1_ : Aside0 ((((w27.setCell ⟨gb344, 0, none⟩ (.int .i64 ((rd_T45 l1 x33_2).f0))).setCell ⟨gb344, 1, none⟩ (.int .i64 ((rd_T45 l1 x33_2).f1))).setCell ⟨gb344, 2, none⟩ (.int .i64 ((rd_T45 l1 x33_2).f2))).heap[gb344]? = some (.cells #[.int .i64 ((rd_T45 l1 x33_2).f0), .int .i64 ((rd_T45 l1 x33_2).f1), .int .i64 ((rd_T45 l1 x33_2).f2)] 45 (0, 0))) := ⟨by (with_reducible repeat (first | refine blk_drewN ?_ _ | refine blk_drew ?_ | refine blk_alloc ?_ _)); refine blk_put (cs := #[.int .i64 ((rd_T45 l1 x33_2).f0), .int .i64 ((rd_T45 l1 x33_2).f1), .int .i64 0]) ?_ 2 _ rfl; (with_reducible repeat (first | refine blk_drewN ?_ _ | refine blk_drew ?_ | refine blk_alloc ?_ _)); refine blk_put (cs := #[.int .i64 ((rd_T45 l1 x33_2).f0), .int .i64 0, .int .i64 0]) ?_ 1 _ rfl; (with_reducible repeat (first | refine blk_drewN ?_ _ | refine blk_drew ?_ | refine blk_alloc ?_ _)); refine blk_put (cs := #[.int .i64 0, .int .i64 0, .int .i64 0]) ?_ 0 _ rfl; (with_reducible repeat (first | refine blk_drewN ?_ _ | refine blk_drew ?_ | refine blk_alloc ?_ _)); exact BK344.out⟩
             have n2_ : Aside0 (Below w.heap.size w (((w27.setCell ⟨gb344, 0, none⟩ (.int .i64 ((rd_T45 l1 x33_2).f0))).setCell ⟨gb344, 1, none⟩ (.int .i64 ((rd_T45 l1 x33_2).f1))).setCell ⟨gb344, 2, none⟩ (.int .i64 ((rd_T45 l1 x33_2).f2)))) := ⟨by repeat (first | (with_reducible first | exact HB.out | apply below_alloc | apply pw_below_drewN | apply below_drew1 | refine below_set ?_ GE344.out) | exact HB.out)⟩
             (try clear HO_6)
             (try clear BK344)
             (try clear HB)
             generalize (((w27.setCell ⟨gb344, 0, none⟩ (.int .i64 ((rd_T45 l1 x33_2).f0))).setCell ⟨gb344, 1, none⟩ (.int .i64 ((rd_T45 l1 x33_2).f1))).setCell ⟨gb344, 2, none⟩ (.int .i64 ((rd_T45 l1 x33_2).f2))) = w29 at n0_ n1_ n2_ ⊢
             have HO_6 := n0_
             have BK344 := n1_
             have HB := n2_
             clear n0_ n1_ n2_
             have n0_ := Aside0.mk (Kd.S_drew HO_6.out)
             have n1_ := Aside0.mk (blk_drew BK344.out)
             have n2_ := Aside0.mk (below_drew1 HB.out)
             clear HO_6
             clear BK344
             clear HB
             have HO_6 := n0_
             have BK344 := n1_
             have HB := n2_
             clear n0_ n1_ n2_
             obtain ⟨Ao31, co31, eo31⟩ := Kd.S_slice HO_6.out
             (first | subst eo31 | (injection eo31 with f1_ f2_ f3_; have f4_ := f1_.symm; have f5_ := f3_.symm; clear f1_ f2_ f3_; subst f4_; subst f5_))
             have p345 : 0 ≤ (((rd_T45 l1 x33_2).f0) : Int) := of_decide_eq_true (by with_reducible assumption)
             have q345 : ((rd_T45 l1 x33_2).f0) < (x6_2.length : Int) := of_decide_eq_true (by with_reducible assumption)
             obtain ⟨ad345, A345_0, c345_0, e345, hx345_0, hl345_0, hi345_0⟩ := at_L8 (Kd.S_reads' HO_6.out).2.2 ((rd_T45 l1 x33_2).f0) p345 q345
             cases e345
             obtain ⟨ce345, hce345, hMe345, hcc345⟩ := Kd.S_get HO_6.out [] ((rd_T45 l1 x33_2).f0) p345 (by first | exact q345 | exact of_decide_eq_true (by with_reducible assumption) | (have e_ := (Kd.S_reads' HO_6.out).1; omega))
             obtain ⟨ve345_0, rfl, ge345_0⟩ := hMe345
             have hv345_0 := hcc345 0 _ rfl
             rw [Nat.add_zero, show ((Kd.slice 2 (Kd.int .i64))).sz = 1 from rfl, Nat.mul_one] at hv345_0
             replace hv345_0 := Option.some.inj (hv345_0.symm.trans hx345_0)
             rw [hv345_0] at ge345_0
             have HL345_0 := Aside0.mk (show Kd.R (Kd.int .i64) 2 _ _ _ _ (rd_L8 x6_2 ((rd_T45 l1 x33_2).f0)) from ge345_0)
             clear hv345_0 ge345_0
             have HX345_0 := Aside0.mk hx345_0
             clear hcc345 hce345
             have HR345_0 := Aside0.mk hi345_0
             have HC345_0 := Aside0.mk hl345_0
             clear hi345_0 hl345_0
             replace p345 := eq_true p345
             replace q345 := eq_true q345
             have p346 : 0 ≤ (((rd_T45 l1 x33_2).f0) : Int) := of_decide_eq_true (by with_reducible assumption)
             have q346 : ((rd_T45 l1 x33_2).f0) < (x6_2.length : Int) := of_decide_eq_true (by with_reducible assumption)
             obtain ⟨ad346, A346_0, c346_0, e346, hx346_0, hl346_0, hi346_0⟩ := at_L8 (Kd.S_reads' HO_6.out).2.2 ((rd_T45 l1 x33_2).f0) p346 q346
             obtain rfl : ad345 = ad346 := (by injection e346)
             obtain ⟨ce346, hce346, hMe346, hcc346⟩ := Kd.S_get HO_6.out [] ((rd_T45 l1 x33_2).f0) p346 (by first | exact q346 | exact of_decide_eq_true (by with_reducible assumption) | (have e_ := (Kd.S_reads' HO_6.out).1; omega))
             obtain ⟨ve346_0, rfl, ge346_0⟩ := hMe346
             have hv346_0 := hcc346 0 _ rfl
             rw [Nat.add_zero, show ((Kd.slice 2 (Kd.int .i64))).sz = 1 from rfl, Nat.mul_one] at hv346_0
             replace hv346_0 := Option.some.inj (hv346_0.symm.trans hx346_0)
             rw [hv346_0] at ge346_0
             have HL346_0 := Aside0.mk (show Kd.R (Kd.int .i64) 2 _ _ _ _ (rd_L8 x6_2 ((rd_T45 l1 x33_2).f0)) from ge346_0)
             clear hv346_0 ge346_0
             have HX346_0 := Aside0.mk hx346_0
             clear hcc346 hce346
             have HR346_0 := Aside0.mk hi346_0
             have HC346_0 := Aside0.mk hl346_0
             clear hi346_0 hl346_0
             replace p346 := eq_true p346
             replace q346 := eq_true q346
             have ea_ := Option.some.inj (hx345_0.symm.trans hx346_0)
             injection ea_ with ea_ en_ ec_
             subst ea_
             subst ec_
             clear en_
             have p347 : 0 ≤ (((rd_T45 l1 x33_2).f1) : Int) := of_decide_eq_true (by with_reducible assumption)
             have q347 : ((rd_T45 l1 x33_2).f1) < ((rd_L8 x6_2 ((rd_T45 l1 x33_2).f0)).length : Int) := of_decide_eq_true (by with_reducible assumption)
             obtain ⟨ad347, e347, hx347_0⟩ := Kd.at_int (by repeat (first | (with_reducible exact HR346_0.out) | (with_reducible refine Kd.C_alloc ?_ _) | (with_reducible refine Kd.C_drewN ?_ _) | (with_reducible refine Kd.C_drew ?_) | exact HR346_0.out)) ((rd_T45 l1 x33_2).f1) p347 q347
             cases e347
             replace p347 := eq_true p347
             replace q347 := eq_true q347
             have p26 : 0 ≤ (((rd_T45 l1 x33_2).f1) : Int) := of_decide_eq_true (by with_reducible assumption)
             have q26 : (((rd_T45 l1 x33_2).f1) : Int) < (((rd_L8 x6_2 ((rd_T45 l1 x33_2).f0)).length : Int) : Int) := of_decide_eq_true (by with_reducible assumption)
             obtain ⟨go26, co26, eo26, gb26, gl26, cl26, HG26⟩ := Kd.R_form HL345_0.out (by omega)
             (first | cases eo26 | (injection eo26 with ea_ en_ ec_; (first | subst ea_ | (injection ea_ with ea_; subst ea_)); subst ec_; clear en_))
             have GB26 := Aside0.mk gb26
             have GG26 := Aside0.mk HG26
             clear gb26 gl26 HG26
             (first | simp only [add_plain] at hx347_0 | skip)
             obtain ⟨hx26_0, hf26_0⟩ := Kd.R_celln 0 HL345_0.out (((rd_T45 l1 x33_2).f1) : Int) p26 q26
             replace p26 := eq_true p26
             replace q26 := eq_true q26
             have hq32 : (((rd_T45 l1 x33_2).f0) : Int) < (x6_2.length : Int) := (by have h_ : (((rd_T45 l1 x33_2).f0) : Int) < ((x6_2.length : Int) : Int) := of_decide_eq_true (by with_reducible assumption); first | exact h_ | (have e_ := (Kd.S_reads' HO_6.out).1; omega) | simpa only [List.length_set, List.length_set] using h_)
             obtain ⟨oki32, ce32, hcl32, hM32, hcc32, hok32, hbk32⟩ := Kd.S_borrow HO_6.out [] (((rd_T45 l1 x33_2).f0) : Int) (of_decide_eq_true (by with_reducible assumption)) hq32
             obtain ⟨ve32_0, rfl, ge32_0⟩ := hM32
             have hv32 := hcc32 0 _ rfl
             rw [Nat.add_zero, show ((Kd.slice 2 (Kd.int .i64))).sz = 1 from rfl, Nat.mul_one] at hv32
             replace hv32 := Option.some.inj (hv32.symm.trans HX345_0.out)
             subst hv32
             clear hcc32 hcl32
             replace ge32_0 := (show Kd.R (Kd.int .i64) 2 _ _ _ _ (rd_L8 x6_2 ((rd_T45 l1 x33_2).f0)) from ge32_0)
             have HP32 := Kd.R_putg ge32_0 (((rd_T45 l1 x33_2).f1) : Int) ji25
             rw [← Ny348.out] at HP32
             have HS32 := hbk32 HP32.2 (fun k_ e_ => by injection e_ with e_; subst e_; exact ge32_0.1 _ rfl) (x' := y348) (Kd.M_row HP32.1)
             rw [← Ny350.out] at HS32
             have HQ32 := Aside0.mk HS32
             clear HP32 HS32 hbk32 hok32
             refine start_ (n := 21) (S := fun w' => w'.cell? ⟨gb344, 0, none⟩ = some (.int .i64 ((rd_T45 l1 x33_2).f0)) ∧ w'.cell? ⟨gb344, 1, none⟩ = some (.int .i64 ((rd_T45 l1 x33_2).f1)) ∧ w'.cell? ⟨gb344, 2, none⟩ = some (.int .i64 ((rd_T45 l1 x33_2).f2)) ∧ w'.cell? (ad345.add (((rd_T45 l1 x33_2).f0)).toNat) = some (.slice (some (⟨go26, 0, none⟩ : Addr)) (rd_L8 x6_2 ((rd_T45 l1 x33_2).f0)).length c345_0) ∧ w'.cell? (ad345.add (((rd_T45 l1 x33_2).f0)).toNat) = some (.slice (some (⟨go26, 0, none⟩ : Addr)) (rd_L8 x6_2 ((rd_T45 l1 x33_2).f0)).length c345_0) ∧ w'.cell? ((⟨go26, (((rd_T45 l1 x33_2).f1)).toNat, none⟩ : Addr)) = some (.int .i64 (rd (rd_L8 x6_2 ((rd_T45 l1 x33_2).f0)) ((rd_T45 l1 x33_2).f1)))) (ds := [20]) #[false, false, false, false, false, false, false, false, false, false, false, false, false, false, false, false, false, false, false, false, false] (by kernel_rfl) rfl rfl ⟨(blk_cell BK344.out 0).trans rfl, (blk_cell BK344.out 1).trans rfl, (blk_cell BK344.out 2).trans rfl, hx345_0, hx346_0, hx347_0⟩ (fun hHeld => ?_); refine with_tabW impl_tightest.tab12 impl_tightest.bits12 (fun HT_ HW_ => ?_)
             generalize w29.drew = w30 at HO_6 BK344 HB GG26 HL345_0 HL346_0 HQ32 HR345_0 HR346_0 HX345_0 HX346_0 hf26_0 hx26_0 hx345_0 hx346_0 hx347_0 hHeld ⊢
             refine pure_ (i := 0) (N := some 37) (v := ?_) (a' := ?_) #[true, false, false, false, false, false, false, false, false, false, false, false, false, false, false, false, false, false, false, false, false] rfl rfl (any_of HT_.out (by kernel_rfl)) (fun _ _ _ h => h) (Or.inl ⟨by rfl, ?_⟩) ?_ ?_
             rotate_left
             ·intro w'
              go_simp
              with_reducible rfl
             rotate_left
             ·simp only [Act.put, List.setIfInBounds_toArray, List.set_cons_zero, List.set_cons_succ, i64_w, i32_w]
              rfl
             refine pure_ (i := 1) (N := some 38) (v := ?_) (a' := ?_) #[true, true, false, false, false, false, false, false, false, false, false, false, false, false, false, false, false, false, false, false, false] rfl rfl (any_of HT_.out (by kernel_rfl)) (fun _ _ _ h => h) (Or.inl ⟨by rfl, ?_⟩) ?_ ?_
             rotate_left
             ·intro w'
              go_simp
              with_reducible rfl
             rotate_left
             ·simp only [Act.put, List.setIfInBounds_toArray, List.set_cons_zero, List.set_cons_succ, i64_w, i32_w]
              rfl
             refine pure_ (i := 5) (N := some 42) (v := ?_) (a' := ?_) #[true, true, false, false, false, true, false, false, false, false, false, false, false, false, false, false, false, false, false, false, false] rfl rfl (any_of HT_.out (by kernel_rfl)) (fun _ _ _ h => h) (Or.inl ⟨by rfl, ?_⟩) ?_ ?_
             rotate_left
             ·intro w'
              go_simp
              with_reducible rfl
             rotate_left
             ·simp only [Act.put, List.setIfInBounds_toArray, List.set_cons_zero, List.set_cons_succ, i64_w, i32_w]
              rfl
             refine pure_ (i := 7) (N := some 44) (v := ?_) (a' := ?_) #[true, true, false, false, false, true, false, true, false, false, false, false, false, false, false, false, false, false, false, false, false] rfl rfl (any_of HT_.out (by kernel_rfl)) (fun _ _ _ h => h) (Or.inl ⟨by rfl, ?_⟩) ?_ ?_
             rotate_left
             ·intro w'
              go_simp
              with_reducible rfl
             rotate_left
             ·simp only [Act.put, List.setIfInBounds_toArray, List.set_cons_zero, List.set_cons_succ, i64_w, i32_w]
              rfl
             refine pure_ (i := 8) (N := some 45) (v := ?_) (a' := ?_) #[true, true, false, false, false, true, false, true, true, false, false, false, false, false, false, false, false, false, false, false, false] rfl rfl (any_of HT_.out (by kernel_rfl)) (fun _ _ _ h => h) (Or.inl ⟨by rfl, ?_⟩) ?_ ?_
             rotate_left
             ·intro w'
              go_simp
              with_reducible rfl
             rotate_left
             ·simp only [Act.put, List.setIfInBounds_toArray, List.set_cons_zero, List.set_cons_succ, i64_w, i32_w]
              rfl
             refine pure_ (i := 12) (N := some 49) (v := ?_) (a' := ?_) #[true, true, false, false, false, true, false, true, true, false, false, false, true, false, false, false, false, false, false, false, false] rfl rfl (any_of HT_.out (by kernel_rfl)) (fun _ _ _ h => h) (Or.inl ⟨by rfl, ?_⟩) ?_ ?_
             rotate_left
             ·intro w'
              go_simp
              with_reducible rfl
             rotate_left
             ·simp only [Act.put, List.setIfInBounds_toArray, List.set_cons_zero, List.set_cons_succ, i64_w, i32_w]
              rfl
             refine pure_ (i := 16) (N := some 53) (v := ?_) (a' := ?_) #[true, true, false, false, false, true, false, true, true, false, false, false, true, false, false, false, true, false, false, false, false] rfl rfl (any_of HT_.out (by kernel_rfl)) (fun _ _ _ h => h) (Or.inl ⟨by rfl, ?_⟩) ?_ ?_
             rotate_left
             ·intro w'
              go_simp
              with_reducible rfl
             rotate_left
             ·simp only [Act.put, List.setIfInBounds_toArray, List.set_cons_zero, List.set_cons_succ, i64_w, i32_w]
              rfl
             refine take_ (i := 2) (N := some 39) (v := ?_) (a' := ?_) #[true, true, true, false, false, true, false, true, true, false, false, false, true, false, false, false, true, false, false, false, false] rfl rfl (take_ofW HT_.out HW_.out (by kernel_rfl)) (fun _ _ _ h => h) (Or.inl ⟨by rfl, ?_⟩) hHeld ?_ ?_
             rotate_left
             ·rintro w' ⟨s0, s1, s2, s3, s4, s5⟩
              go_simp
              with_reducible rfl
             rotate_left
             ·simp only [Act.put, List.setIfInBounds_toArray, List.set_cons_zero, List.set_cons_succ, i64_w, i32_w]
              rfl
             refine pure_ (i := 3) (N := some 40) (v := ?_) (a' := ?_) #[true, true, true, true, false, true, false, true, true, false, false, false, true, false, false, false, true, false, false, false, false] rfl rfl (any_of HT_.out (by kernel_rfl)) (fun _ _ _ h => h) (Or.inl ⟨by rfl, ?_⟩) ?_ ?_
             rotate_left
             ·intro w'
              go_simp
              with_reducible rfl
             rotate_left
             ·simp only [Act.put, List.setIfInBounds_toArray, List.set_cons_zero, List.set_cons_succ, i64_w, i32_w]
              rfl
             refine take_ (i := 4) (N := some 41) (v := ?_) (a' := ?_) #[true, true, true, true, true, true, false, true, true, false, false, false, true, false, false, false, true, false, false, false, false] rfl rfl (take_ofW HT_.out HW_.out (by kernel_rfl)) (fun _ _ _ h => h) (Or.inl ⟨by rfl, ?_⟩) hHeld ?_ ?_
             rotate_left
             ·rintro w' ⟨s0, s1, s2, s3, s4, s5⟩
              go_simp
              with_reducible rfl
             rotate_left
             ·simp only [Act.put, List.setIfInBounds_toArray, List.set_cons_zero, List.set_cons_succ, i64_w, i32_w]
              rfl
             refine take_ (i := 6) (N := some 43) (v := ?_) (a' := ?_) #[true, true, true, true, true, true, true, true, true, false, false, false, true, false, false, false, true, false, false, false, false] rfl rfl (take_ofW HT_.out HW_.out (by kernel_rfl)) (fun _ _ _ h => h) (Or.inl ⟨by rfl, ?_⟩) hHeld ?_ ?_
             rotate_left
             ·rintro w' ⟨s0, s1, s2, s3, s4, s5⟩
              go_simp
              with_reducible rfl
             rotate_left
             ·simp only [Act.put, List.setIfInBounds_toArray, List.set_cons_zero, List.set_cons_succ, i64_w, i32_w]
              rfl
             refine take_ (i := 9) (N := some 46) (v := ?_) (a' := ?_) #[true, true, true, true, true, true, true, true, true, true, false, false, true, false, false, false, true, false, false, false, false] rfl rfl (take_ofW HT_.out HW_.out (by kernel_rfl)) (fun _ _ _ h => h) (Or.inl ⟨by rfl, ?_⟩) hHeld ?_ ?_
             rotate_left
             ·rintro w' ⟨s0, s1, s2, s3, s4, s5⟩
              go_simp
              with_reducible rfl
             rotate_left
             ·simp only [Act.put, List.setIfInBounds_toArray, List.set_cons_zero, List.set_cons_succ, i64_w, i32_w]
              rfl
             refine pure_ (i := 10) (N := some 47) (v := ?_) (a' := ?_) #[true, true, true, true, true, true, true, true, true, true, true, false, true, false, false, false, true, false, false, false, false] rfl rfl (any_of HT_.out (by kernel_rfl)) (fun _ _ _ h => h) (Or.inl ⟨by rfl, ?_⟩) ?_ ?_
             rotate_left
             ·intro w'
              go_simp
              with_reducible rfl
             rotate_left
             ·simp only [Act.put, List.setIfInBounds_toArray, List.set_cons_zero, List.set_cons_succ, i64_w, i32_w]
              rfl
             refine take_ (i := 11) (N := some 48) (v := ?_) (a' := ?_) #[true, true, true, true, true, true, true, true, true, true, true, true, true, false, false, false, true, false, false, false, false] rfl rfl (take_ofW HT_.out HW_.out (by kernel_rfl)) (fun _ _ _ h => h) (Or.inl ⟨by rfl, ?_⟩) hHeld ?_ ?_
             rotate_left
             ·rintro w' ⟨s0, s1, s2, s3, s4, s5⟩
              go_simp
              with_reducible rfl
             rotate_left
             ·simp only [Act.put, List.setIfInBounds_toArray, List.set_cons_zero, List.set_cons_succ, i64_w, i32_w]
              rfl
             refine take_ (i := 13) (N := some 50) (v := ?_) (a' := ?_) #[true, true, true, true, true, true, true, true, true, true, true, true, true, true, false, false, true, false, false, false, false] rfl rfl (take_ofW HT_.out HW_.out (by kernel_rfl)) (fun _ _ _ h => h) (Or.inl ⟨by rfl, ?_⟩) hHeld ?_ ?_
             rotate_left
             ·rintro w' ⟨s0, s1, s2, s3, s4, s5⟩
              go_simp
              with_reducible rfl
             rotate_left
             ·simp only [Act.put, List.setIfInBounds_toArray, List.set_cons_zero, List.set_cons_succ, i64_w, i32_w]
              rfl
             refine pure_ (i := 14) (N := some 51) (v := ?_) (a' := ?_) #[true, true, true, true, true, true, true, true, true, true, true, true, true, true, true, false, true, false, false, false, false] rfl rfl (any_of HT_.out (by kernel_rfl)) (fun _ _ _ h => h) (Or.inl ⟨by rfl, ?_⟩) ?_ ?_
             rotate_left
             ·intro w'
              go_simp
              with_reducible rfl
             rotate_left
             ·simp only [Act.put, List.setIfInBounds_toArray, List.set_cons_zero, List.set_cons_succ, i64_w, i32_w]
              rfl
             refine take_ (i := 15) (N := some 52) (v := ?_) (a' := ?_) #[true, true, true, true, true, true, true, true, true, true, true, true, true, true, true, true, true, false, false, false, false] rfl rfl (take_ofW HT_.out HW_.out (by kernel_rfl)) (fun _ _ _ h => h) (Or.inl ⟨by rfl, ?_⟩) hHeld ?_ ?_
             rotate_left
             ·rintro w' ⟨s0, s1, s2, s3, s4, s5⟩
              go_simp
              with_reducible rfl
             rotate_left
             ·simp only [Act.put, List.setIfInBounds_toArray, List.set_cons_zero, List.set_cons_succ, i64_w, i32_w]
              rfl
             refine take_ (i := 17) (N := some 54) (v := ?_) (a' := ?_) #[true, true, true, true, true, true, true, true, true, true, true, true, true, true, true, true, true, true, false, false, false] rfl rfl (take_ofW HT_.out HW_.out (by kernel_rfl)) (fun _ _ _ h => h) (Or.inl ⟨by rfl, ?_⟩) hHeld ?_ ?_
             rotate_left
             ·rintro w' ⟨s0, s1, s2, s3, s4, s5⟩
              go_simp
              with_reducible rfl
             rotate_left
             ·simp only [Act.put, List.setIfInBounds_toArray, List.set_cons_zero, List.set_cons_succ, i64_w, i32_w]
              rfl
             refine pure_ (i := 18) (N := some 55) (v := ?_) (a' := ?_) #[true, true, true, true, true, true, true, true, true, true, true, true, true, true, true, true, true, true, true, false, false] rfl rfl (any_of HT_.out (by kernel_rfl)) (fun _ _ _ h => h) (Or.inl ⟨by rfl, ?_⟩) ?_ ?_
             rotate_left
             ·intro w'
              go_simp
              with_reducible rfl
             rotate_left
             ·simp only [Act.put, List.setIfInBounds_toArray, List.set_cons_zero, List.set_cons_succ, i64_w, i32_w]
              rfl
             refine pure_ (i := 19) (N := some 56) (v := ?_) (a' := ?_) #[true, true, true, true, true, true, true, true, true, true, true, true, true, true, true, true, true, true, true, true, false] rfl rfl (any_of HT_.out (by kernel_rfl)) (fun _ _ _ h => h) (Or.inl ⟨by rfl, ?_⟩) ?_ ?_
             rotate_left
             ·intro w'
              go_simp
              with_reducible rfl
             rotate_left
             ·simp only [Act.put, List.setIfInBounds_toArray, List.set_cons_zero, List.set_cons_succ, i64_w, i32_w]
              rfl
             refine last_ (i := 20) (N := none) #[true, true, true, true, true, true, true, true, true, true, true, true, true, true, true, true, true, true, true, true, true] rfl rfl (one_of HT_.out (by kernel_rfl)) (by decide) (fun K hK => ?_)
             refine skip_ (w1 := ?_) (by rfl) rfl ?_ ?_
             rotate_left
             ·go_simp
              rfl
             refine hK.out _ _ ?_
             clear hK K
             refine done_ (done_of HT_.out (by kernel_rfl)) ?_
             try go_wp2
             go_roundg k2
             case measure => have := HK1.out; have := HK2.out; omega
             case rel => exact ⟨(y350), (wrap64 (x33_2 + 1)), (by first | rfl | (simp; done) | (simp [*]; done)), H', ⟨by have := HK1.out; have := HK2.out; omega⟩, ⟨by (with_reducible repeat (first | apply Kd.S_alloc | apply Kd.S_drewN | apply Kd.S_drew)); exact HQ32.out⟩, ⟨by repeat (first | (with_reducible first | exact HB.out | apply below_alloc | apply pw_below_drewN | apply below_drew1 | refine below_set ?_ GB26.out | refine below_set ?_ GE344.out) | exact HB.out)⟩⟩
            ·rw [if_neg c24] at H
             exact absurd H (by simp)
           ·rw [if_neg c23] at H
            exact absurd H (by simp)
          ·rw [if_neg c22] at H
           exact absurd H (by simp)
         ·rw [if_neg c21] at H
          exact absurd H (by simp)
        ·rw [if_neg c20] at H
         exact absurd H (by simp)
       ·rw [if_neg c19] at H
        exact absurd H (by simp)
      ·rw [if_neg c18] at H
       have c18b0 : decide (x33_2 < (l1.length : Int)) = false := decide_eq_false c18
       clear c18
       have H' := Aside0.mk H
       clear H
       obtain ⟨Ao34, co34, eo34⟩ := Kd.S_slice HO_6.out
       subst eo34
       go_wp2
       go_loopg [60] k2 (fun kq v60 w' => ∃ (x6_3 : List (List Int)) (x60_3 : Int), v60 = .int .i64 x60_3 ∧ Aside0 (impl_tightest.l2 kq x6_3 (x6_2.length : Int) x60_3 = some (r1, r2)) ∧ Aside0 (kq ≤ k2) ∧ Aside0 (Kd.S (Kd.slice 2 (Kd.int .i64)) 33 w' w.heap.size (fun _ => True) (.slice Ao34 x6_2.length co34) x6_3) ∧ Aside0 (Below w.heap.size w w'))
       case atStart => exact ⟨(x6_2), (0), (by first | rfl | (simp; done) | (simp [*]; done)), H', ⟨Nat.le_refl _⟩, ⟨by (with_reducible repeat (first | apply Kd.S_alloc | apply Kd.S_drewN | apply Kd.S_drew)); exact HO_6.out⟩, ⟨by repeat (first | (with_reducible first | exact HB.out | apply below_alloc | apply pw_below_drewN | apply below_drew1) | exact HB.out)⟩⟩
       case round =>
        clear H'
        try clear c1
        try clear c2
        try clear p2
        try clear q2
        try clear hx2
        try clear hf2
        try clear c3
        try clear p3
        try clear q3
        try clear hx3
        try clear c5
        try clear c5b0
        try clear c6
        try clear p6
        try clear c7
        try clear c7b0
        try clear c8
        try clear c8b0
        try clear p9
        try clear q9
        try clear hx9
        try clear hf9
        try clear c10
        try clear c18
        try clear c18b0
        try clear c19
        try clear c19b0
        try clear c20
        try clear c20b0
        try clear c21
        try clear c21b0
        try clear c22
        try clear c22b0
        try clear c23
        try clear c23b0
        try clear c24
        try clear c24b0
        try clear p26
        try clear q26
        try clear hx26
        try clear hf26
        try clear c32
        try clear q32
        try clear c34
        try clear p34
        try clear q34
        try clear hx34
        try clear hcz28_0
        try clear hcz28_1
        try clear hcz28_2
        try clear hfz28_0
        try clear hfz28_1
        try clear hfz28_2
        try clear hx26_0
        try clear hx343_0
        try clear hx343_1
        try clear hx343_2
        try clear hx345_0
        try clear hx346_0
        try clear hx347_0
        try clear hx9_0
        try clear p2
        try clear p26
        try clear p343
        try clear p345
        try clear p346
        try clear p347
        try clear p6
        try clear p9
        try clear q26
        try clear q343
        try clear q345
        try clear q346
        try clear q347
        try clear q9
        obtain ⟨x6_3, x60_3, rfl, HA, HK3, HO_6, HB⟩ := hrel
        have hl6_3 := (Kd.S_reads' HO_6.out).1
        rw [hl6_3] at HO_6
        (try simp only [hl6_3])
        cases gk with
        | zero => exact absurd HA.out (by simp [impl_tightest.l2])
        | succ k3 =>
         have H := HA.out
         clear HA
         simp only [impl_tightest.l2] at H
         by_cases c35 : x60_3 < (x6_2.length : Int)
         ·rw [if_pos c35] at H
          have c35b0 : decide (x60_3 < (x6_2.length : Int)) = true := decide_eq_true c35
          have c35b0l := c35b0; (try simp only [hl6_3] at c35b0l)
          clear c35
          have H' := Aside0.mk H
          clear H
          go_wp2
          go_loopg [65] k3 (fun kq v65 w' => ∃ (x6_4 : List (List Int)) (x65_4 : Int), v65 = .int .i64 x65_4 ∧ Aside0 (impl_tightest.l3 kq x6_4 x60_3 (x6_2.length : Int) x60_3 (x6_3.length : Int) x65_4 = some (r1, r2)) ∧ Aside0 (kq ≤ k3) ∧ Aside0 (Kd.S (Kd.slice 2 (Kd.int .i64)) 33 w' w.heap.size (fun _ => True) (.slice Ao34 x6_3.length co34) x6_4) ∧ Aside0 (Below w.heap.size w w'))
          case atStart => exact ⟨(x6_3), (0), (by first | rfl | (simp; done) | (simp [*]; done)), H', ⟨Nat.le_refl _⟩, ⟨by (try simp only [hl6_3]); (with_reducible repeat (first | apply Kd.S_alloc | apply Kd.S_drewN | apply Kd.S_drew)); exact HO_6.out⟩, ⟨by repeat (first | (with_reducible first | exact HB.out | apply below_alloc | apply pw_below_drewN | apply below_drew1) | exact HB.out)⟩⟩
          case round =>
           clear H'
           try clear c1
           try clear c2
           try clear p2
           try clear q2
           try clear hx2
           try clear hf2
           try clear c3
           try clear p3
           try clear q3
           try clear hx3
           try clear c5
           try clear c5b0
           try clear c6
           try clear p6
           try clear c7
           try clear c7b0
           try clear c8
           try clear c8b0
           try clear p9
           try clear q9
           try clear hx9
           try clear hf9
           try clear c10
           try clear c18
           try clear c18b0
           try clear c19
           try clear c19b0
           try clear c20
           try clear c20b0
           try clear c21
           try clear c21b0
           try clear c22
           try clear c22b0
           try clear c23
           try clear c23b0
           try clear c24
           try clear c24b0
           try clear p26
           try clear q26
           try clear hx26
           try clear hf26
           try clear c32
           try clear q32
           try clear c34
           try clear p34
           try clear q34
           try clear hx34
           try clear c35
           try clear c35b0
           try clear hcz28_0
           try clear hcz28_1
           try clear hcz28_2
           try clear hfz28_0
           try clear hfz28_1
           try clear hfz28_2
           try clear hx26_0
           try clear hx343_0
           try clear hx343_1
           try clear hx343_2
           try clear hx345_0
           try clear hx346_0
           try clear hx347_0
           try clear hx9_0
           try clear p2
           try clear p26
           try clear p3
           try clear p34
           try clear p343
           try clear p345
           try clear p346
           try clear p347
           try clear p6
           try clear p9
           try clear q2
           try clear q26
           try clear q3
           try clear q32
           try clear q34
           try clear q343
           try clear q345
           try clear q346
           try clear q347
           try clear q9
           obtain ⟨x6_4, x65_4, rfl, HA, HK4, HO_6, HB⟩ := hrel
           have hl6_4 := (Kd.S_reads' HO_6.out).1
           rw [hl6_4] at HO_6
           (try simp only [hl6_4])
           cases gk with
           | zero => exact absurd HA.out (by simp [impl_tightest.l3])
           | succ k4 =>
            have H := HA.out
            clear HA
            simp only [impl_tightest.l3] at H
            by_cases c36 : x65_4 < (x6_3.length : Int)
            ·rw [if_pos c36] at H
             have c36b0 : decide (x65_4 < (x6_3.length : Int)) = true := decide_eq_true c36
             have c36b0l := c36b0; (try simp only [hl6_4] at c36b0l)
             clear c36
             have H' := Aside0.mk H
             clear H
             go_wp2
             go_loopg [70] k4 (fun kq v70 w' => ∃ (x6_5 : List (List Int)) (x70_5 : Int), v70 = .int .i64 x70_5 ∧ Aside0 (impl_tightest.l4 kq x6_5 x60_3 x65_4 (x6_2.length : Int) x60_3 (x6_3.length : Int) x65_4 (x6_4.length : Int) x70_5 = some (r1, r2)) ∧ Aside0 (kq ≤ k4) ∧ Aside0 (Kd.S (Kd.slice 2 (Kd.int .i64)) 33 w' w.heap.size (fun _ => True) (.slice Ao34 x6_4.length co34) x6_5) ∧ Aside0 (Below w.heap.size w w'))
             case atStart => exact ⟨(x6_4), (0), (by first | rfl | (simp; done) | (simp [*]; done)), H', ⟨Nat.le_refl _⟩, ⟨by (try simp only [hl6_3]); (try simp only [hl6_4]); (with_reducible repeat (first | apply Kd.S_alloc | apply Kd.S_drewN | apply Kd.S_drew)); exact HO_6.out⟩, ⟨by repeat (first | (with_reducible first | exact HB.out | apply below_alloc | apply pw_below_drewN | apply below_drew1) | exact HB.out)⟩⟩
             case round =>
              clear H'
              try clear c1
              try clear c2
              try clear p2
              try clear q2
              try clear hx2
              try clear hf2
              try clear c3
              try clear p3
              try clear q3
              try clear hx3
              try clear c5
              try clear c5b0
              try clear c6
              try clear p6
              try clear c7
              try clear c7b0
              try clear c8
              try clear c8b0
              try clear p9
              try clear q9
              try clear hx9
              try clear hf9
              try clear c10
              try clear c18
              try clear c18b0
              try clear c19
              try clear c19b0
              try clear c20
              try clear c20b0
              try clear c21
              try clear c21b0
              try clear c22
              try clear c22b0
              try clear c23
              try clear c23b0
              try clear c24
              try clear c24b0
              try clear p26
              try clear q26
              try clear hx26
              try clear hf26
              try clear c32
              try clear q32
              try clear c34
              try clear p34
              try clear q34
              try clear hx34
              try clear c35
              try clear c35b0
              try clear c36
              try clear c36b0
              try clear hcz28_0
              try clear hcz28_1
              try clear hcz28_2
              try clear hfz28_0
              try clear hfz28_1
              try clear hfz28_2
              try clear hx26_0
              try clear hx343_0
              try clear hx343_1
              try clear hx343_2
              try clear hx345_0
              try clear hx346_0
              try clear hx347_0
              try clear hx9_0
              try clear p2
              try clear p26
              try clear p3
              try clear p34
              try clear p343
              try clear p345
              try clear p346
              try clear p347
              try clear p6
              try clear p9
              try clear q2
              try clear q26
              try clear q3
              try clear q32
              try clear q34
              try clear q343
              try clear q345
              try clear q346
              try clear q347
              try clear q9
              obtain ⟨x6_5, x70_5, rfl, HA, HK5, HO_6, HB⟩ := hrel
              have hl6_5 := (Kd.S_reads' HO_6.out).1
              rw [hl6_5] at HO_6
              (try simp only [hl6_5])
              cases gk with
              | zero => exact absurd HA.out (by simp [impl_tightest.l4])
              | succ k5 =>
               have H := HA.out
               clear HA
               simp only [impl_tightest.l4] at H
               by_cases c37 : x70_5 < (x6_4.length : Int)
               ·rw [if_pos c37] at H
                have c37b0 : decide (x70_5 < (x6_4.length : Int)) = true := decide_eq_true c37
                have c37b0l := c37b0; (try simp only [hl6_5] at c37b0l)
                clear c37
                by_cases c38 : 0 ≤ x65_4
                ·rw [if_pos c38] at H
                 have c38b0 : decide (0 ≤ x65_4) = true := decide_eq_true c38
                 clear c38
                 by_cases c39 : x65_4 < (x6_5.length : Int)
                 ·rw [if_pos c39] at H
                  have c39b0 : decide (x65_4 < (x6_5.length : Int)) = true := decide_eq_true c39
                  clear c39
                  by_cases c40 : 0 ≤ x60_3
                  ·rw [if_pos c40] at H
                   have c40b0 : decide (0 ≤ x60_3) = true := decide_eq_true c40
                   clear c40
                   by_cases c41 : x60_3 < ((rd_L8 x6_5 x65_4).length : Int)
                   ·rw [if_pos c41] at H
                    have c41b0 : decide (x60_3 < ((rd_L8 x6_5 x65_4).length : Int)) = true := decide_eq_true c41
                    clear c41
                    by_cases c42 : (rd (rd_L8 x6_5 x65_4) x60_3) < 1000000
                    ·rw [if_pos c42] at H
                     have c42b0 : decide ((rd (rd_L8 x6_5 x65_4) x60_3) < 1000000) = true := decide_eq_true c42
                     clear c42
                     by_cases c43 : x60_3 < (x6_5.length : Int)
                     ·rw [if_pos c43] at H
                      have c43b0 : decide (x60_3 < (x6_5.length : Int)) = true := decide_eq_true c43
                      clear c43
                      by_cases c44 : 0 ≤ x70_5
                      ·rw [if_pos c44] at H
                       have c44b0 : decide (0 ≤ x70_5) = true := decide_eq_true c44
                       clear c44
                       by_cases c45 : x70_5 < ((rd_L8 x6_5 x60_3).length : Int)
                       ·rw [if_pos c45] at H
                        have c45b0 : decide (x70_5 < ((rd_L8 x6_5 x60_3).length : Int)) = true := decide_eq_true c45
                        clear c45
                        by_cases c46 : (rd (rd_L8 x6_5 x60_3) x70_5) < 1000000
                        ·rw [if_pos c46] at H
                         have c46b0 : decide ((rd (rd_L8 x6_5 x60_3) x70_5) < 1000000) = true := decide_eq_true c46
                         clear c46
                         by_cases c47 : x70_5 < ((rd_L8 x6_5 x65_4).length : Int)
                         ·rw [if_pos c47] at H
                          have c47b0 : decide (x70_5 < ((rd_L8 x6_5 x65_4).length : Int)) = true := decide_eq_true c47
                          clear c47
                          obtain ⟨ji48, hji48⟩ : ∃ j_ : Int, (mn (rd (rd_L8 x6_5 x65_4) x70_5) (wrap64 ((rd (rd_L8 x6_5 x65_4) x60_3) + (rd (rd_L8 x6_5 x60_3) x70_5)))) = j_ := ⟨_, rfl⟩
                          replace H : (impl_tightest.l4 k5 (x6_5.set (x65_4 : Int).toNat ((rd_L8 x6_5 x65_4).set (x70_5 : Int).toNat (ji48))) x60_3 x65_4 (x6_2.length : Int) x60_3 (x6_3.length : Int) x65_4 (x6_4.length : Int) (wrap64 (x70_5 + 1))) = some (r1, r2) := by first | (rw [hji48] at H; exact H) | (simp only [hji48] at H ⊢; exact H)
                          have hji48_ : (if (wrap64 ((rd (rd_L8 x6_5 x65_4) x60_3) + (rd (rd_L8 x6_5 x60_3) x70_5))) < (rd (rd_L8 x6_5 x65_4) x70_5) then (wrap64 ((rd (rd_L8 x6_5 x65_4) x60_3) + (rd (rd_L8 x6_5 x60_3) x70_5))) else (rd (rd_L8 x6_5 x65_4) x70_5)) = ji48 := hji48
                          obtain ⟨y362, hy362⟩ : ∃ y_ : List Int, y_ = ((rd_L8 x6_5 x65_4).set (x70_5 : Int).toNat (ji48)) := ⟨_, rfl⟩
                          replace H : (impl_tightest.l4 k5 (x6_5.set (x65_4 : Int).toNat y362) x60_3 x65_4 (x6_2.length : Int) x60_3 (x6_3.length : Int) x65_4 (x6_4.length : Int) (wrap64 (x70_5 + 1))) = some (r1, r2) := by first | (rw [hy362]; with_reducible exact H) | (have H2_ := (Option.bind_some _ _).symm.trans H; rw [hy362]; with_reducible exact H2_) | (have H2_ := (Option.bind_some _ _).symm.trans H; with_reducible exact H2_) | with_reducible exact H | (rw [hy362]; exact H) | exact H
                          have Ny362 := Aside0.mk hy362
                          clear hy362
                          obtain ⟨y364, hy364⟩ : ∃ y_ : List (List Int), y_ = (x6_5.set (x65_4 : Int).toNat y362) := ⟨_, rfl⟩
                          replace H : (impl_tightest.l4 k5 y364 x60_3 x65_4 (x6_2.length : Int) x60_3 (x6_3.length : Int) x65_4 (x6_4.length : Int) (wrap64 (x70_5 + 1))) = some (r1, r2) := by first | (rw [hy364]; with_reducible exact H) | (have H2_ := (Option.bind_some _ _).symm.trans H; rw [hy364]; with_reducible exact H2_) | (have H2_ := (Option.bind_some _ _).symm.trans H; with_reducible exact H2_) | with_reducible exact H | (rw [hy364]; exact H) | exact H
                          have Ny364 := Aside0.mk hy364
                          clear hy364
                          have H' := Aside0.mk H
                          clear H
                          have p351 : 0 ≤ (x65_4 : Int) := of_decide_eq_true (by with_reducible assumption)
                          have q351 : x65_4 < (x6_5.length : Int) := of_decide_eq_true (by with_reducible assumption)
                          obtain ⟨ad351, A351_0, c351_0, e351, hx351_0, hl351_0, hi351_0⟩ := at_L8 (Kd.S_reads' HO_6.out).2.2 x65_4 p351 q351
                          cases e351
                          obtain ⟨ce351, hce351, hMe351, hcc351⟩ := Kd.S_get HO_6.out [] x65_4 p351 (by first | exact q351 | exact of_decide_eq_true (by with_reducible assumption) | (have e_ := (Kd.S_reads' HO_6.out).1; omega))
                          obtain ⟨ve351_0, rfl, ge351_0⟩ := hMe351
                          have hv351_0 := hcc351 0 _ rfl
                          rw [Nat.add_zero, show ((Kd.slice 2 (Kd.int .i64))).sz = 1 from rfl, Nat.mul_one] at hv351_0
                          replace hv351_0 := Option.some.inj (hv351_0.symm.trans hx351_0)
                          rw [hv351_0] at ge351_0
                          have HL351_0 := Aside0.mk (show Kd.R (Kd.int .i64) 2 _ _ _ _ (rd_L8 x6_5 x65_4) from ge351_0)
                          clear hv351_0 ge351_0
                          have HX351_0 := Aside0.mk hx351_0
                          clear hcc351 hce351
                          have HR351_0 := Aside0.mk hi351_0
                          have HC351_0 := Aside0.mk hl351_0
                          clear hi351_0 hl351_0
                          replace p351 := eq_true p351
                          replace q351 := eq_true q351
                          have p352 : 0 ≤ (x60_3 : Int) := of_decide_eq_true (by with_reducible assumption)
                          have q352 : x60_3 < ((rd_L8 x6_5 x65_4).length : Int) := of_decide_eq_true (by with_reducible assumption)
                          obtain ⟨ad352, e352, hx352_0⟩ := Kd.at_int (by repeat (first | (with_reducible exact HR351_0.out) | (with_reducible refine Kd.C_alloc ?_ _) | (with_reducible refine Kd.C_drewN ?_ _) | (with_reducible refine Kd.C_drew ?_) | exact HR351_0.out)) x60_3 p352 q352
                          cases e352
                          replace p352 := eq_true p352
                          replace q352 := eq_true q352
                          have p353 : 0 ≤ (x60_3 : Int) := of_decide_eq_true (by with_reducible assumption)
                          have q353 : x60_3 < (x6_5.length : Int) := of_decide_eq_true (by with_reducible assumption)
                          obtain ⟨ad353, A353_0, c353_0, e353, hx353_0, hl353_0, hi353_0⟩ := at_L8 (Kd.S_reads' HO_6.out).2.2 x60_3 p353 q353
                          obtain rfl : ad351 = ad353 := (by injection e353)
                          obtain ⟨ce353, hce353, hMe353, hcc353⟩ := Kd.S_get HO_6.out [] x60_3 p353 (by first | exact q353 | exact of_decide_eq_true (by with_reducible assumption) | (have e_ := (Kd.S_reads' HO_6.out).1; omega))
                          obtain ⟨ve353_0, rfl, ge353_0⟩ := hMe353
                          have hv353_0 := hcc353 0 _ rfl
                          rw [Nat.add_zero, show ((Kd.slice 2 (Kd.int .i64))).sz = 1 from rfl, Nat.mul_one] at hv353_0
                          replace hv353_0 := Option.some.inj (hv353_0.symm.trans hx353_0)
                          rw [hv353_0] at ge353_0
                          have HL353_0 := Aside0.mk (show Kd.R (Kd.int .i64) 2 _ _ _ _ (rd_L8 x6_5 x60_3) from ge353_0)
                          clear hv353_0 ge353_0
                          have HX353_0 := Aside0.mk hx353_0
                          clear hcc353 hce353
                          have HR353_0 := Aside0.mk hi353_0
                          have HC353_0 := Aside0.mk hl353_0
                          clear hi353_0 hl353_0
                          replace p353 := eq_true p353
                          replace q353 := eq_true q353
                          have p354 : 0 ≤ (x70_5 : Int) := of_decide_eq_true (by with_reducible assumption)
                          have q354 : x70_5 < ((rd_L8 x6_5 x60_3).length : Int) := of_decide_eq_true (by with_reducible assumption)
                          obtain ⟨ad354, e354, hx354_0⟩ := Kd.at_int (by repeat (first | (with_reducible exact HR353_0.out) | (with_reducible refine Kd.C_alloc ?_ _) | (with_reducible refine Kd.C_drewN ?_ _) | (with_reducible refine Kd.C_drew ?_) | exact HR353_0.out)) x70_5 p354 q354
                          cases e354
                          replace p354 := eq_true p354
                          replace q354 := eq_true q354
                          try go_wp2
                          have n0_ := Aside0.mk (Kd.S_drew HO_6.out)
                          have n1_ := Aside0.mk (Kd.R_drew HL351_0.out)
                          have n2_ := Aside0.mk (Kd.R_drew HL353_0.out)
                          have n3_ := Aside0.mk (Kd.C_drew HR351_0.out)
                          have n4_ := Aside0.mk (Kd.C_drew HR353_0.out)
                          have n5_ := Aside0.mk (below_drew1 HB.out)
                          clear HO_6
                          clear HL351_0
                          clear HL353_0
                          clear HR351_0
                          clear HR353_0
                          clear HB
                          have HO_6 := n0_
                          have HL351_0 := n1_
                          have HL353_0 := n2_
                          have HR351_0 := n3_
                          have HR353_0 := n4_
                          have HB := n5_
                          clear n0_ n1_ n2_ n3_ n4_ n5_
                          have p355 : 0 ≤ (x65_4 : Int) := of_decide_eq_true (by with_reducible assumption)
                          have q355 : x65_4 < (x6_5.length : Int) := of_decide_eq_true (by with_reducible assumption)
                          obtain ⟨ad355, A355_0, c355_0, e355, hx355_0, hl355_0, hi355_0⟩ := at_L8 (Kd.S_reads' HO_6.out).2.2 x65_4 p355 q355
                          obtain rfl : ad351 = ad355 := (by injection e355)
                          obtain ⟨ce355, hce355, hMe355, hcc355⟩ := Kd.S_get HO_6.out [] x65_4 p355 (by first | exact q355 | exact of_decide_eq_true (by with_reducible assumption) | (have e_ := (Kd.S_reads' HO_6.out).1; omega))
                          obtain ⟨ve355_0, rfl, ge355_0⟩ := hMe355
                          have hv355_0 := hcc355 0 _ rfl
                          rw [Nat.add_zero, show ((Kd.slice 2 (Kd.int .i64))).sz = 1 from rfl, Nat.mul_one] at hv355_0
                          replace hv355_0 := Option.some.inj (hv355_0.symm.trans hx355_0)
                          rw [hv355_0] at ge355_0
                          have HL355_0 := Aside0.mk (show Kd.R (Kd.int .i64) 2 _ _ _ _ (rd_L8 x6_5 x65_4) from ge355_0)
                          clear hv355_0 ge355_0
                          have HX355_0 := Aside0.mk hx355_0
                          clear hcc355 hce355
                          have HR355_0 := Aside0.mk hi355_0
                          have HC355_0 := Aside0.mk hl355_0
                          clear hi355_0 hl355_0
                          replace p355 := eq_true p355
                          replace q355 := eq_true q355
                          have p356 : 0 ≤ (x65_4 : Int) := of_decide_eq_true (by with_reducible assumption)
                          have q356 : x65_4 < (x6_5.length : Int) := of_decide_eq_true (by with_reducible assumption)
                          obtain ⟨ad356, A356_0, c356_0, e356, hx356_0, hl356_0, hi356_0⟩ := at_L8 (Kd.S_reads' HO_6.out).2.2 x65_4 p356 q356
                          obtain rfl : ad351 = ad356 := (by injection e356)
                          obtain ⟨ce356, hce356, hMe356, hcc356⟩ := Kd.S_get HO_6.out [] x65_4 p356 (by first | exact q356 | exact of_decide_eq_true (by with_reducible assumption) | (have e_ := (Kd.S_reads' HO_6.out).1; omega))
                          obtain ⟨ve356_0, rfl, ge356_0⟩ := hMe356
                          have hv356_0 := hcc356 0 _ rfl
                          rw [Nat.add_zero, show ((Kd.slice 2 (Kd.int .i64))).sz = 1 from rfl, Nat.mul_one] at hv356_0
                          replace hv356_0 := Option.some.inj (hv356_0.symm.trans hx356_0)
                          rw [hv356_0] at ge356_0
                          have HL356_0 := Aside0.mk (show Kd.R (Kd.int .i64) 2 _ _ _ _ (rd_L8 x6_5 x65_4) from ge356_0)
                          clear hv356_0 ge356_0
                          have HX356_0 := Aside0.mk hx356_0
                          clear hcc356 hce356
                          have HR356_0 := Aside0.mk hi356_0
                          have HC356_0 := Aside0.mk hl356_0
                          clear hi356_0 hl356_0
                          replace p356 := eq_true p356
                          replace q356 := eq_true q356
                          have ea_ := Option.some.inj (hx355_0.symm.trans hx356_0)
                          injection ea_ with ea_ en_ ec_
                          subst ea_
                          subst ec_
                          clear en_
                          have p357 : 0 ≤ (x70_5 : Int) := of_decide_eq_true (by with_reducible assumption)
                          have q357 : x70_5 < ((rd_L8 x6_5 x65_4).length : Int) := of_decide_eq_true (by with_reducible assumption)
                          obtain ⟨ad357, e357, hx357_0⟩ := Kd.at_int (by repeat (first | (with_reducible exact HR356_0.out) | (with_reducible refine Kd.C_alloc ?_ _) | (with_reducible refine Kd.C_drewN ?_ _) | (with_reducible refine Kd.C_drew ?_) | exact HR356_0.out)) x70_5 p357 q357
                          cases e357
                          replace p357 := eq_true p357
                          replace q357 := eq_true q357
                          have p358 : 0 ≤ (x65_4 : Int) := of_decide_eq_true (by with_reducible assumption)
                          have q358 : x65_4 < (x6_5.length : Int) := of_decide_eq_true (by with_reducible assumption)
                          obtain ⟨ad358, A358_0, c358_0, e358, hx358_0, hl358_0, hi358_0⟩ := at_L8 (Kd.S_reads' HO_6.out).2.2 x65_4 p358 q358
                          obtain rfl : ad351 = ad358 := (by injection e358)
                          obtain ⟨ce358, hce358, hMe358, hcc358⟩ := Kd.S_get HO_6.out [] x65_4 p358 (by first | exact q358 | exact of_decide_eq_true (by with_reducible assumption) | (have e_ := (Kd.S_reads' HO_6.out).1; omega))
                          obtain ⟨ve358_0, rfl, ge358_0⟩ := hMe358
                          have hv358_0 := hcc358 0 _ rfl
                          rw [Nat.add_zero, show ((Kd.slice 2 (Kd.int .i64))).sz = 1 from rfl, Nat.mul_one] at hv358_0
                          replace hv358_0 := Option.some.inj (hv358_0.symm.trans hx358_0)
                          rw [hv358_0] at ge358_0
                          have HL358_0 := Aside0.mk (show Kd.R (Kd.int .i64) 2 _ _ _ _ (rd_L8 x6_5 x65_4) from ge358_0)
                          clear hv358_0 ge358_0
                          have HX358_0 := Aside0.mk hx358_0
                          clear hcc358 hce358
                          have HR358_0 := Aside0.mk hi358_0
                          have HC358_0 := Aside0.mk hl358_0
                          clear hi358_0 hl358_0
                          replace p358 := eq_true p358
                          replace q358 := eq_true q358
                          have ea_ := Option.some.inj (hx355_0.symm.trans hx358_0)
                          injection ea_ with ea_ en_ ec_
                          subst ea_
                          subst ec_
                          clear en_
                          have p359 : 0 ≤ (x60_3 : Int) := of_decide_eq_true (by with_reducible assumption)
                          have q359 : x60_3 < ((rd_L8 x6_5 x65_4).length : Int) := of_decide_eq_true (by with_reducible assumption)
                          obtain ⟨ad359, e359, hx359_0⟩ := Kd.at_int (by repeat (first | (with_reducible exact HR358_0.out) | (with_reducible refine Kd.C_alloc ?_ _) | (with_reducible refine Kd.C_drewN ?_ _) | (with_reducible refine Kd.C_drew ?_) | exact HR358_0.out)) x60_3 p359 q359
                          cases e359
                          replace p359 := eq_true p359
                          replace q359 := eq_true q359
                          have p360 : 0 ≤ (x60_3 : Int) := of_decide_eq_true (by with_reducible assumption)
                          have q360 : x60_3 < (x6_5.length : Int) := of_decide_eq_true (by with_reducible assumption)
                          obtain ⟨ad360, A360_0, c360_0, e360, hx360_0, hl360_0, hi360_0⟩ := at_L8 (Kd.S_reads' HO_6.out).2.2 x60_3 p360 q360
                          obtain rfl : ad351 = ad360 := (by injection e360)
                          obtain ⟨ce360, hce360, hMe360, hcc360⟩ := Kd.S_get HO_6.out [] x60_3 p360 (by first | exact q360 | exact of_decide_eq_true (by with_reducible assumption) | (have e_ := (Kd.S_reads' HO_6.out).1; omega))
                          obtain ⟨ve360_0, rfl, ge360_0⟩ := hMe360
                          have hv360_0 := hcc360 0 _ rfl
                          rw [Nat.add_zero, show ((Kd.slice 2 (Kd.int .i64))).sz = 1 from rfl, Nat.mul_one] at hv360_0
                          replace hv360_0 := Option.some.inj (hv360_0.symm.trans hx360_0)
                          rw [hv360_0] at ge360_0
                          have HL360_0 := Aside0.mk (show Kd.R (Kd.int .i64) 2 _ _ _ _ (rd_L8 x6_5 x60_3) from ge360_0)
                          clear hv360_0 ge360_0
                          have HX360_0 := Aside0.mk hx360_0
                          clear hcc360 hce360
                          have HR360_0 := Aside0.mk hi360_0
                          have HC360_0 := Aside0.mk hl360_0
                          clear hi360_0 hl360_0
                          replace p360 := eq_true p360
                          replace q360 := eq_true q360
                          have p361 : 0 ≤ (x70_5 : Int) := of_decide_eq_true (by with_reducible assumption)
                          have q361 : x70_5 < ((rd_L8 x6_5 x60_3).length : Int) := of_decide_eq_true (by with_reducible assumption)
                          obtain ⟨ad361, e361, hx361_0⟩ := Kd.at_int (by repeat (first | (with_reducible exact HR360_0.out) | (with_reducible refine Kd.C_alloc ?_ _) | (with_reducible refine Kd.C_drewN ?_ _) | (with_reducible refine Kd.C_drew ?_) | exact HR360_0.out)) x70_5 p361 q361
                          cases e361
                          replace p361 := eq_true p361
                          replace q361 := eq_true q361
                          have p49 : 0 ≤ (x70_5 : Int) := of_decide_eq_true (by with_reducible assumption)
                          have q49 : (x70_5 : Int) < (((rd_L8 x6_5 x65_4).length : Int) : Int) := of_decide_eq_true (by with_reducible assumption)
                          obtain ⟨go49, co49, eo49, gb49, gl49, cl49, HG49⟩ := Kd.R_form HL355_0.out (by omega)
                          (first | cases eo49 | (injection eo49 with ea_ en_ ec_; (first | subst ea_ | (injection ea_ with ea_; subst ea_)); subst ec_; clear en_))
                          have GB49 := Aside0.mk gb49
                          have GG49 := Aside0.mk HG49
                          clear gb49 gl49 HG49
                          (first | simp only [add_plain] at hx359_0 | skip)
                          (first | simp only [add_plain] at hx357_0 | skip)
                          obtain ⟨hx49_0, hf49_0⟩ := Kd.R_celln 0 HL355_0.out (x70_5 : Int) p49 q49
                          replace p49 := eq_true p49
                          replace q49 := eq_true q49
                          have hq51 : (x65_4 : Int) < (x6_5.length : Int) := (by have h_ : (x65_4 : Int) < ((x6_5.length : Int) : Int) := of_decide_eq_true (by with_reducible assumption); first | exact h_ | (have e_ := (Kd.S_reads' HO_6.out).1; omega) | simpa only [List.length_set, List.length_set] using h_)
                          obtain ⟨oki51, ce51, hcl51, hM51, hcc51, hok51, hbk51⟩ := Kd.S_borrow HO_6.out [] (x65_4 : Int) (of_decide_eq_true (by with_reducible assumption)) hq51
                          obtain ⟨ve51_0, rfl, ge51_0⟩ := hM51
                          have hv51 := hcc51 0 _ rfl
                          rw [Nat.add_zero, show ((Kd.slice 2 (Kd.int .i64))).sz = 1 from rfl, Nat.mul_one] at hv51
                          replace hv51 := Option.some.inj (hv51.symm.trans HX355_0.out)
                          subst hv51
                          clear hcc51 hcl51
                          replace ge51_0 := (show Kd.R (Kd.int .i64) 2 _ _ _ _ (rd_L8 x6_5 x65_4) from ge51_0)
                          have HP51 := Kd.R_putg ge51_0 (x70_5 : Int) ji48
                          rw [← Ny362.out] at HP51
                          have HS51 := hbk51 HP51.2 (fun k_ e_ => by injection e_ with e_; subst e_; exact ge51_0.1 _ rfl) (x' := y362) (Kd.M_row HP51.1)
                          rw [← Ny364.out] at HS51
                          have HQ51 := Aside0.mk HS51
                          clear HP51 HS51 hbk51 hok51
                          refine start_ (n := 30) (S := fun w' => w'.cell? (ad351.add (x65_4).toNat) = some (.slice (some (⟨go49, 0, none⟩ : Addr)) (rd_L8 x6_5 x65_4).length c355_0) ∧ w'.cell? (ad351.add (x65_4).toNat) = some (.slice (some (⟨go49, 0, none⟩ : Addr)) (rd_L8 x6_5 x65_4).length c355_0) ∧ w'.cell? ((⟨go49, (x70_5).toNat, none⟩ : Addr)) = some (.int .i64 (rd (rd_L8 x6_5 x65_4) x70_5)) ∧ w'.cell? (ad351.add (x65_4).toNat) = some (.slice (some (⟨go49, 0, none⟩ : Addr)) (rd_L8 x6_5 x65_4).length c355_0) ∧ w'.cell? ⟨go49, (x60_3).toNat, none⟩ = some (.int .i64 (rd (rd_L8 x6_5 x65_4) x60_3)) ∧ w'.cell? (ad351.add (x60_3).toNat) = some (.slice (some ad361) (rd_L8 x6_5 x60_3).length c360_0) ∧ w'.cell? (ad361.add (x70_5).toNat) = some (.int .i64 (rd (rd_L8 x6_5 x60_3) x70_5))) (ds := [29]) #[false, false, false, false, false, false, false, false, false, false, false, false, false, false, false, false, false, false, false, false, false, false, false, false, false, false, false, false, false, false] (by kernel_rfl) rfl rfl ⟨hx355_0, hx356_0, hx357_0, hx358_0, hx359_0, hx360_0, hx361_0⟩ (fun hHeld => ?_); refine with_tabW impl_tightest.tab24 impl_tightest.bits24 (fun HT_ HW_ => ?_)
                          generalize wr.drew = w50 at HO_6 HL351_0 HL353_0 HR351_0 HR353_0 HB GG49 HL355_0 HL356_0 HL358_0 HL360_0 HQ51 HR355_0 HR356_0 HR358_0 HR360_0 HX355_0 HX356_0 HX358_0 HX360_0 hf49_0 hx355_0 hx356_0 hx357_0 hx358_0 hx359_0 hx360_0 hx361_0 hx49_0 hHeld ⊢
                          refine pure_ (i := 0) (N := some 91) (v := ?_) (a' := ?_) #[true, false, false, false, false, false, false, false, false, false, false, false, false, false, false, false, false, false, false, false, false, false, false, false, false, false, false, false, false, false] rfl rfl (any_of HT_.out (by kernel_rfl)) (fun _ _ _ h => h) (Or.inl ⟨by rfl, ?_⟩) ?_ ?_
                          rotate_left
                          ·intro w'
                           go_simp
                           with_reducible rfl
                          rotate_left
                          ·simp only [Act.put, List.setIfInBounds_toArray, List.set_cons_zero, List.set_cons_succ, i64_w, i32_w]
                           rfl
                          refine pure_ (i := 1) (N := some 92) (v := ?_) (a' := ?_) #[true, true, false, false, false, false, false, false, false, false, false, false, false, false, false, false, false, false, false, false, false, false, false, false, false, false, false, false, false, false] rfl rfl (any_of HT_.out (by kernel_rfl)) (fun _ _ _ h => h) (Or.inl ⟨by rfl, ?_⟩) ?_ ?_
                          rotate_left
                          ·intro w'
                           go_simp
                           with_reducible rfl
                          rotate_left
                          ·simp only [Act.put, List.setIfInBounds_toArray, List.set_cons_zero, List.set_cons_succ, i64_w, i32_w]
                           rfl
                          refine pure_ (i := 2) (N := some 93) (v := ?_) (a' := ?_) #[true, true, true, false, false, false, false, false, false, false, false, false, false, false, false, false, false, false, false, false, false, false, false, false, false, false, false, false, false, false] rfl rfl (any_of HT_.out (by kernel_rfl)) (fun _ _ _ h => h) (Or.inl ⟨by rfl, ?_⟩) ?_ ?_
                          rotate_left
                          ·intro w'
                           go_simp
                           with_reducible rfl
                          rotate_left
                          ·simp only [Act.put, List.setIfInBounds_toArray, List.set_cons_zero, List.set_cons_succ, i64_w, i32_w]
                           rfl
                          refine pure_ (i := 4) (N := some 95) (v := ?_) (a' := ?_) #[true, true, true, false, true, false, false, false, false, false, false, false, false, false, false, false, false, false, false, false, false, false, false, false, false, false, false, false, false, false] rfl rfl (any_of HT_.out (by kernel_rfl)) (fun _ _ _ h => h) (Or.inl ⟨by rfl, ?_⟩) ?_ ?_
                          rotate_left
                          ·intro w'
                           go_simp
                           with_reducible rfl
                          rotate_left
                          ·simp only [Act.put, List.setIfInBounds_toArray, List.set_cons_zero, List.set_cons_succ, i64_w, i32_w]
                           rfl
                          refine pure_ (i := 5) (N := some 96) (v := ?_) (a' := ?_) #[true, true, true, false, true, true, false, false, false, false, false, false, false, false, false, false, false, false, false, false, false, false, false, false, false, false, false, false, false, false] rfl rfl (any_of HT_.out (by kernel_rfl)) (fun _ _ _ h => h) (Or.inl ⟨by rfl, ?_⟩) ?_ ?_
                          rotate_left
                          ·intro w'
                           go_simp
                           with_reducible rfl
                          rotate_left
                          ·simp only [Act.put, List.setIfInBounds_toArray, List.set_cons_zero, List.set_cons_succ, i64_w, i32_w]
                           rfl
                          refine pure_ (i := 6) (N := some 97) (v := ?_) (a' := ?_) #[true, true, true, false, true, true, true, false, false, false, false, false, false, false, false, false, false, false, false, false, false, false, false, false, false, false, false, false, false, false] rfl rfl (any_of HT_.out (by kernel_rfl)) (fun _ _ _ h => h) (Or.inl ⟨by rfl, ?_⟩) ?_ ?_
                          rotate_left
                          ·intro w'
                           go_simp
                           with_reducible rfl
                          rotate_left
                          ·simp only [Act.put, List.setIfInBounds_toArray, List.set_cons_zero, List.set_cons_succ, i64_w, i32_w]
                           rfl
                          refine pure_ (i := 7) (N := some 98) (v := ?_) (a' := ?_) #[true, true, true, false, true, true, true, true, false, false, false, false, false, false, false, false, false, false, false, false, false, false, false, false, false, false, false, false, false, false] rfl rfl (any_of HT_.out (by kernel_rfl)) (fun _ _ _ h => h) (Or.inl ⟨by rfl, ?_⟩) ?_ ?_
                          rotate_left
                          ·intro w'
                           go_simp
                           with_reducible rfl
                          rotate_left
                          ·simp only [Act.put, List.setIfInBounds_toArray, List.set_cons_zero, List.set_cons_succ, i64_w, i32_w]
                           rfl
                          refine pure_ (i := 9) (N := some 100) (v := ?_) (a' := ?_) #[true, true, true, false, true, true, true, true, false, true, false, false, false, false, false, false, false, false, false, false, false, false, false, false, false, false, false, false, false, false] rfl rfl (any_of HT_.out (by kernel_rfl)) (fun _ _ _ h => h) (Or.inl ⟨by rfl, ?_⟩) ?_ ?_
                          rotate_left
                          ·intro w'
                           go_simp
                           with_reducible rfl
                          rotate_left
                          ·simp only [Act.put, List.setIfInBounds_toArray, List.set_cons_zero, List.set_cons_succ, i64_w, i32_w]
                           rfl
                          refine pure_ (i := 12) (N := some 103) (v := ?_) (a' := ?_) #[true, true, true, false, true, true, true, true, false, true, false, false, true, false, false, false, false, false, false, false, false, false, false, false, false, false, false, false, false, false] rfl rfl (any_of HT_.out (by kernel_rfl)) (fun _ _ _ h => h) (Or.inl ⟨by rfl, ?_⟩) ?_ ?_
                          rotate_left
                          ·intro w'
                           go_simp
                           with_reducible rfl
                          rotate_left
                          ·simp only [Act.put, List.setIfInBounds_toArray, List.set_cons_zero, List.set_cons_succ, i64_w, i32_w]
                           rfl
                          refine pure_ (i := 13) (N := some 104) (v := ?_) (a' := ?_) #[true, true, true, false, true, true, true, true, false, true, false, false, true, true, false, false, false, false, false, false, false, false, false, false, false, false, false, false, false, false] rfl rfl (any_of HT_.out (by kernel_rfl)) (fun _ _ _ h => h) (Or.inl ⟨by rfl, ?_⟩) ?_ ?_
                          rotate_left
                          ·intro w'
                           go_simp
                           with_reducible rfl
                          rotate_left
                          ·simp only [Act.put, List.setIfInBounds_toArray, List.set_cons_zero, List.set_cons_succ, i64_w, i32_w]
                           rfl
                          refine pure_ (i := 14) (N := some 105) (v := ?_) (a' := ?_) #[true, true, true, false, true, true, true, true, false, true, false, false, true, true, true, false, false, false, false, false, false, false, false, false, false, false, false, false, false, false] rfl rfl (any_of HT_.out (by kernel_rfl)) (fun _ _ _ h => h) (Or.inl ⟨by rfl, ?_⟩) ?_ ?_
                          rotate_left
                          ·intro w'
                           go_simp
                           with_reducible rfl
                          rotate_left
                          ·simp only [Act.put, List.setIfInBounds_toArray, List.set_cons_zero, List.set_cons_succ, i64_w, i32_w]
                           rfl
                          refine pure_ (i := 16) (N := some 107) (v := ?_) (a' := ?_) #[true, true, true, false, true, true, true, true, false, true, false, false, true, true, true, false, true, false, false, false, false, false, false, false, false, false, false, false, false, false] rfl rfl (any_of HT_.out (by kernel_rfl)) (fun _ _ _ h => h) (Or.inl ⟨by rfl, ?_⟩) ?_ ?_
                          rotate_left
                          ·intro w'
                           go_simp
                           with_reducible rfl
                          rotate_left
                          ·simp only [Act.put, List.setIfInBounds_toArray, List.set_cons_zero, List.set_cons_succ, i64_w, i32_w]
                           rfl
                          refine pure_ (i := 19) (N := some 110) (v := ?_) (a' := ?_) #[true, true, true, false, true, true, true, true, false, true, false, false, true, true, true, false, true, false, false, true, false, false, false, false, false, false, false, false, false, false] rfl rfl (any_of HT_.out (by kernel_rfl)) (fun _ _ _ h => h) (Or.inl ⟨by rfl, ?_⟩) ?_ ?_
                          rotate_left
                          ·intro w'
                           go_simp
                           with_reducible rfl
                          rotate_left
                          ·simp only [Act.put, List.setIfInBounds_toArray, List.set_cons_zero, List.set_cons_succ, i64_w, i32_w]
                           rfl
                          refine pure_ (i := 20) (N := some 111) (v := ?_) (a' := ?_) #[true, true, true, false, true, true, true, true, false, true, false, false, true, true, true, false, true, false, false, true, true, false, false, false, false, false, false, false, false, false] rfl rfl (any_of HT_.out (by kernel_rfl)) (fun _ _ _ h => h) (Or.inl ⟨by rfl, ?_⟩) ?_ ?_
                          rotate_left
                          ·intro w'
                           go_simp
                           with_reducible rfl
                          rotate_left
                          ·simp only [Act.put, List.setIfInBounds_toArray, List.set_cons_zero, List.set_cons_succ, i64_w, i32_w]
                           rfl
                          refine pure_ (i := 21) (N := some 112) (v := ?_) (a' := ?_) #[true, true, true, false, true, true, true, true, false, true, false, false, true, true, true, false, true, false, false, true, true, true, false, false, false, false, false, false, false, false] rfl rfl (any_of HT_.out (by kernel_rfl)) (fun _ _ _ h => h) (Or.inl ⟨by rfl, ?_⟩) ?_ ?_
                          rotate_left
                          ·intro w'
                           go_simp
                           with_reducible rfl
                          rotate_left
                          ·simp only [Act.put, List.setIfInBounds_toArray, List.set_cons_zero, List.set_cons_succ, i64_w, i32_w]
                           rfl
                          refine pure_ (i := 23) (N := some 114) (v := ?_) (a' := ?_) #[true, true, true, false, true, true, true, true, false, true, false, false, true, true, true, false, true, false, false, true, true, true, false, true, false, false, false, false, false, false] rfl rfl (any_of HT_.out (by kernel_rfl)) (fun _ _ _ h => h) (Or.inl ⟨by rfl, ?_⟩) ?_ ?_
                          rotate_left
                          ·intro w'
                           go_simp
                           with_reducible rfl
                          rotate_left
                          ·simp only [Act.put, List.setIfInBounds_toArray, List.set_cons_zero, List.set_cons_succ, i64_w, i32_w]
                           rfl
                          refine take_ (i := 3) (N := some 94) (v := ?_) (a' := ?_) #[true, true, true, true, true, true, true, true, false, true, false, false, true, true, true, false, true, false, false, true, true, true, false, true, false, false, false, false, false, false] rfl rfl (take_ofW HT_.out HW_.out (by kernel_rfl)) (fun _ _ _ h => h) (Or.inl ⟨by rfl, ?_⟩) hHeld ?_ ?_
                          rotate_left
                          ·rintro w' ⟨s0, s1, s2, s3, s4, s5, s6⟩
                           go_simp
                           with_reducible rfl
                          rotate_left
                          ·simp only [Act.put, List.setIfInBounds_toArray, List.set_cons_zero, List.set_cons_succ, i64_w, i32_w]
                           rfl
                          refine take_ (i := 8) (N := some 99) (v := ?_) (a' := ?_) #[true, true, true, true, true, true, true, true, true, true, false, false, true, true, true, false, true, false, false, true, true, true, false, true, false, false, false, false, false, false] rfl rfl (take_ofW HT_.out HW_.out (by kernel_rfl)) (fun _ _ _ h => h) (Or.inl ⟨by rfl, ?_⟩) hHeld ?_ ?_
                          rotate_left
                          ·rintro w' ⟨s0, s1, s2, s3, s4, s5, s6⟩
                           go_simp
                           with_reducible rfl
                          rotate_left
                          ·simp only [Act.put, List.setIfInBounds_toArray, List.set_cons_zero, List.set_cons_succ, i64_w, i32_w]
                           rfl
                          refine pure_ (i := 10) (N := some 101) (v := ?_) (a' := ?_) #[true, true, true, true, true, true, true, true, true, true, true, false, true, true, true, false, true, false, false, true, true, true, false, true, false, false, false, false, false, false] rfl rfl (any_of HT_.out (by kernel_rfl)) (fun _ _ _ h => h) (Or.inl ⟨by rfl, ?_⟩) ?_ ?_
                          rotate_left
                          ·intro w'
                           go_simp
                           with_reducible rfl
                          rotate_left
                          ·simp only [Act.put, List.setIfInBounds_toArray, List.set_cons_zero, List.set_cons_succ, i64_w, i32_w]
                           rfl
                          refine take_ (i := 11) (N := some 102) (v := ?_) (a' := ?_) #[true, true, true, true, true, true, true, true, true, true, true, true, true, true, true, false, true, false, false, true, true, true, false, true, false, false, false, false, false, false] rfl rfl (take_ofW HT_.out HW_.out (by kernel_rfl)) (fun _ _ _ h => h) (Or.inl ⟨by rfl, ?_⟩) hHeld ?_ ?_
                          rotate_left
                          ·rintro w' ⟨s0, s1, s2, s3, s4, s5, s6⟩
                           go_simp
                           with_reducible rfl
                          rotate_left
                          ·simp only [Act.put, List.setIfInBounds_toArray, List.set_cons_zero, List.set_cons_succ, i64_w, i32_w]
                           rfl
                          refine take_ (i := 15) (N := some 106) (v := ?_) (a' := ?_) #[true, true, true, true, true, true, true, true, true, true, true, true, true, true, true, true, true, false, false, true, true, true, false, true, false, false, false, false, false, false] rfl rfl (take_ofW HT_.out HW_.out (by kernel_rfl)) (fun _ _ _ h => h) (Or.inl ⟨by rfl, ?_⟩) hHeld ?_ ?_
                          rotate_left
                          ·rintro w' ⟨s0, s1, s2, s3, s4, s5, s6⟩
                           go_simp
                           with_reducible rfl
                          rotate_left
                          ·simp only [Act.put, List.setIfInBounds_toArray, List.set_cons_zero, List.set_cons_succ, i64_w, i32_w]
                           rfl
                          refine pure_ (i := 17) (N := some 108) (v := ?_) (a' := ?_) #[true, true, true, true, true, true, true, true, true, true, true, true, true, true, true, true, true, true, false, true, true, true, false, true, false, false, false, false, false, false] rfl rfl (any_of HT_.out (by kernel_rfl)) (fun _ _ _ h => h) (Or.inl ⟨by rfl, ?_⟩) ?_ ?_
                          rotate_left
                          ·intro w'
                           go_simp
                           with_reducible rfl
                          rotate_left
                          ·simp only [Act.put, List.setIfInBounds_toArray, List.set_cons_zero, List.set_cons_succ, i64_w, i32_w]
                           rfl
                          refine take_ (i := 18) (N := some 109) (v := ?_) (a' := ?_) #[true, true, true, true, true, true, true, true, true, true, true, true, true, true, true, true, true, true, true, true, true, true, false, true, false, false, false, false, false, false] rfl rfl (take_ofW HT_.out HW_.out (by kernel_rfl)) (fun _ _ _ h => h) (Or.inl ⟨by rfl, ?_⟩) hHeld ?_ ?_
                          rotate_left
                          ·rintro w' ⟨s0, s1, s2, s3, s4, s5, s6⟩
                           go_simp
                           with_reducible rfl
                          rotate_left
                          ·simp only [Act.put, List.setIfInBounds_toArray, List.set_cons_zero, List.set_cons_succ, i64_w, i32_w]
                           rfl
                          refine take_ (i := 22) (N := some 113) (v := ?_) (a' := ?_) #[true, true, true, true, true, true, true, true, true, true, true, true, true, true, true, true, true, true, true, true, true, true, true, true, false, false, false, false, false, false] rfl rfl (take_ofW HT_.out HW_.out (by kernel_rfl)) (fun _ _ _ h => h) (Or.inl ⟨by rfl, ?_⟩) hHeld ?_ ?_
                          rotate_left
                          ·rintro w' ⟨s0, s1, s2, s3, s4, s5, s6⟩
                           go_simp
                           with_reducible rfl
                          rotate_left
                          ·simp only [Act.put, List.setIfInBounds_toArray, List.set_cons_zero, List.set_cons_succ, i64_w, i32_w]
                           rfl
                          refine pure_ (i := 24) (N := some 115) (v := ?_) (a' := ?_) #[true, true, true, true, true, true, true, true, true, true, true, true, true, true, true, true, true, true, true, true, true, true, true, true, true, false, false, false, false, false] rfl rfl (any_of HT_.out (by kernel_rfl)) (fun _ _ _ h => h) (Or.inl ⟨by rfl, ?_⟩) ?_ ?_
                          rotate_left
                          ·intro w'
                           go_simp
                           with_reducible rfl
                          rotate_left
                          ·simp only [Act.put, List.setIfInBounds_toArray, List.set_cons_zero, List.set_cons_succ, i64_w, i32_w]
                           rfl
                          refine take_ (i := 25) (N := some 116) (v := ?_) (a' := ?_) #[true, true, true, true, true, true, true, true, true, true, true, true, true, true, true, true, true, true, true, true, true, true, true, true, true, true, false, false, false, false] rfl rfl (take_ofW HT_.out HW_.out (by kernel_rfl)) (fun _ _ _ h => h) (Or.inl ⟨by rfl, ?_⟩) hHeld ?_ ?_
                          rotate_left
                          ·rintro w' ⟨s0, s1, s2, s3, s4, s5, s6⟩
                           go_simp
                           with_reducible rfl
                          rotate_left
                          ·simp only [Act.put, List.setIfInBounds_toArray, List.set_cons_zero, List.set_cons_succ, i64_w, i32_w]
                           rfl
                          refine pure_ (i := 26) (N := some 117) (v := ?_) (a' := ?_) #[true, true, true, true, true, true, true, true, true, true, true, true, true, true, true, true, true, true, true, true, true, true, true, true, true, true, true, false, false, false] rfl rfl (any_of HT_.out (by kernel_rfl)) (fun _ _ _ h => h) (Or.inl ⟨by rfl, ?_⟩) ?_ ?_
                          rotate_left
                          ·intro w'
                           go_simp
                           with_reducible rfl
                          rotate_left
                          ·simp only [Act.put, List.setIfInBounds_toArray, List.set_cons_zero, List.set_cons_succ, i64_w, i32_w]
                           rfl
                          refine pure_ (i := 27) (N := some 118) (v := ?_) (a' := ?_) #[true, true, true, true, true, true, true, true, true, true, true, true, true, true, true, true, true, true, true, true, true, true, true, true, true, true, true, true, false, false] rfl rfl (any_of HT_.out (by kernel_rfl)) (fun _ _ _ h => h) (Or.inl ⟨by rfl, ?_⟩) ?_ ?_
                          rotate_left
                          ·intro w'
                           go_simp
                           with_reducible rfl
                          rotate_left
                          ·simp only [Act.put, List.setIfInBounds_toArray, List.set_cons_zero, List.set_cons_succ, i64_w, i32_w]
                           rfl
                          refine pure_ (i := 28) (N := some 119) (v := ?_) (a' := ?_) #[true, true, true, true, true, true, true, true, true, true, true, true, true, true, true, true, true, true, true, true, true, true, true, true, true, true, true, true, true, false] rfl rfl (any_of HT_.out (by kernel_rfl)) (fun _ _ _ h => h) (Or.inl ⟨by rfl, ?_⟩) ?_ ?_
                          rotate_left
                          ·intro w'
                           go_simp
                           with_reducible rfl
                          rotate_left
                          ·simp only [Act.put, List.setIfInBounds_toArray, List.set_cons_zero, List.set_cons_succ, i64_w, i32_w]
                           rfl
                          refine last_ (i := 29) (N := none) #[true, true, true, true, true, true, true, true, true, true, true, true, true, true, true, true, true, true, true, true, true, true, true, true, true, true, true, true, true, true] rfl rfl (one_of HT_.out (by kernel_rfl)) (by decide) (fun K hK => ?_)
                          refine skip_ (w1 := ?_) (by rfl) rfl ?_ ?_
                          rotate_left
                          ·go_simp
                           rfl
                          refine hK.out _ _ ?_
                          clear hK K
                          refine done_ (done_of HT_.out (by kernel_rfl)) ?_
                          try go_wp2
                          (try simp only [← hl6_5])
                          go_roundg k5
                          case measure => have := HK1.out; have := HK2.out; have := HK3.out; have := HK4.out; have := HK5.out; omega
                          case rel => exact ⟨(y364), (wrap64 (x70_5 + 1)), (by first | rfl | (simp; done) | (simp [*]; done)), H', ⟨by have := HK1.out; have := HK2.out; have := HK3.out; have := HK4.out; have := HK5.out; omega⟩, ⟨by (try simp only [hl6_3]); (try simp only [hl6_4]); (try simp only [hl6_5]); (with_reducible repeat (first | apply Kd.S_alloc | apply Kd.S_drewN | apply Kd.S_drew)); exact HQ51.out⟩, ⟨by repeat (first | (with_reducible first | exact HB.out | apply below_alloc | apply pw_below_drewN | apply below_drew1 | refine below_set ?_ GB49.out) | exact HB.out)⟩⟩
                         ·rw [if_neg c47] at H
                          exact absurd H (by simp)
                        ·rw [if_neg c46] at H
                         have c46b0 : decide ((rd (rd_L8 x6_5 x60_3) x70_5) < 1000000) = false := decide_eq_false c46
                         clear c46
                         have H' := Aside0.mk H
                         clear H
                         have p351 : 0 ≤ (x65_4 : Int) := of_decide_eq_true (by with_reducible assumption)
                         have q351 : x65_4 < (x6_5.length : Int) := of_decide_eq_true (by with_reducible assumption)
                         obtain ⟨ad351, A351_0, c351_0, e351, hx351_0, hl351_0, hi351_0⟩ := at_L8 (Kd.S_reads' HO_6.out).2.2 x65_4 p351 q351
                         cases e351
                         obtain ⟨ce351, hce351, hMe351, hcc351⟩ := Kd.S_get HO_6.out [] x65_4 p351 (by first | exact q351 | exact of_decide_eq_true (by with_reducible assumption) | (have e_ := (Kd.S_reads' HO_6.out).1; omega))
                         obtain ⟨ve351_0, rfl, ge351_0⟩ := hMe351
                         have hv351_0 := hcc351 0 _ rfl
                         rw [Nat.add_zero, show ((Kd.slice 2 (Kd.int .i64))).sz = 1 from rfl, Nat.mul_one] at hv351_0
                         replace hv351_0 := Option.some.inj (hv351_0.symm.trans hx351_0)
                         rw [hv351_0] at ge351_0
                         have HL351_0 := Aside0.mk (show Kd.R (Kd.int .i64) 2 _ _ _ _ (rd_L8 x6_5 x65_4) from ge351_0)
                         clear hv351_0 ge351_0
                         have HX351_0 := Aside0.mk hx351_0
                         clear hcc351 hce351
                         have HR351_0 := Aside0.mk hi351_0
                         have HC351_0 := Aside0.mk hl351_0
                         clear hi351_0 hl351_0
                         replace p351 := eq_true p351
                         replace q351 := eq_true q351
                         have p352 : 0 ≤ (x60_3 : Int) := of_decide_eq_true (by with_reducible assumption)
                         have q352 : x60_3 < ((rd_L8 x6_5 x65_4).length : Int) := of_decide_eq_true (by with_reducible assumption)
                         obtain ⟨ad352, e352, hx352_0⟩ := Kd.at_int (by repeat (first | (with_reducible exact HR351_0.out) | (with_reducible refine Kd.C_alloc ?_ _) | (with_reducible refine Kd.C_drewN ?_ _) | (with_reducible refine Kd.C_drew ?_) | exact HR351_0.out)) x60_3 p352 q352
                         cases e352
                         replace p352 := eq_true p352
                         replace q352 := eq_true q352
                         have p353 : 0 ≤ (x60_3 : Int) := of_decide_eq_true (by with_reducible assumption)
                         have q353 : x60_3 < (x6_5.length : Int) := of_decide_eq_true (by with_reducible assumption)
                         obtain ⟨ad353, A353_0, c353_0, e353, hx353_0, hl353_0, hi353_0⟩ := at_L8 (Kd.S_reads' HO_6.out).2.2 x60_3 p353 q353
                         obtain rfl : ad351 = ad353 := (by injection e353)
                         obtain ⟨ce353, hce353, hMe353, hcc353⟩ := Kd.S_get HO_6.out [] x60_3 p353 (by first | exact q353 | exact of_decide_eq_true (by with_reducible assumption) | (have e_ := (Kd.S_reads' HO_6.out).1; omega))
                         obtain ⟨ve353_0, rfl, ge353_0⟩ := hMe353
                         have hv353_0 := hcc353 0 _ rfl
                         rw [Nat.add_zero, show ((Kd.slice 2 (Kd.int .i64))).sz = 1 from rfl, Nat.mul_one] at hv353_0
                         replace hv353_0 := Option.some.inj (hv353_0.symm.trans hx353_0)
                         rw [hv353_0] at ge353_0
                         have HL353_0 := Aside0.mk (show Kd.R (Kd.int .i64) 2 _ _ _ _ (rd_L8 x6_5 x60_3) from ge353_0)
                         clear hv353_0 ge353_0
                         have HX353_0 := Aside0.mk hx353_0
                         clear hcc353 hce353
                         have HR353_0 := Aside0.mk hi353_0
                         have HC353_0 := Aside0.mk hl353_0
                         clear hi353_0 hl353_0
                         replace p353 := eq_true p353
                         replace q353 := eq_true q353
                         have p354 : 0 ≤ (x70_5 : Int) := of_decide_eq_true (by with_reducible assumption)
                         have q354 : x70_5 < ((rd_L8 x6_5 x60_3).length : Int) := of_decide_eq_true (by with_reducible assumption)
                         obtain ⟨ad354, e354, hx354_0⟩ := Kd.at_int (by repeat (first | (with_reducible exact HR353_0.out) | (with_reducible refine Kd.C_alloc ?_ _) | (with_reducible refine Kd.C_drewN ?_ _) | (with_reducible refine Kd.C_drew ?_) | exact HR353_0.out)) x70_5 p354 q354
                         cases e354
                         replace p354 := eq_true p354
                         replace q354 := eq_true q354
                         go_wp2
                         (try simp only [← hl6_5])
                         go_roundg k5
                         case measure => have := HK1.out; have := HK2.out; have := HK3.out; have := HK4.out; have := HK5.out; omega
                         case rel => exact ⟨(x6_5), (wrap64 (x70_5 + 1)), (by first | rfl | (simp; done) | (simp [*]; done)), H', ⟨by have := HK1.out; have := HK2.out; have := HK3.out; have := HK4.out; have := HK5.out; omega⟩, ⟨by (try simp only [hl6_3]); (try simp only [hl6_4]); (try simp only [hl6_5]); (with_reducible repeat (first | apply Kd.S_alloc | apply Kd.S_drewN | apply Kd.S_drew)); exact HO_6.out⟩, ⟨by repeat (first | (with_reducible first | exact HB.out | apply below_alloc | apply pw_below_drewN | apply below_drew1) | exact HB.out)⟩⟩
                       ·rw [if_neg c45] at H
                        exact absurd H (by simp)
                      ·rw [if_neg c44] at H
                       exact absurd H (by simp)
                     ·rw [if_neg c43] at H
                      exact absurd H (by simp)
                    ·rw [if_neg c42] at H
                     have c42b0 : decide ((rd (rd_L8 x6_5 x65_4) x60_3) < 1000000) = false := decide_eq_false c42
                     clear c42
                     have H' := Aside0.mk H
                     clear H
                     have p351 : 0 ≤ (x65_4 : Int) := of_decide_eq_true (by with_reducible assumption)
                     have q351 : x65_4 < (x6_5.length : Int) := of_decide_eq_true (by with_reducible assumption)
                     obtain ⟨ad351, A351_0, c351_0, e351, hx351_0, hl351_0, hi351_0⟩ := at_L8 (Kd.S_reads' HO_6.out).2.2 x65_4 p351 q351
                     cases e351
                     obtain ⟨ce351, hce351, hMe351, hcc351⟩ := Kd.S_get HO_6.out [] x65_4 p351 (by first | exact q351 | exact of_decide_eq_true (by with_reducible assumption) | (have e_ := (Kd.S_reads' HO_6.out).1; omega))
                     obtain ⟨ve351_0, rfl, ge351_0⟩ := hMe351
                     have hv351_0 := hcc351 0 _ rfl
                     rw [Nat.add_zero, show ((Kd.slice 2 (Kd.int .i64))).sz = 1 from rfl, Nat.mul_one] at hv351_0
                     replace hv351_0 := Option.some.inj (hv351_0.symm.trans hx351_0)
                     rw [hv351_0] at ge351_0
                     have HL351_0 := Aside0.mk (show Kd.R (Kd.int .i64) 2 _ _ _ _ (rd_L8 x6_5 x65_4) from ge351_0)
                     clear hv351_0 ge351_0
                     have HX351_0 := Aside0.mk hx351_0
                     clear hcc351 hce351
                     have HR351_0 := Aside0.mk hi351_0
                     have HC351_0 := Aside0.mk hl351_0
                     clear hi351_0 hl351_0
                     replace p351 := eq_true p351
                     replace q351 := eq_true q351
                     have p352 : 0 ≤ (x60_3 : Int) := of_decide_eq_true (by with_reducible assumption)
                     have q352 : x60_3 < ((rd_L8 x6_5 x65_4).length : Int) := of_decide_eq_true (by with_reducible assumption)
                     obtain ⟨ad352, e352, hx352_0⟩ := Kd.at_int (by repeat (first | (with_reducible exact HR351_0.out) | (with_reducible refine Kd.C_alloc ?_ _) | (with_reducible refine Kd.C_drewN ?_ _) | (with_reducible refine Kd.C_drew ?_) | exact HR351_0.out)) x60_3 p352 q352
                     cases e352
                     replace p352 := eq_true p352
                     replace q352 := eq_true q352
                     go_wp2
                     (try simp only [← hl6_5])
                     go_roundg k5
                     case measure => have := HK1.out; have := HK2.out; have := HK3.out; have := HK4.out; have := HK5.out; omega
                     case rel => exact ⟨(x6_5), (wrap64 (x70_5 + 1)), (by first | rfl | (simp; done) | (simp [*]; done)), H', ⟨by have := HK1.out; have := HK2.out; have := HK3.out; have := HK4.out; have := HK5.out; omega⟩, ⟨by (try simp only [hl6_3]); (try simp only [hl6_4]); (try simp only [hl6_5]); (with_reducible repeat (first | apply Kd.S_alloc | apply Kd.S_drewN | apply Kd.S_drew)); exact HO_6.out⟩, ⟨by repeat (first | (with_reducible first | exact HB.out | apply below_alloc | apply pw_below_drewN | apply below_drew1) | exact HB.out)⟩⟩
                   ·rw [if_neg c41] at H
                    exact absurd H (by simp)
                  ·rw [if_neg c40] at H
                   exact absurd H (by simp)
                 ·rw [if_neg c39] at H
                  exact absurd H (by simp)
                ·rw [if_neg c38] at H
                 exact absurd H (by simp)
               ·rw [if_neg c37] at H
                have c37b0 : decide (x70_5 < (x6_4.length : Int)) = false := decide_eq_false c37
                have c37b0l := c37b0; (try simp only [hl6_5] at c37b0l)
                clear c37
                have H' := Aside0.mk H
                clear H
                go_wp2
                (try simp only [← hl6_4, ← hl6_5])
                go_roundg k5
                case measure => have := HK1.out; have := HK2.out; have := HK3.out; have := HK4.out; have := HK5.out; omega
                case rel => exact ⟨(x6_5), (wrap64 (x65_4 + 1)), (by first | rfl | (simp; done) | (simp [*]; done)), H', ⟨by have := HK1.out; have := HK2.out; have := HK3.out; have := HK4.out; have := HK5.out; omega⟩, ⟨by (try simp only [hl6_3]); (try simp only [hl6_4]); (try simp only [hl6_5]); (with_reducible repeat (first | apply Kd.S_alloc | apply Kd.S_drewN | apply Kd.S_drew)); exact HO_6.out⟩, ⟨by repeat (first | (with_reducible first | exact HB.out | apply below_alloc | apply pw_below_drewN | apply below_drew1) | exact HB.out)⟩⟩
            ·rw [if_neg c36] at H
             have c36b0 : decide (x65_4 < (x6_3.length : Int)) = false := decide_eq_false c36
             have c36b0l := c36b0; (try simp only [hl6_4] at c36b0l)
             clear c36
             have H' := Aside0.mk H
             clear H
             go_wp2
             (try simp only [← hl6_3, ← hl6_4])
             go_roundg k4
             case measure => have := HK1.out; have := HK2.out; have := HK3.out; have := HK4.out; omega
             case rel => exact ⟨(x6_4), (wrap64 (x60_3 + 1)), (by first | rfl | (simp; done) | (simp [*]; done)), H', ⟨by have := HK1.out; have := HK2.out; have := HK3.out; have := HK4.out; omega⟩, ⟨by (try simp only [hl6_3]); (try simp only [hl6_4]); (with_reducible repeat (first | apply Kd.S_alloc | apply Kd.S_drewN | apply Kd.S_drew)); exact HO_6.out⟩, ⟨by repeat (first | (with_reducible first | exact HB.out | apply below_alloc | apply pw_below_drewN | apply below_drew1) | exact HB.out)⟩⟩
         ·rw [if_neg c35] at H
          have c35b0 : decide (x60_3 < (x6_2.length : Int)) = false := decide_eq_false c35
          have c35b0l := c35b0; (try simp only [hl6_3] at c35b0l)
          clear c35
          have H' := Aside0.mk H
          clear H
          go_wp2
          go_loopg [125] k3 (fun kq v125 w' => ∃ (x125_4 : Int), v125 = .int .i64 x125_4 ∧ Aside0 (impl_tightest.l5 kq x6_3 (x6_3.length : Int) x125_4 = some (r1, r2)) ∧ Aside0 (kq ≤ k3) ∧ Aside0 (Kd.S (Kd.slice 2 (Kd.int .i64)) 33 w' w.heap.size (fun _ => True) (.slice Ao34 x6_3.length co34) x6_3) ∧ Aside0 (Below w.heap.size w w'))
          case atStart => exact ⟨(0), (by first | rfl | (simp; done) | (simp [*]; done)), H', ⟨Nat.le_refl _⟩, ⟨by (try simp only [hl6_3]); (with_reducible repeat (first | apply Kd.S_alloc | apply Kd.S_drewN | apply Kd.S_drew)); exact HO_6.out⟩, ⟨by repeat (first | (with_reducible first | exact HB.out | apply below_alloc | apply pw_below_drewN | apply below_drew1) | exact HB.out)⟩⟩
          case round =>
           clear H'
           try clear p2
           try clear c3
           try clear p3
           try clear q3
           try clear hx3
           try clear c4
           try clear p4
           try clear q4
           try clear hx4
           try clear hf4
           try clear c5
           try clear q5
           try clear p6
           try clear c35
           try clear c35b0
           try clear p35
           try clear q35
           try clear hx35
           try clear c36
           try clear c36b0
           try clear p36
           try clear q36
           try clear hx36
           try clear c37
           try clear c37b0
           try clear c38
           try clear c39
           try clear c40
           try clear c41
           try clear c42
           try clear c42b0
           try clear c43
           try clear c44
           try clear c45
           try clear c46
           try clear c46b0
           try clear c47
           try clear p49
           try clear q49
           try clear hx49
           try clear hf49
           try clear c51
           try clear q51
           try clear hx351_0
           try clear hx352_0
           try clear hx353_0
           try clear hx354_0
           try clear hx355_0
           try clear hx356_0
           try clear hx357_0
           try clear hx358_0
           try clear hx359_0
           try clear hx360_0
           try clear hx361_0
           try clear hx49_0
           try clear p351
           try clear p352
           try clear p353
           try clear p354
           try clear p355
           try clear p356
           try clear p357
           try clear p358
           try clear p359
           try clear p360
           try clear p361
           try clear p49
           try clear q351
           try clear q352
           try clear q353
           try clear q354
           try clear q355
           try clear q356
           try clear q357
           try clear q358
           try clear q359
           try clear q360
           try clear q361
           try clear q49
           obtain ⟨x125_4, rfl, HA, HK4, HO_6, HB⟩ := hrel
           cases gk with
           | zero => exact absurd HA.out (by simp [impl_tightest.l5])
           | succ k4 =>
            have H := HA.out
            clear HA
            simp only [impl_tightest.l5] at H
            by_cases c53 : x125_4 < (x6_3.length : Int)
            ·rw [if_pos c53] at H
             have c53b0 : decide (x125_4 < (x6_3.length : Int)) = true := decide_eq_true c53
             clear c53
             by_cases c54 : 0 ≤ x125_4
             ·rw [if_pos c54] at H
              have c54b0 : decide (0 ≤ x125_4) = true := decide_eq_true c54
              clear c54
              by_cases c55 : x125_4 < (x6_3.length : Int)
              ·rw [if_pos c55] at H
               have c55b0 : decide (x125_4 < (x6_3.length : Int)) = true := decide_eq_true c55
               clear c55
               by_cases c56 : x125_4 < ((rd_L8 x6_3 x125_4).length : Int)
               ·rw [if_pos c56] at H
                have c56b0 : decide (x125_4 < ((rd_L8 x6_3 x125_4).length : Int)) = true := decide_eq_true c56
                clear c56
                by_cases c57 : (rd (rd_L8 x6_3 x125_4) x125_4) < 0
                ·rw [if_pos c57] at H
                 have c57b0 : decide ((rd (rd_L8 x6_3 x125_4) x125_4) < 0) = true := decide_eq_true c57
                 clear c57
                 simp only [Option.some.injEq, Prod.mk.injEq] at H
                 obtain ⟨rfl, rfl⟩ := H
                 have p365 : 0 ≤ (x125_4 : Int) := of_decide_eq_true (by with_reducible assumption)
                 have q365 : x125_4 < (x6_3.length : Int) := of_decide_eq_true (by with_reducible assumption)
                 obtain ⟨ad365, A365_0, c365_0, e365, hx365_0, hl365_0, hi365_0⟩ := at_L8 (Kd.S_reads' HO_6.out).2.2 x125_4 p365 q365
                 cases e365
                 obtain ⟨ce365, hce365, hMe365, hcc365⟩ := Kd.S_get HO_6.out [] x125_4 p365 (by first | exact q365 | exact of_decide_eq_true (by with_reducible assumption) | (have e_ := (Kd.S_reads' HO_6.out).1; omega))
                 obtain ⟨ve365_0, rfl, ge365_0⟩ := hMe365
                 have hv365_0 := hcc365 0 _ rfl
                 rw [Nat.add_zero, show ((Kd.slice 2 (Kd.int .i64))).sz = 1 from rfl, Nat.mul_one] at hv365_0
                 replace hv365_0 := Option.some.inj (hv365_0.symm.trans hx365_0)
                 rw [hv365_0] at ge365_0
                 have HL365_0 := Aside0.mk (show Kd.R (Kd.int .i64) 2 _ _ _ _ (rd_L8 x6_3 x125_4) from ge365_0)
                 clear hv365_0 ge365_0
                 have HX365_0 := Aside0.mk hx365_0
                 clear hcc365 hce365
                 have HR365_0 := Aside0.mk hi365_0
                 have HC365_0 := Aside0.mk hl365_0
                 clear hi365_0 hl365_0
                 replace p365 := eq_true p365
                 replace q365 := eq_true q365
                 have p366 : 0 ≤ (x125_4 : Int) := of_decide_eq_true (by with_reducible assumption)
                 have q366 : x125_4 < ((rd_L8 x6_3 x125_4).length : Int) := of_decide_eq_true (by with_reducible assumption)
                 obtain ⟨ad366, e366, hx366_0⟩ := Kd.at_int (by repeat (first | (with_reducible exact HR365_0.out) | (with_reducible refine Kd.C_alloc ?_ _) | (with_reducible refine Kd.C_drewN ?_ _) | (with_reducible refine Kd.C_drew ?_) | exact HR365_0.out)) x125_4 p366 q366
                 cases e366
                 replace p366 := eq_true p366
                 replace q366 := eq_true q366
                 go_wp2
                 go_ret2
                 exact ⟨_, by first | rfl | (simp [errW_none, errW_some] <;> rfl) | (simp [*, errW_none, errW_some] <;> rfl), by first | exact Kd.S_nil _ _ _ _ _ | exact Kd.N_nil _ _ _ _ _ | exact Kd.V_nil _ _ _ _ _ | exact Kd.Q_nil _ _ _ _ _ | exact Kd.R_nil _ _ _ _ _, by repeat (first | (with_reducible first | exact HB.out | apply below_alloc | apply pw_below_drewN | apply below_drew1) | exact HB.out)⟩
                ·rw [if_neg c57] at H
                 have c57b0 : decide ((rd (rd_L8 x6_3 x125_4) x125_4) < 0) = false := decide_eq_false c57
                 clear c57
                 have H' := Aside0.mk H
                 clear H
                 have p365 : 0 ≤ (x125_4 : Int) := of_decide_eq_true (by with_reducible assumption)
                 have q365 : x125_4 < (x6_3.length : Int) := of_decide_eq_true (by with_reducible assumption)
                 obtain ⟨ad365, A365_0, c365_0, e365, hx365_0, hl365_0, hi365_0⟩ := at_L8 (Kd.S_reads' HO_6.out).2.2 x125_4 p365 q365
                 cases e365
                 obtain ⟨ce365, hce365, hMe365, hcc365⟩ := Kd.S_get HO_6.out [] x125_4 p365 (by first | exact q365 | exact of_decide_eq_true (by with_reducible assumption) | (have e_ := (Kd.S_reads' HO_6.out).1; omega))
                 obtain ⟨ve365_0, rfl, ge365_0⟩ := hMe365
                 have hv365_0 := hcc365 0 _ rfl
                 rw [Nat.add_zero, show ((Kd.slice 2 (Kd.int .i64))).sz = 1 from rfl, Nat.mul_one] at hv365_0
                 replace hv365_0 := Option.some.inj (hv365_0.symm.trans hx365_0)
                 rw [hv365_0] at ge365_0
                 have HL365_0 := Aside0.mk (show Kd.R (Kd.int .i64) 2 _ _ _ _ (rd_L8 x6_3 x125_4) from ge365_0)
                 clear hv365_0 ge365_0
                 have HX365_0 := Aside0.mk hx365_0
                 clear hcc365 hce365
                 have HR365_0 := Aside0.mk hi365_0
                 have HC365_0 := Aside0.mk hl365_0
                 clear hi365_0 hl365_0
                 replace p365 := eq_true p365
                 replace q365 := eq_true q365
                 have p366 : 0 ≤ (x125_4 : Int) := of_decide_eq_true (by with_reducible assumption)
                 have q366 : x125_4 < ((rd_L8 x6_3 x125_4).length : Int) := of_decide_eq_true (by with_reducible assumption)
                 obtain ⟨ad366, e366, hx366_0⟩ := Kd.at_int (by repeat (first | (with_reducible exact HR365_0.out) | (with_reducible refine Kd.C_alloc ?_ _) | (with_reducible refine Kd.C_drewN ?_ _) | (with_reducible refine Kd.C_drew ?_) | exact HR365_0.out)) x125_4 p366 q366
                 cases e366
                 replace p366 := eq_true p366
                 replace q366 := eq_true q366
                 go_wp2
                 go_roundg k4
                 case measure => have := HK1.out; have := HK2.out; have := HK3.out; have := HK4.out; omega
                 case rel => exact ⟨(wrap64 (x125_4 + 1)), (by first | rfl | (simp; done) | (simp [*]; done)), H', ⟨by have := HK1.out; have := HK2.out; have := HK3.out; have := HK4.out; omega⟩, ⟨by (try simp only [hl6_3]); (with_reducible repeat (first | apply Kd.S_alloc | apply Kd.S_drewN | apply Kd.S_drew)); exact HO_6.out⟩, ⟨by repeat (first | (with_reducible first | exact HB.out | apply below_alloc | apply pw_below_drewN | apply below_drew1) | exact HB.out)⟩⟩
               ·rw [if_neg c56] at H
                exact absurd H (by simp)
              ·rw [if_neg c55] at H
               exact absurd H (by simp)
             ·rw [if_neg c54] at H
              exact absurd H (by simp)
            ·rw [if_neg c53] at H
             have c53b0 : decide (x125_4 < (x6_3.length : Int)) = false := decide_eq_false c53
             clear c53
             simp only [Option.some.injEq, Prod.mk.injEq] at H
             obtain ⟨rfl, rfl⟩ := H
             go_wp2
             go_ret2
             exact ⟨_, by first | rfl | (simp [errW_none, errW_some] <;> rfl) | (simp [*, errW_none, errW_some] <;> rfl), by (with_reducible repeat (first | apply Kd.S_alloc | apply Kd.S_drewN | apply Kd.S_drew)); exact HO_6.out, by repeat (first | (with_reducible first | exact HB.out | apply below_alloc | apply pw_below_drewN | apply below_drew1) | exact HB.out)⟩

end Go.Proofs.Ytljboamepnhfpaa.Pa

namespace Go.Proofs.Ytljboamepnhfpaa.Pa
open Go.RowKit Go.Proofs.YtljboamepnhfpaaW.PrintWords Go.Proofs.YtljboamepnhfpaaW.PrintLast Go.Proofs.YtljboamepnhfpaaW.PrintMore
attribute [local go_sem] max2_int min2_int max_two min_two max_three min_three max_four min_four   -- for this text's walks alone
set_option linter.unusedVariables false
set_option linter.unusedSimpArgs false

/-! ### spec_l00In: function 53 -/
def spec_l00In.f (a0 : Int) (a1 : Int) (a2 : Int) : Option (Bool) := if a0 ≥ a1 then (some (decide (a0 ≤ a2))) else (some false)
set_option maxHeartbeats 8000000 in
set_option maxRecDepth 100000 in
theorem spec_l00In.calls (a0 : Int) (a1 : Int) (a2 : Int) (r : Bool) (w : World) (h : spec_l00In.f a0 a1 a2 = some r) :
  Calls Try.prog 53 #[.int .i64 a0, .int .i64 a1, .int .i64 a2] w fun e w' => e = .returned (.bool r) ∧ Drawn0 w w' := by
 have H : (if a0 ≥ a1 then (some (decide (a0 ≤ a2))) else (some false)) = some r := h
 clear h
 by_cases c4 : a0 ≥ a1
 ·rw [if_pos c4] at H
  have c4b0 : decide (a1 ≤ a0) = true := decide_eq_true c4
  clear c4
  obtain rfl := Option.some.inj H
  go_enter Try.func53, Try.ntmps53
  go_wp2
  go_ret
  exact ⟨by first | rfl | (simp; done) | (simp [*]; done), by repeat (first | exact Drawn0.refl _ | apply Drawn0.step)⟩
 ·rw [if_neg c4] at H
  have c4b0 : decide (a1 ≤ a0) = false := decide_eq_false c4
  clear c4
  obtain rfl := Option.some.inj H
  go_enter Try.func53, Try.ntmps53
  go_wp2
  go_ret
  exact ⟨by first | rfl | (simp; done) | (simp [*]; done), by repeat (first | exact Drawn0.refl _ | apply Drawn0.step)⟩

end Go.Proofs.Ytljboamepnhfpaa.Pa

namespace Go.Proofs.Ytljboamepnhfpaa.Pa
open Go.RowKit Go.Proofs.YtljboamepnhfpaaW.PrintWords Go.Proofs.YtljboamepnhfpaaW.PrintLast Go.Proofs.YtljboamepnhfpaaW.PrintMore
attribute [local go_sem] max2_int min2_int max_two min_two max_three min_three max_four min_four   -- for this text's walks alone
set_option linter.unusedVariables false
set_option linter.unusedSimpArgs false

/-! ### spec_l04Bound: function 60 -/
def spec_l04Bound.f (a0 : Int) (a1_0 : Int) (a1_1 : Int) (a1_2 : Int) : Option (Bool) := (spec_l00In.f a1_0 0 (wrap64 (a0 - 1))).bind fun t104 => (if t104 = true then ((spec_l00In.f a1_1 0 (wrap64 (a0 - 1))).bind fun t105 => (if t105 = true then (if a1_0 = a1_1 then (some false) else ((spec_l00In.f a1_2 (-1000) 1000).bind fun t106 => (some t106))) else (some false))) else (some false))
set_option maxHeartbeats 8000000 in
set_option maxRecDepth 100000 in
theorem spec_l04Bound.calls (a0 : Int) (a1_0 : Int) (a1_1 : Int) (a1_2 : Int) (r : Bool) (w : World) (h : spec_l04Bound.f a0 a1_0 a1_1 a1_2 = some r) :
  Calls Try.prog 60 #[.int .i64 a0, .agg #[.int .i64 a1_0, .int .i64 a1_1, .int .i64 a1_2]] w fun e w' => e = .returned (.bool r) ∧ Below w.heap.size w w' := by
 have hu45 := Try.underlying45
 have HB := Aside0.mk (Below.refl w.heap.size w)
 have H : ((spec_l00In.f a1_0 0 (wrap64 (a0 - 1))).bind fun t104 => (if t104 = true then ((spec_l00In.f a1_1 0 (wrap64 (a0 - 1))).bind fun t105 => (if t105 = true then (if a1_0 = a1_1 then (some false) else ((spec_l00In.f a1_2 (-1000) 1000).bind fun t106 => (some t106))) else (some false))) else (some false))) = some r := h
 clear h
 replace H := Option.bind_eq_some_iff.mp H
 obtain ⟨t104, A30, H⟩ := H
 replace H : (if t104 = true then ((spec_l00In.f a1_1 0 (wrap64 (a0 - 1))).bind fun t105 => (if t105 = true then (if a1_0 = a1_1 then (some false) else ((spec_l00In.f a1_2 (-1000) 1000).bind fun t106 => (some t106))) else (some false))) else (some false)) = some r := H
 have A3 := Aside0.mk A30
 clear A30
 by_cases c4 : t104 = true
 ·subst c4
  have H1 : ((spec_l00In.f a1_1 0 (wrap64 (a0 - 1))).bind fun t105 => (if t105 = true then (if a1_0 = a1_1 then (some false) else ((spec_l00In.f a1_2 (-1000) 1000).bind fun t106 => (some t106))) else (some false))) = some r := by rw [if_pos rfl] at H; exact H
  clear H
  have H := H1
  clear H1
  replace H := Option.bind_eq_some_iff.mp H
  obtain ⟨t105, A50, H⟩ := H
  replace H : (if t105 = true then (if a1_0 = a1_1 then (some false) else ((spec_l00In.f a1_2 (-1000) 1000).bind fun t106 => (some t106))) else (some false)) = some r := H
  have A5 := Aside0.mk A50
  clear A50
  by_cases c6 : t105 = true
  ·subst c6
   have H1 : (if a1_0 = a1_1 then (some false) else ((spec_l00In.f a1_2 (-1000) 1000).bind fun t106 => (some t106))) = some r := by rw [if_pos rfl] at H; exact H
   clear H
   have H := H1
   clear H1
   by_cases c7 : a1_0 = a1_1
   ·rw [if_pos c7] at H
    have c7b0 : (a1_0 == a1_1) = true := beq_iff_eq.mpr c7
    have c7b1 : (a1_0 != a1_1) = false := bne_eq_false_iff_eq.mpr c7
    clear c7
    obtain rfl := Option.some.inj H
    go_enter Try.func60, Try.ntmps60
    go_wp2_with (first | ((with_reducible refine gate_dst (N := 3) rfl ?_); refine box_event ?hg (N := 3) ?hd (cs := #[.int .i64 a1_0, .int .i64 a1_1, .int .i64 a1_2]) (t := 45) ?hr ?_; (case hd => rfl); (case hg => rfl); (case hr => first | (go_simp; done) | (go_simp; rfl)); intro gb103 hg w8 hbox hb; have n0_ := Aside0.mk (below_step (by repeat (first | (with_reducible first | exact HB.out | apply below_alloc | apply pw_below_drewN | apply below_drew1) | exact HB.out)) hb); have n1_ := Aside0.mk (hbox); have n2_ := Aside0.mk ((by rw [hg]; exact (below_size (by repeat (first | (with_reducible first | exact HB.out | apply below_alloc | apply pw_below_drewN | apply below_drew1) | exact HB.out))) : w.heap.size ≤ gb103)); have n3_ := Aside0.mk ((by rw [hg]; exact (below_size (by repeat (first | (with_reducible first | exact HB.out | apply below_alloc | apply pw_below_drewN | apply below_drew1) | exact HB.out))) : w.heap.size ≤ gb103)); clear HB; have HB := n0_; have BK103 := n1_; have GW103 := n2_; have GE103 := n3_; clear n0_ n1_ n2_ n3_; clear hb hbox hg; have hcz9_0 : w8.cell? ⟨gb103, 0, none⟩ = some (.int .i64 a1_0) := (blk_cell BK103.out 0).trans rfl; have hcz9_1 : w8.cell? ⟨gb103, 1, none⟩ = some (.int .i64 a1_1) := (blk_cell BK103.out 1).trans rfl; have hcz9_2 : w8.cell? ⟨gb103, 2, none⟩ = some (.int .i64 a1_2) := (blk_cell BK103.out 2).trans rfl; have hfz9_0 := blk_frozen BK103.out 0; have hfz9_1 := blk_frozen BK103.out 1; have hfz9_2 := blk_frozen BK103.out 2) | ((with_reducible refine gate_callee (f := 53) rfl ?_); refine goesL_ (some 9) rfl rfl Try.func53 (by kernel_rfl) rfl #[.int .i64 a1_0, .int .i64 0, .int .i64 (wrap64 (a0 - 1))] rfl (by (try simp only [List.map_toArray, List.map_cons, List.map_nil]); first | done | rfl | (simp only [List.length_drop, List.length_take]; rfl)) ?_; (with_reducible refine (spec_l00In.calls a1_0 0 (wrap64 (a0 - 1)) true _ A3.out).mono ?_); rintro e w' ⟨rfl, ⟨nd, rfl⟩⟩; refine ⟨_, rfl, ?_⟩) | (go_at_call 53; (with_reducible refine (spec_l00In.calls a1_1 0 (wrap64 (a0 - 1)) true _ A5.out).mono ?_); rintro e w' ⟨rfl, ⟨nd, rfl⟩⟩))
    go_ret
    exact ⟨by first | rfl | (simp [errW_none, errW_some] <;> rfl) | (simp [*, errW_none, errW_some] <;> rfl), by repeat (first | (with_reducible first | exact HB.out | apply below_alloc | apply pw_below_drewN | apply below_drew1 | refine below_set ?_ GE103.out) | exact HB.out)⟩
   ·rw [if_neg c7] at H
    have c7b0 : (a1_0 == a1_1) = false := beq_eq_false_iff_ne.mpr c7
    have c7b1 : (a1_0 != a1_1) = true := bne_iff_ne.mpr c7
    replace H := Option.bind_eq_some_iff.mp H
    obtain ⟨t106, A100, H⟩ := H
    replace H : (some t106) = some r := H
    have A10 := Aside0.mk A100
    clear A100
    obtain rfl := Option.some.inj H
    go_enter Try.func60, Try.ntmps60
    go_wp2_with (first | ((with_reducible refine gate_dst (N := 3) rfl ?_); refine box_event ?hg (N := 3) ?hd (cs := #[.int .i64 a1_0, .int .i64 a1_1, .int .i64 a1_2]) (t := 45) ?hr ?_; (case hd => rfl); (case hg => rfl); (case hr => first | (go_simp; done) | (go_simp; rfl)); intro gb103 hg w11 hbox hb; have n0_ := Aside0.mk (below_step (by repeat (first | (with_reducible first | exact HB.out | apply below_alloc | apply pw_below_drewN | apply below_drew1) | exact HB.out)) hb); have n1_ := Aside0.mk (hbox); have n2_ := Aside0.mk ((by rw [hg]; exact (below_size (by repeat (first | (with_reducible first | exact HB.out | apply below_alloc | apply pw_below_drewN | apply below_drew1) | exact HB.out))) : w.heap.size ≤ gb103)); have n3_ := Aside0.mk ((by rw [hg]; exact (below_size (by repeat (first | (with_reducible first | exact HB.out | apply below_alloc | apply pw_below_drewN | apply below_drew1) | exact HB.out))) : w.heap.size ≤ gb103)); clear HB; have HB := n0_; have BK103 := n1_; have GW103 := n2_; have GE103 := n3_; clear n0_ n1_ n2_ n3_; clear hb hbox hg; have hcz12_0 : w11.cell? ⟨gb103, 0, none⟩ = some (.int .i64 a1_0) := (blk_cell BK103.out 0).trans rfl; have hcz12_1 : w11.cell? ⟨gb103, 1, none⟩ = some (.int .i64 a1_1) := (blk_cell BK103.out 1).trans rfl; have hcz12_2 : w11.cell? ⟨gb103, 2, none⟩ = some (.int .i64 a1_2) := (blk_cell BK103.out 2).trans rfl; have hfz12_0 := blk_frozen BK103.out 0; have hfz12_1 := blk_frozen BK103.out 1; have hfz12_2 := blk_frozen BK103.out 2) | ((with_reducible refine gate_callee (f := 53) rfl ?_); refine goesL_ (some 9) rfl rfl Try.func53 (by kernel_rfl) rfl #[.int .i64 a1_0, .int .i64 0, .int .i64 (wrap64 (a0 - 1))] rfl (by (try simp only [List.map_toArray, List.map_cons, List.map_nil]); first | done | rfl | (simp only [List.length_drop, List.length_take]; rfl)) ?_; (with_reducible refine (spec_l00In.calls a1_0 0 (wrap64 (a0 - 1)) true _ A3.out).mono ?_); rintro e w' ⟨rfl, ⟨nd, rfl⟩⟩; refine ⟨_, rfl, ?_⟩) | (go_at_call 53; (with_reducible refine (spec_l00In.calls a1_1 0 (wrap64 (a0 - 1)) true _ A5.out).mono ?_); rintro e w' ⟨rfl, ⟨nd, rfl⟩⟩) | (go_at_call 53; (with_reducible refine (spec_l00In.calls a1_2 (-1000) 1000 t106 _ A10.out).mono ?_); rintro e w' ⟨rfl, ⟨nd, rfl⟩⟩))
    go_ret
    exact ⟨by first | rfl | (simp [errW_none, errW_some] <;> rfl) | (simp [*, errW_none, errW_some] <;> rfl), by repeat (first | (with_reducible first | exact HB.out | apply below_alloc | apply pw_below_drewN | apply below_drew1 | refine below_set ?_ GE103.out) | exact HB.out)⟩
  ·replace c6 := Bool.eq_false_iff.mpr c6
   subst c6
   have H1 : (some false) = some r := by rw [if_neg (show ¬ (false = true) by decide)] at H; exact H
   clear H
   have H := H1
   clear H1
   obtain rfl := Option.some.inj H
   go_enter Try.func60, Try.ntmps60
   go_wp2_with (first | ((with_reducible refine gate_dst (N := 3) rfl ?_); refine box_event ?hg (N := 3) ?hd (cs := #[.int .i64 a1_0, .int .i64 a1_1, .int .i64 a1_2]) (t := 45) ?hr ?_; (case hd => rfl); (case hg => rfl); (case hr => first | (go_simp; done) | (go_simp; rfl)); intro gb103 hg w13 hbox hb; have n0_ := Aside0.mk (below_step (by repeat (first | (with_reducible first | exact HB.out | apply below_alloc | apply pw_below_drewN | apply below_drew1) | exact HB.out)) hb); have n1_ := Aside0.mk (hbox); have n2_ := Aside0.mk ((by rw [hg]; exact (below_size (by repeat (first | (with_reducible first | exact HB.out | apply below_alloc | apply pw_below_drewN | apply below_drew1) | exact HB.out))) : w.heap.size ≤ gb103)); have n3_ := Aside0.mk ((by rw [hg]; exact (below_size (by repeat (first | (with_reducible first | exact HB.out | apply below_alloc | apply pw_below_drewN | apply below_drew1) | exact HB.out))) : w.heap.size ≤ gb103)); clear HB; have HB := n0_; have BK103 := n1_; have GW103 := n2_; have GE103 := n3_; clear n0_ n1_ n2_ n3_; clear hb hbox hg; have hcz14_0 : w13.cell? ⟨gb103, 0, none⟩ = some (.int .i64 a1_0) := (blk_cell BK103.out 0).trans rfl; have hcz14_1 : w13.cell? ⟨gb103, 1, none⟩ = some (.int .i64 a1_1) := (blk_cell BK103.out 1).trans rfl; have hcz14_2 : w13.cell? ⟨gb103, 2, none⟩ = some (.int .i64 a1_2) := (blk_cell BK103.out 2).trans rfl; have hfz14_0 := blk_frozen BK103.out 0; have hfz14_1 := blk_frozen BK103.out 1; have hfz14_2 := blk_frozen BK103.out 2) | ((with_reducible refine gate_callee (f := 53) rfl ?_); refine goesL_ (some 9) rfl rfl Try.func53 (by kernel_rfl) rfl #[.int .i64 a1_0, .int .i64 0, .int .i64 (wrap64 (a0 - 1))] rfl (by (try simp only [List.map_toArray, List.map_cons, List.map_nil]); first | done | rfl | (simp only [List.length_drop, List.length_take]; rfl)) ?_; (with_reducible refine (spec_l00In.calls a1_0 0 (wrap64 (a0 - 1)) true _ A3.out).mono ?_); rintro e w' ⟨rfl, ⟨nd, rfl⟩⟩; refine ⟨_, rfl, ?_⟩) | (go_at_call 53; (with_reducible refine (spec_l00In.calls a1_1 0 (wrap64 (a0 - 1)) false _ A5.out).mono ?_); rintro e w' ⟨rfl, ⟨nd, rfl⟩⟩))
   go_ret
   exact ⟨by first | rfl | (simp [errW_none, errW_some] <;> rfl) | (simp [*, errW_none, errW_some] <;> rfl), by repeat (first | (with_reducible first | exact HB.out | apply below_alloc | apply pw_below_drewN | apply below_drew1 | refine below_set ?_ GE103.out) | exact HB.out)⟩
 ·replace c4 := Bool.eq_false_iff.mpr c4
  subst c4
  have H1 : (some false) = some r := by rw [if_neg (show ¬ (false = true) by decide)] at H; exact H
  clear H
  have H := H1
  clear H1
  obtain rfl := Option.some.inj H
  go_enter Try.func60, Try.ntmps60
  go_wp2_with (first | ((with_reducible refine gate_dst (N := 3) rfl ?_); refine box_event ?hg (N := 3) ?hd (cs := #[.int .i64 a1_0, .int .i64 a1_1, .int .i64 a1_2]) (t := 45) ?hr ?_; (case hd => rfl); (case hg => rfl); (case hr => first | (go_simp; done) | (go_simp; rfl)); intro gb103 hg w15 hbox hb; have n0_ := Aside0.mk (below_step (by repeat (first | (with_reducible first | exact HB.out | apply below_alloc | apply pw_below_drewN | apply below_drew1) | exact HB.out)) hb); have n1_ := Aside0.mk (hbox); have n2_ := Aside0.mk ((by rw [hg]; exact (below_size (by repeat (first | (with_reducible first | exact HB.out | apply below_alloc | apply pw_below_drewN | apply below_drew1) | exact HB.out))) : w.heap.size ≤ gb103)); have n3_ := Aside0.mk ((by rw [hg]; exact (below_size (by repeat (first | (with_reducible first | exact HB.out | apply below_alloc | apply pw_below_drewN | apply below_drew1) | exact HB.out))) : w.heap.size ≤ gb103)); clear HB; have HB := n0_; have BK103 := n1_; have GW103 := n2_; have GE103 := n3_; clear n0_ n1_ n2_ n3_; clear hb hbox hg; have hcz16_0 : w15.cell? ⟨gb103, 0, none⟩ = some (.int .i64 a1_0) := (blk_cell BK103.out 0).trans rfl; have hcz16_1 : w15.cell? ⟨gb103, 1, none⟩ = some (.int .i64 a1_1) := (blk_cell BK103.out 1).trans rfl; have hcz16_2 : w15.cell? ⟨gb103, 2, none⟩ = some (.int .i64 a1_2) := (blk_cell BK103.out 2).trans rfl; have hfz16_0 := blk_frozen BK103.out 0; have hfz16_1 := blk_frozen BK103.out 1; have hfz16_2 := blk_frozen BK103.out 2) | ((with_reducible refine gate_callee (f := 53) rfl ?_); refine goesL_ (some 9) rfl rfl Try.func53 (by kernel_rfl) rfl #[.int .i64 a1_0, .int .i64 0, .int .i64 (wrap64 (a0 - 1))] rfl (by (try simp only [List.map_toArray, List.map_cons, List.map_nil]); first | done | rfl | (simp only [List.length_drop, List.length_take]; rfl)) ?_; (with_reducible refine (spec_l00In.calls a1_0 0 (wrap64 (a0 - 1)) false _ A3.out).mono ?_); rintro e w' ⟨rfl, ⟨nd, rfl⟩⟩; refine ⟨_, rfl, ?_⟩))
  go_ret
  exact ⟨by first | rfl | (simp [errW_none, errW_some] <;> rfl) | (simp [*, errW_none, errW_some] <;> rfl), by repeat (first | (with_reducible first | exact HB.out | apply below_alloc | apply pw_below_drewN | apply below_drew1 | refine below_set ?_ GE103.out) | exact HB.out)⟩

end Go.Proofs.Ytljboamepnhfpaa.Pa

