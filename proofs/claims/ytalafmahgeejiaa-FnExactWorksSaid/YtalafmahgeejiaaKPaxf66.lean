-- Written for this claim by a program of this session.
import Derived.Test.YtalafmahgeejiaaPax0
import Derived.Test.YtalafmahgeejiaaCore1
import Derived.Test.YtalafmahgeejiaaCore2
namespace Go.Proofs.Ytalafmahgeejiaa.Pa
open Go.RowKit Go.Proofs.YtalafmahgeejiaaW.PrintWords Go.Proofs.YtalafmahgeejiaaW.PrintLast Go.Proofs.YtalafmahgeejiaaW.PrintMore
attribute [local go_sem] max2_int min2_int max_two min_two max_three min_three max_four min_four   -- for this text's walks alone
set_option linter.unusedVariables false
set_option linter.unusedSimpArgs false

/-! ### spec_l06Rooms: function 66 -/
mutual
def spec_l06Rooms.l0 : Nat → Int → List Int → Int → Int → Bool → Int → Int → List (S62) → List Int → Int → Int → Int → Int → Option (Int × Int × Int × Int × Int × Int × Int)
 | 0, _, _, _, _, _, _, _, _, _, _, _, _, _ => none
 | k + 1, x1, x2, x8, x9, x10, x11, x1000, x1001, x1002, x1003, x1004, x1005, x1006 => if x11 < x1000 then (spec_l06Rooms.l1 k x1 x2 x8 x9 x10 x11 0 x1000 x1001 x1002 x1003 x1004 x1005 x1006) else (some (x8, x9, x1000, x1003, x1004, x1005, x1006))
def spec_l06Rooms.l1 : Nat → Int → List Int → Int → Int → Bool → Int → Int → Int → List (S62) → List Int → Int → Int → Int → Int → Option (Int × Int × Int × Int × Int × Int × Int)
 | 0, _, _, _, _, _, _, _, _, _, _, _, _, _, _ => none
 | k + 1, x1, x2, x8, x9, x10, x11, x12, x1000, x1001, x1002, x1003, x1004, x1005, x1006 => if x12 < x1000 then ((spec_l06Path.f k x1000 x1001 x1002 x1003 x1004 x1005 x1006 x11 x12).bind fun bt426 => (if bt426.2.2.1 = true then (if 0 ≤ x12 then (if x12 < (x2.length : Int) then (if 0 ≤ x11 then (if x11 < (x2.length : Int) then (if x10 = true then (spec_l06Rooms.j2 k x1 x2 x8 x9 x10 x11 x12 (wrap64 ((wrap64 ((wrap64 ((wrap64 (x1 + (rd x2 x12))) - (rd x2 x11))) - bt426.2.1)) - bt426.2.2.2.2.1)) (wrap64 ((wrap64 ((wrap64 (bt426.1 + (rd x2 x11))) - (rd x2 x12))) - bt426.2.2.2.2.2.1)) (decide ((wrap64 ((wrap64 ((wrap64 ((wrap64 (x1 + (rd x2 x12))) - (rd x2 x11))) - bt426.2.1)) - bt426.2.2.2.2.1)) < x8)) bt426.2.2.2.1 x1001 x1002 bt426.2.2.2.2.1 bt426.2.2.2.2.2.1 bt426.2.2.2.2.2.2.1 bt426.2.2.2.2.2.2.2) else (spec_l06Rooms.j2 k x1 x2 x8 x9 x10 x11 x12 (wrap64 ((wrap64 ((wrap64 ((wrap64 (x1 + (rd x2 x12))) - (rd x2 x11))) - bt426.2.1)) - bt426.2.2.2.2.1)) (wrap64 ((wrap64 ((wrap64 (bt426.1 + (rd x2 x11))) - (rd x2 x12))) - bt426.2.2.2.2.2.1)) true bt426.2.2.2.1 x1001 x1002 bt426.2.2.2.2.1 bt426.2.2.2.2.2.1 bt426.2.2.2.2.2.2.1 bt426.2.2.2.2.2.2.2)) else (none)) else (none)) else (none)) else (none)) else (spec_l06Rooms.l1 k x1 x2 x8 x9 x10 x11 (wrap64 (x12 + 1)) bt426.2.2.2.1 x1001 x1002 bt426.2.2.2.2.1 bt426.2.2.2.2.2.1 bt426.2.2.2.2.2.2.1 bt426.2.2.2.2.2.2.2))) else (spec_l06Rooms.l0 k x1 x2 x8 x9 x10 (wrap64 (x11 + 1)) x1000 x1001 x1002 x1003 x1004 x1005 x1006)
def spec_l06Rooms.j2 : Nat → Int → List Int → Int → Int → Bool → Int → Int → Int → Int → Bool → Int → List (S62) → List Int → Int → Int → Int → Int → Option (Int × Int × Int × Int × Int × Int × Int)
 | 0, _, _, _, _, _, _, _, _, _, _, _, _, _, _, _, _, _ => none
 | k + 1, x1, x2, x8, x9, x10, x11, x12, x16, x17, x84, x1000, x1001, x1002, x1003, x1004, x1005, x1006 => if x84 = true then (if x10 = true then (if x17 < x9 then (spec_l06Rooms.l1 k x1 x2 x16 x17 true x11 (wrap64 (x12 + 1)) x1000 x1001 x1002 x1003 x1004 x1005 x1006) else (spec_l06Rooms.l1 k x1 x2 x16 x9 true x11 (wrap64 (x12 + 1)) x1000 x1001 x1002 x1003 x1004 x1005 x1006)) else (spec_l06Rooms.l1 k x1 x2 x16 x17 true x11 (wrap64 (x12 + 1)) x1000 x1001 x1002 x1003 x1004 x1005 x1006)) else (if x10 = true then (if x17 < x9 then (spec_l06Rooms.l1 k x1 x2 x8 x17 true x11 (wrap64 (x12 + 1)) x1000 x1001 x1002 x1003 x1004 x1005 x1006) else (spec_l06Rooms.l1 k x1 x2 x8 x9 true x11 (wrap64 (x12 + 1)) x1000 x1001 x1002 x1003 x1004 x1005 x1006)) else (spec_l06Rooms.l1 k x1 x2 x8 x17 true x11 (wrap64 (x12 + 1)) x1000 x1001 x1002 x1003 x1004 x1005 x1006))
end
def spec_l06Rooms.f (k : Nat) (s0_0 : Int) (s0_1 : List (S62)) (s0_2 : List Int) (s0_3 : Int) (s0_4 : Int) (s0_5 : Int) (s0_6 : Int) (a1 : Int) (l2 : List Int) : Option (Int × Int × Int × Int × Int × Int × Int) := spec_l06Rooms.l0 k a1 l2 0 0 false 0 s0_0 s0_1 s0_2 s0_3 s0_4 s0_5 s0_6
theorem spec_l06Rooms.mono_l : ∀ k, (∀ y0 y1 y2 y3 y4 y5 y6 y7 y8 y9 y10 y11 y12, LeO (spec_l06Rooms.l0 k y0 y1 y2 y3 y4 y5 y6 y7 y8 y9 y10 y11 y12) (spec_l06Rooms.l0 (k + 1) y0 y1 y2 y3 y4 y5 y6 y7 y8 y9 y10 y11 y12)) ∧ (∀ y0 y1 y2 y3 y4 y5 y6 y7 y8 y9 y10 y11 y12 y13, LeO (spec_l06Rooms.l1 k y0 y1 y2 y3 y4 y5 y6 y7 y8 y9 y10 y11 y12 y13) (spec_l06Rooms.l1 (k + 1) y0 y1 y2 y3 y4 y5 y6 y7 y8 y9 y10 y11 y12 y13)) ∧ (∀ y0 y1 y2 y3 y4 y5 y6 y7 y8 y9 y10 y11 y12 y13 y14 y15 y16, LeO (spec_l06Rooms.j2 k y0 y1 y2 y3 y4 y5 y6 y7 y8 y9 y10 y11 y12 y13 y14 y15 y16) (spec_l06Rooms.j2 (k + 1) y0 y1 y2 y3 y4 y5 y6 y7 y8 y9 y10 y11 y12 y13 y14 y15 y16))
 | 0 => ⟨fun _ _ _ _ _ _ _ _ _ _ _ _ _ r h => by simp [spec_l06Rooms.l0] at h, fun _ _ _ _ _ _ _ _ _ _ _ _ _ _ r h => by simp [spec_l06Rooms.l1] at h, fun _ _ _ _ _ _ _ _ _ _ _ _ _ _ _ _ _ r h => by simp [spec_l06Rooms.j2] at h⟩
 | k + 1 => by
  obtain ⟨ih0, ih1, ih2⟩ := spec_l06Rooms.mono_l k
  refine ⟨?_, ?_, ?_⟩
  ·intro y0 y1 y2 y3 y4 y5 y6 y7 y8 y9 y10 y11 y12
   unfold spec_l06Rooms.l0
   repeat' first
   | (with_reducible exact ih0 _ _ _ _ _ _ _ _ _ _ _ _ _)
   | (with_reducible exact ih1 _ _ _ _ _ _ _ _ _ _ _ _ _ _)
   | (with_reducible exact ih2 _ _ _ _ _ _ _ _ _ _ _ _ _ _ _ _ _)
   | (with_reducible exact spec_l06Path.mono _ _ _ _ _ _ _ _ _ _)
   | (with_reducible exact LeO.refl _)
   | (with_reducible exact LeO.none _)
   | (with_reducible refine LeO.ite ?_ ?_)
   | (with_reducible refine LeO.bind ?_ (fun _ => ?_))
   | exact ih0 _ _ _ _ _ _ _ _ _ _ _ _ _
   | exact ih1 _ _ _ _ _ _ _ _ _ _ _ _ _ _
   | exact ih2 _ _ _ _ _ _ _ _ _ _ _ _ _ _ _ _ _
   | exact spec_l06Path.mono _ _ _ _ _ _ _ _ _ _
   | exact LeO.none _
   | refine LeO.ite ?_ ?_
   | refine LeO.bind ?_ (fun _ => ?_)
  ·intro y0 y1 y2 y3 y4 y5 y6 y7 y8 y9 y10 y11 y12 y13
   unfold spec_l06Rooms.l1
   repeat' first
   | (with_reducible exact ih0 _ _ _ _ _ _ _ _ _ _ _ _ _)
   | (with_reducible exact ih1 _ _ _ _ _ _ _ _ _ _ _ _ _ _)
   | (with_reducible exact ih2 _ _ _ _ _ _ _ _ _ _ _ _ _ _ _ _ _)
   | (with_reducible exact spec_l06Path.mono _ _ _ _ _ _ _ _ _ _)
   | (with_reducible exact LeO.refl _)
   | (with_reducible exact LeO.none _)
   | (with_reducible refine LeO.ite ?_ ?_)
   | (with_reducible refine LeO.bind ?_ (fun _ => ?_))
   | exact ih0 _ _ _ _ _ _ _ _ _ _ _ _ _
   | exact ih1 _ _ _ _ _ _ _ _ _ _ _ _ _ _
   | exact ih2 _ _ _ _ _ _ _ _ _ _ _ _ _ _ _ _ _
   | exact spec_l06Path.mono _ _ _ _ _ _ _ _ _ _
   | exact LeO.none _
   | refine LeO.ite ?_ ?_
   | refine LeO.bind ?_ (fun _ => ?_)
  ·intro y0 y1 y2 y3 y4 y5 y6 y7 y8 y9 y10 y11 y12 y13 y14 y15 y16
   unfold spec_l06Rooms.j2
   repeat' first
   | (with_reducible exact ih0 _ _ _ _ _ _ _ _ _ _ _ _ _)
   | (with_reducible exact ih1 _ _ _ _ _ _ _ _ _ _ _ _ _ _)
   | (with_reducible exact ih2 _ _ _ _ _ _ _ _ _ _ _ _ _ _ _ _ _)
   | (with_reducible exact spec_l06Path.mono _ _ _ _ _ _ _ _ _ _)
   | (with_reducible exact LeO.refl _)
   | (with_reducible exact LeO.none _)
   | (with_reducible refine LeO.ite ?_ ?_)
   | (with_reducible refine LeO.bind ?_ (fun _ => ?_))
   | exact ih0 _ _ _ _ _ _ _ _ _ _ _ _ _
   | exact ih1 _ _ _ _ _ _ _ _ _ _ _ _ _ _
   | exact ih2 _ _ _ _ _ _ _ _ _ _ _ _ _ _ _ _ _
   | exact spec_l06Path.mono _ _ _ _ _ _ _ _ _ _
   | exact LeO.none _
   | refine LeO.ite ?_ ?_
   | refine LeO.bind ?_ (fun _ => ?_)
theorem spec_l06Rooms.mono : ∀ a0 a1 a2 a3 a4 a5 a6 a7 a8 k, LeO (spec_l06Rooms.f k a0 a1 a2 a3 a4 a5 a6 a7 a8) (spec_l06Rooms.f (k + 1) a0 a1 a2 a3 a4 a5 a6 a7 a8) := by
 intro a0 a1 a2 a3 a4 a5 a6 a7 a8 k
 obtain ⟨ih0, ih1, ih2⟩ := spec_l06Rooms.mono_l k
 unfold spec_l06Rooms.f
 repeat' first
   | (with_reducible exact ih0 _ _ _ _ _ _ _ _ _ _ _ _ _)
   | (with_reducible exact ih1 _ _ _ _ _ _ _ _ _ _ _ _ _ _)
   | (with_reducible exact ih2 _ _ _ _ _ _ _ _ _ _ _ _ _ _ _ _ _)
   | (with_reducible exact spec_l06Path.mono _ _ _ _ _ _ _ _ _ _)
   | (with_reducible exact LeO.refl _)
   | (with_reducible exact LeO.none _)
   | (with_reducible refine LeO.ite ?_ ?_)
   | (with_reducible refine LeO.bind ?_ (fun _ => ?_))
   | exact ih0 _ _ _ _ _ _ _ _ _ _ _ _ _
   | exact ih1 _ _ _ _ _ _ _ _ _ _ _ _ _ _
   | exact ih2 _ _ _ _ _ _ _ _ _ _ _ _ _ _ _ _ _
   | exact spec_l06Path.mono _ _ _ _ _ _ _ _ _ _
   | exact LeO.none _
   | refine LeO.ite ?_ ?_
   | refine LeO.bind ?_ (fun _ => ?_)
set_option maxHeartbeats 8000000 in
set_option maxRecDepth 100000 in
theorem spec_l06Rooms.calls (k : Nat) (g : Nat) (s0_0 : Int) (s0_1 : List (S62)) (s0_2 : List Int) (s0_3 : Int) (s0_4 : Int) (s0_5 : Int) (s0_6 : Int) (a1 : Int) (A2 : Option Addr) (c2 : Nat) (l2 : List Int) (r1 : Int) (r2 : Int) (r3 : Int) (r4 : Int) (r5 : Int) (r6 : Int) (r7 : Int) (w0 w : World) (hI : IsS30 w0 w g s0_0 s0_1 s0_2 s0_3 s0_4 s0_5 s0_6) (hB : Below w0.heap.size w0 w) (hr2 : Kd.C (Kd.int .i64) w A2 l2.length l2) (hc2 : l2.length ≤ c2) (hf2 : ∀ ad, A2 = some ad → 0 < l2.length → ad.block ≠ g) (h : spec_l06Rooms.f k s0_0 s0_1 s0_2 s0_3 s0_4 s0_5 s0_6 a1 l2 = some (r1, r2, r3, r4, r5, r6, r7)) :
  Calls Try.prog 66 #[.pointer (some ⟨g, 0, none⟩), .int .i64 a1, .slice A2 l2.length c2] w fun e w' => e = .returned (.tuple #[.int .i64 r1, .int .i64 r2]) ∧ IsS30 w0 w' g r3 s0_1 s0_2 r4 r5 r6 r7 ∧ Below w0.heap.size w0 w' ∧ KeepBut w w' g none := by
 have HR2 := Aside0.mk hr2
 have HC2 := Aside0.mk hc2
 clear hr2 hc2
 have HI0 := Aside0.mk hI
 have HK := Aside0.mk (KeepBut.refl w g none)
 have HL := Aside0.mk hB.size
 clear hI
 have HW0 := Aside0.mk hB.size
 have HB := Aside0.mk hB
 clear hB
 have H : (spec_l06Rooms.l0 k a1 l2 0 0 false 0 s0_0 s0_1 s0_2 s0_3 s0_4 s0_5 s0_6) = some (r1, r2, r3, r4, r5, r6, r7) := h
 clear h
 have H' := Aside0.mk H
 clear H
 go_enter Try.func66, Try.ntmps66
 go_wp2
 repeat (go_quiet (fail); try go_wp2)
 go_loopg [8, 9, 10, 11] k (fun kq v8 v9 v10 v11 w' => ∃ (x8_1 : Int) (x9_1 : Int) (x10_1 : Bool) (x11_1 : Int) (x1000_1 : Int) (x1003_1 : Int) (x1004_1 : Int) (x1005_1 : Int) (x1006_1 : Int), v8 = .int .i64 x8_1 ∧ v9 = .int .i64 x9_1 ∧ v10 = .bool x10_1 ∧ v11 = .int .i64 x11_1 ∧ Aside0 (spec_l06Rooms.l0 kq a1 l2 x8_1 x9_1 x10_1 x11_1 x1000_1 s0_1 s0_2 x1003_1 x1004_1 x1005_1 x1006_1 = some (r1, r2, r3, r4, r5, r6, r7)) ∧ Aside0 (kq ≤ k) ∧ Aside0 (IsS30 w0 w' g x1000_1 s0_1 s0_2 x1003_1 x1004_1 x1005_1 x1006_1) ∧ Aside0 (KeepBut w w' g none) ∧ Aside0 (Below w0.heap.size w0 w'))
 case atStart => exact ⟨(0), (0), (false), (0), (s0_0), (s0_3), (s0_4), (s0_5), (s0_6), (by first | rfl | (simp; done) | (simp [*]; done)), (by first | rfl | (simp; done) | (simp [*]; done)), (by first | rfl | (simp; done) | (simp [*]; done)), (by first | rfl | (simp; done) | (simp [*]; done)), H', ⟨Nat.le_refl _⟩, ⟨by with_reducible repeat (first | exact HI0.out | apply IsS30.alloc | apply IsS30.drewN | apply IsS30.drew | apply IsS30.set_0 | apply IsS30.set_3 | apply IsS30.set_4 | apply IsS30.set_5 | apply IsS30.set_6)⟩, ⟨by with_reducible repeat (first | exact HK.out | apply KeepBut.set_ | apply keep_drewN | apply keep_drew | apply keep_alloc)⟩, ⟨by with_reducible repeat (first | exact HB.out | apply below_alloc | apply pw_below_drewN | apply below_drew1 | refine below_set ?_ (IsS30.ge HI0.out))⟩⟩
 case round =>
  clear H'
  try clear c2
  try clear p2
  obtain ⟨x8_1, x9_1, x10_1, x11_1, x1000_1, x1003_1, x1004_1, x1005_1, x1006_1, rfl, rfl, rfl, rfl, HA, HK1, HI0, HK, HB⟩ := hrel
  cases gk with
  | zero => exact absurd HA.out (by simp [spec_l06Rooms.l0])
  | succ k1 =>
   have H := HA.out
   clear HA
   simp only [spec_l06Rooms.l0] at H
   by_cases c4 : x11_1 < x1000_1
   ·rw [if_pos c4] at H
    have c4b0 : decide (x11_1 < x1000_1) = true := decide_eq_true c4
    clear c4
    have H' := Aside0.mk H
    clear H
    obtain ⟨ASz5_1, cSz5_1, ASz5_2, cSz5_2, HGz5, hgz5, HSz5_1, HSz5_2⟩ := HI0.out
    have hcz5_0 := cellS30_0 HGz5
    have hcz5_1 := cellS30_1 HGz5
    have hcz5_2 := cellS30_2 HGz5
    have hcz5_3 := cellS30_3 HGz5
    have hcz5_4 := cellS30_4 HGz5
    have hcz5_5 := cellS30_5 HGz5
    have hcz5_6 := cellS30_6 HGz5
    have hfz5_0 := blk_frozen HGz5 0
    have hfz5_3 := blk_frozen HGz5 3
    have hfz5_4 := blk_frozen HGz5 4
    have hfz5_5 := blk_frozen HGz5 5
    have hfz5_6 := blk_frozen HGz5 6
    clear HGz5 hgz5
    go_wp2
    repeat (go_quiet (fail); try go_wp2)
    go_loopg [8, 9, 10, 12] k1 (fun kq v8 v9 v10 v12 w' => ∃ (x8_2 : Int) (x9_2 : Int) (x10_2 : Bool) (x12_2 : Int) (x1000_2 : Int) (x1003_2 : Int) (x1004_2 : Int) (x1005_2 : Int) (x1006_2 : Int), v8 = .int .i64 x8_2 ∧ v9 = .int .i64 x9_2 ∧ v10 = .bool x10_2 ∧ v12 = .int .i64 x12_2 ∧ Aside0 (spec_l06Rooms.l1 kq a1 l2 x8_2 x9_2 x10_2 x11_1 x12_2 x1000_2 s0_1 s0_2 x1003_2 x1004_2 x1005_2 x1006_2 = some (r1, r2, r3, r4, r5, r6, r7)) ∧ Aside0 (kq ≤ k1) ∧ Aside0 (IsS30 w0 w' g x1000_2 s0_1 s0_2 x1003_2 x1004_2 x1005_2 x1006_2) ∧ Aside0 (KeepBut w w' g none) ∧ Aside0 (Below w0.heap.size w0 w'))
    case atStart => exact ⟨(x8_1), (x9_1), (x10_1), (0), (x1000_1), (x1003_1), (x1004_1), (x1005_1), (x1006_1), (by first | rfl | (simp; done) | (simp [*]; done)), (by first | rfl | (simp; done) | (simp [*]; done)), (by first | rfl | (simp; done) | (simp [*]; done)), (by first | rfl | (simp; done) | (simp [*]; done)), H', ⟨Nat.le_refl _⟩, ⟨by with_reducible repeat (first | exact HI0.out | apply IsS30.alloc | apply IsS30.drewN | apply IsS30.drew | apply IsS30.set_0 | apply IsS30.set_3 | apply IsS30.set_4 | apply IsS30.set_5 | apply IsS30.set_6)⟩, ⟨by with_reducible repeat (first | exact HK.out | apply KeepBut.set_ | apply keep_drewN | apply keep_drew | apply keep_alloc)⟩, ⟨by with_reducible repeat (first | exact HB.out | apply below_alloc | apply pw_below_drewN | apply below_drew1 | refine below_set ?_ (IsS30.ge HI0.out))⟩⟩
    case round =>
     clear H'
     try clear c2
     try clear p2
     try clear c4
     try clear c4b0
     try clear hcz5_0
     try clear hcz5_1
     try clear hcz5_2
     try clear hcz5_3
     try clear hcz5_4
     try clear hcz5_5
     try clear hcz5_6
     try clear hfz5_0
     try clear hfz5_3
     try clear hfz5_4
     try clear hfz5_5
     try clear hfz5_6
     try clear p2
     obtain ⟨x8_2, x9_2, x10_2, x12_2, x1000_2, x1003_2, x1004_2, x1005_2, x1006_2, rfl, rfl, rfl, rfl, HA, HK2, HI0, HK, HB⟩ := hrel
     cases gk with
     | zero => exact absurd HA.out (by simp [spec_l06Rooms.l1])
     | succ k2 =>
      have H := HA.out
      clear HA
      simp only [spec_l06Rooms.l1] at H
      by_cases c6 : x12_2 < x1000_2
      ·rw [if_pos c6] at H
       have c6b0 : decide (x12_2 < x1000_2) = true := decide_eq_true c6
       clear c6
       replace H := Option.bind_eq_some_iff.mp H
       obtain ⟨⟨t426, t427, t428, t429, t430, t431, t432, t433⟩, A70, H⟩ := H
       try dsimp only at H
       have A7 := Aside0.mk A70
       clear A70
       by_cases c8 : t428 = true
       ·subst c8
        rw [if_pos rfl] at H
        by_cases c9 : 0 ≤ x12_2
        case neg => rw [if_neg c9] at H; exact absurd H (by simp)
        rw [if_pos c9] at H
        have c9b0 : decide (0 ≤ x12_2) = true := decide_eq_true c9
        clear c9
        by_cases c10 : x12_2 < (l2.length : Int)
        case neg => rw [if_neg c10] at H; exact absurd H (by simp)
        rw [if_pos c10] at H
        have c10b0 : decide (x12_2 < (l2.length : Int)) = true := decide_eq_true c10
        clear c10
        by_cases c11 : 0 ≤ x11_1
        case neg => rw [if_neg c11] at H; exact absurd H (by simp)
        rw [if_pos c11] at H
        have c11b0 : decide (0 ≤ x11_1) = true := decide_eq_true c11
        clear c11
        by_cases c12 : x11_1 < (l2.length : Int)
        case neg => rw [if_neg c12] at H; exact absurd H (by simp)
        rw [if_pos c12] at H
        have c12b0 : decide (x11_1 < (l2.length : Int)) = true := decide_eq_true c12
        clear c12
        have HC13 := Aside0.mk H
        clear H
        obtain ⟨ASz14_1, cSz14_1, ASz14_2, cSz14_2, HGz14, hgz14, HSz14_1, HSz14_2⟩ := HI0.out
        have hcz14_0 := cellS30_0 HGz14
        have hcz14_1 := cellS30_1 HGz14
        have hcz14_2 := cellS30_2 HGz14
        have hcz14_3 := cellS30_3 HGz14
        have hcz14_4 := cellS30_4 HGz14
        have hcz14_5 := cellS30_5 HGz14
        have hcz14_6 := cellS30_6 HGz14
        have hfz14_0 := blk_frozen HGz14 0
        have hfz14_3 := blk_frozen HGz14 3
        have hfz14_4 := blk_frozen HGz14 4
        have hfz14_5 := blk_frozen HGz14 5
        have hfz14_6 := blk_frozen HGz14 6
        clear HGz14 hgz14
        go_upto_region 14 with (first | (go_at_call 57; (with_reducible refine (spec_l06Path.calls k2 g x1000_2 s0_1 s0_2 x1003_2 x1004_2 x1005_2 x1006_2 x11_1 x12_2 t426 t427 true t429 t430 t431 t432 t433 w0 _ ?side1 ?side2 A7.out).mono ?_); (case side1 => repeat (first | (with_reducible first | exact HI0.out | apply IsS30.alloc | apply IsS30.drewN | apply IsS30.drew | apply IsS30.set_0 | apply IsS30.set_3 | apply IsS30.set_4 | apply IsS30.set_5 | apply IsS30.set_6) | exact HI0.out)); (case side2 => repeat (first | (with_reducible first | exact HB.out | apply below_alloc | apply pw_below_drewN | apply below_drew1 | refine below_set ?_ (IsS30.ge HI0.out)) | exact HB.out)); rintro e w15 ⟨rfl, hi, hb, hk⟩; have n0_ := Aside0.mk (KeepBut.trans (by with_reducible repeat (first | exact HK.out | apply KeepBut.set_ | apply keep_drewN | apply keep_drew | apply keep_alloc)) hk (.inl rfl)); have n1_ := Aside0.mk (hb); have n2_ := Aside0.mk (hi); clear HK; clear HB; clear HI0; have HK := n0_; have HB := n1_; have HI0 := n2_; clear n0_ n1_ n2_; (try clear hb); (try clear hb2); (try clear hk); (try clear hi); have p434 : 0 ≤ (x12_2 : Int) := of_decide_eq_true (by with_reducible assumption); have q434 : x12_2 < (l2.length : Int) := of_decide_eq_true (by with_reducible assumption); obtain ⟨ad434, e434, hx434_0⟩ := Kd.at_int HR2.out x12_2 p434 q434; cases e434; replace hx434_0 := keep_cell HK.out hx434_0 (by first | (rw [add_block]; exact hf2 _ rfl (by omega)) | exact hf2 _ rfl (by omega) | exact hf2 ad434 rfl (by omega)); replace p434 := eq_true p434; replace q434 := eq_true q434; have p435 : 0 ≤ (x11_1 : Int) := of_decide_eq_true (by with_reducible assumption); have q435 : x11_1 < (l2.length : Int) := of_decide_eq_true (by with_reducible assumption); obtain ⟨ad435, e435, hx435_0⟩ := Kd.at_int HR2.out x11_1 p435 q435; obtain rfl : ad434 = ad435 := (by injection e435); replace hx435_0 := keep_cell HK.out hx435_0 (by first | (rw [add_block]; exact hf2 _ rfl (by omega)) | exact hf2 _ rfl (by omega) | exact hf2 ad434 rfl (by omega)); replace p435 := eq_true p435; replace q435 := eq_true q435; obtain ⟨ASz16_1, cSz16_1, ASz16_2, cSz16_2, HGz16, hgz16, HSz16_1, HSz16_2⟩ := HI0.out; have hcz16_0 := cellS30_0 HGz16; have hcz16_1 := cellS30_1 HGz16; have hcz16_2 := cellS30_2 HGz16; have hcz16_3 := cellS30_3 HGz16; have hcz16_4 := cellS30_4 HGz16; have hcz16_5 := cellS30_5 HGz16; have hcz16_6 := cellS30_6 HGz16; have hfz16_0 := blk_frozen HGz16 0; have hfz16_3 := blk_frozen HGz16 3; have hfz16_4 := blk_frozen HGz16 4; have hfz16_5 := blk_frozen HGz16 5; have hfz16_6 := blk_frozen HGz16 6; clear HGz16 hgz16; have p436 : 0 ≤ (x11_1 : Int) := of_decide_eq_true (by with_reducible assumption); have q436 : x11_1 < (l2.length : Int) := of_decide_eq_true (by with_reducible assumption); obtain ⟨ad436, e436, hx436_0⟩ := Kd.at_int HR2.out x11_1 p436 q436; obtain rfl : ad434 = ad436 := (by injection e436); replace hx436_0 := keep_cell HK.out hx436_0 (by first | (rw [add_block]; exact hf2 _ rfl (by omega)) | exact hf2 _ rfl (by omega) | exact hf2 ad434 rfl (by omega)); replace p436 := eq_true p436; replace q436 := eq_true q436; have p437 : 0 ≤ (x12_2 : Int) := of_decide_eq_true (by with_reducible assumption); have q437 : x12_2 < (l2.length : Int) := of_decide_eq_true (by with_reducible assumption); obtain ⟨ad437, e437, hx437_0⟩ := Kd.at_int HR2.out x12_2 p437 q437; obtain rfl : ad434 = ad437 := (by injection e437); replace hx437_0 := keep_cell HK.out hx437_0 (by first | (rw [add_block]; exact hf2 _ rfl (by omega)) | exact hf2 _ rfl (by omega) | exact hf2 ad434 rfl (by omega)); replace p437 := eq_true p437; replace q437 := eq_true q437))
        repeat (go_quiet ((go_at_call 57; (with_reducible refine (spec_l06Path.calls k2 g x1000_2 s0_1 s0_2 x1003_2 x1004_2 x1005_2 x1006_2 x11_1 x12_2 t426 t427 true t429 t430 t431 t432 t433 w0 _ ?side1 ?side2 A7.out).mono ?_); (case side1 => repeat (first | (with_reducible first | exact HI0.out | apply IsS30.alloc | apply IsS30.drewN | apply IsS30.drew | apply IsS30.set_0 | apply IsS30.set_3 | apply IsS30.set_4 | apply IsS30.set_5 | apply IsS30.set_6) | exact HI0.out)); (case side2 => repeat (first | (with_reducible first | exact HB.out | apply below_alloc | apply pw_below_drewN | apply below_drew1 | refine below_set ?_ (IsS30.ge HI0.out)) | exact HB.out)); rintro e w15 ⟨rfl, hi, hb, hk⟩; have n0_ := Aside0.mk (KeepBut.trans (by with_reducible repeat (first | exact HK.out | apply KeepBut.set_ | apply keep_drewN | apply keep_drew | apply keep_alloc)) hk (.inl rfl)); have n1_ := Aside0.mk (hb); have n2_ := Aside0.mk (hi); clear HK; clear HB; clear HI0; have HK := n0_; have HB := n1_; have HI0 := n2_; clear n0_ n1_ n2_; (try clear hb); (try clear hb2); (try clear hk); (try clear hi); have p434 : 0 ≤ (x12_2 : Int) := of_decide_eq_true (by with_reducible assumption); have q434 : x12_2 < (l2.length : Int) := of_decide_eq_true (by with_reducible assumption); obtain ⟨ad434, e434, hx434_0⟩ := Kd.at_int HR2.out x12_2 p434 q434; cases e434; replace hx434_0 := keep_cell HK.out hx434_0 (by first | (rw [add_block]; exact hf2 _ rfl (by omega)) | exact hf2 _ rfl (by omega) | exact hf2 ad434 rfl (by omega)); replace p434 := eq_true p434; replace q434 := eq_true q434; have p435 : 0 ≤ (x11_1 : Int) := of_decide_eq_true (by with_reducible assumption); have q435 : x11_1 < (l2.length : Int) := of_decide_eq_true (by with_reducible assumption); obtain ⟨ad435, e435, hx435_0⟩ := Kd.at_int HR2.out x11_1 p435 q435; obtain rfl : ad434 = ad435 := (by injection e435); replace hx435_0 := keep_cell HK.out hx435_0 (by first | (rw [add_block]; exact hf2 _ rfl (by omega)) | exact hf2 _ rfl (by omega) | exact hf2 ad434 rfl (by omega)); replace p435 := eq_true p435; replace q435 := eq_true q435; obtain ⟨ASz16_1, cSz16_1, ASz16_2, cSz16_2, HGz16, hgz16, HSz16_1, HSz16_2⟩ := HI0.out; have hcz16_0 := cellS30_0 HGz16; have hcz16_1 := cellS30_1 HGz16; have hcz16_2 := cellS30_2 HGz16; have hcz16_3 := cellS30_3 HGz16; have hcz16_4 := cellS30_4 HGz16; have hcz16_5 := cellS30_5 HGz16; have hcz16_6 := cellS30_6 HGz16; have hfz16_0 := blk_frozen HGz16 0; have hfz16_3 := blk_frozen HGz16 3; have hfz16_4 := blk_frozen HGz16 4; have hfz16_5 := blk_frozen HGz16 5; have hfz16_6 := blk_frozen HGz16 6; clear HGz16 hgz16; have p436 : 0 ≤ (x11_1 : Int) := of_decide_eq_true (by with_reducible assumption); have q436 : x11_1 < (l2.length : Int) := of_decide_eq_true (by with_reducible assumption); obtain ⟨ad436, e436, hx436_0⟩ := Kd.at_int HR2.out x11_1 p436 q436; obtain rfl : ad434 = ad436 := (by injection e436); replace hx436_0 := keep_cell HK.out hx436_0 (by first | (rw [add_block]; exact hf2 _ rfl (by omega)) | exact hf2 _ rfl (by omega) | exact hf2 ad434 rfl (by omega)); replace p436 := eq_true p436; replace q436 := eq_true q436; have p437 : 0 ≤ (x12_2 : Int) := of_decide_eq_true (by with_reducible assumption); have q437 : x12_2 < (l2.length : Int) := of_decide_eq_true (by with_reducible assumption); obtain ⟨ad437, e437, hx437_0⟩ := Kd.at_int HR2.out x12_2 p437 q437; obtain rfl : ad434 = ad437 := (by injection e437); replace hx437_0 := keep_cell HK.out hx437_0 (by first | (rw [add_block]; exact hf2 _ rfl (by omega)) | exact hf2 _ rfl (by omega) | exact hf2 ad434 rfl (by omega)); replace p437 := eq_true p437; replace q437 := eq_true q437)); go_upto_region 14 with (first | (go_at_call 57; (with_reducible refine (spec_l06Path.calls k2 g x1000_2 s0_1 s0_2 x1003_2 x1004_2 x1005_2 x1006_2 x11_1 x12_2 t426 t427 true t429 t430 t431 t432 t433 w0 _ ?side1 ?side2 A7.out).mono ?_); (case side1 => repeat (first | (with_reducible first | exact HI0.out | apply IsS30.alloc | apply IsS30.drewN | apply IsS30.drew | apply IsS30.set_0 | apply IsS30.set_3 | apply IsS30.set_4 | apply IsS30.set_5 | apply IsS30.set_6) | exact HI0.out)); (case side2 => repeat (first | (with_reducible first | exact HB.out | apply below_alloc | apply pw_below_drewN | apply below_drew1 | refine below_set ?_ (IsS30.ge HI0.out)) | exact HB.out)); rintro e w15 ⟨rfl, hi, hb, hk⟩; have n0_ := Aside0.mk (KeepBut.trans (by with_reducible repeat (first | exact HK.out | apply KeepBut.set_ | apply keep_drewN | apply keep_drew | apply keep_alloc)) hk (.inl rfl)); have n1_ := Aside0.mk (hb); have n2_ := Aside0.mk (hi); clear HK; clear HB; clear HI0; have HK := n0_; have HB := n1_; have HI0 := n2_; clear n0_ n1_ n2_; (try clear hb); (try clear hb2); (try clear hk); (try clear hi); have p434 : 0 ≤ (x12_2 : Int) := of_decide_eq_true (by with_reducible assumption); have q434 : x12_2 < (l2.length : Int) := of_decide_eq_true (by with_reducible assumption); obtain ⟨ad434, e434, hx434_0⟩ := Kd.at_int HR2.out x12_2 p434 q434; cases e434; replace hx434_0 := keep_cell HK.out hx434_0 (by first | (rw [add_block]; exact hf2 _ rfl (by omega)) | exact hf2 _ rfl (by omega) | exact hf2 ad434 rfl (by omega)); replace p434 := eq_true p434; replace q434 := eq_true q434; have p435 : 0 ≤ (x11_1 : Int) := of_decide_eq_true (by with_reducible assumption); have q435 : x11_1 < (l2.length : Int) := of_decide_eq_true (by with_reducible assumption); obtain ⟨ad435, e435, hx435_0⟩ := Kd.at_int HR2.out x11_1 p435 q435; obtain rfl : ad434 = ad435 := (by injection e435); replace hx435_0 := keep_cell HK.out hx435_0 (by first | (rw [add_block]; exact hf2 _ rfl (by omega)) | exact hf2 _ rfl (by omega) | exact hf2 ad434 rfl (by omega)); replace p435 := eq_true p435; replace q435 := eq_true q435; obtain ⟨ASz16_1, cSz16_1, ASz16_2, cSz16_2, HGz16, hgz16, HSz16_1, HSz16_2⟩ := HI0.out; have hcz16_0 := cellS30_0 HGz16; have hcz16_1 := cellS30_1 HGz16; have hcz16_2 := cellS30_2 HGz16; have hcz16_3 := cellS30_3 HGz16; have hcz16_4 := cellS30_4 HGz16; have hcz16_5 := cellS30_5 HGz16; have hcz16_6 := cellS30_6 HGz16; have hfz16_0 := blk_frozen HGz16 0; have hfz16_3 := blk_frozen HGz16 3; have hfz16_4 := blk_frozen HGz16 4; have hfz16_5 := blk_frozen HGz16 5; have hfz16_6 := blk_frozen HGz16 6; clear HGz16 hgz16; have p436 : 0 ≤ (x11_1 : Int) := of_decide_eq_true (by with_reducible assumption); have q436 : x11_1 < (l2.length : Int) := of_decide_eq_true (by with_reducible assumption); obtain ⟨ad436, e436, hx436_0⟩ := Kd.at_int HR2.out x11_1 p436 q436; obtain rfl : ad434 = ad436 := (by injection e436); replace hx436_0 := keep_cell HK.out hx436_0 (by first | (rw [add_block]; exact hf2 _ rfl (by omega)) | exact hf2 _ rfl (by omega) | exact hf2 ad434 rfl (by omega)); replace p436 := eq_true p436; replace q436 := eq_true q436; have p437 : 0 ≤ (x12_2 : Int) := of_decide_eq_true (by with_reducible assumption); have q437 : x12_2 < (l2.length : Int) := of_decide_eq_true (by with_reducible assumption); obtain ⟨ad437, e437, hx437_0⟩ := Kd.at_int HR2.out x12_2 p437 q437; obtain rfl : ad434 = ad437 := (by injection e437); replace hx437_0 := keep_cell HK.out hx437_0 (by first | (rw [add_block]; exact hf2 _ rfl (by omega)) | exact hf2 _ rfl (by omega) | exact hf2 ad434 rfl (by omega)); replace p437 := eq_true p437; replace q437 := eq_true q437)))
        (try simp only [Act.put, List.setIfInBounds_toArray, List.set_cons_zero, List.set_cons_succ])
        go_cut [84] (fun v84 wc => ∃ (kq : Nat) (x84_12 : Bool), v84 = .bool x84_12 ∧ Aside0 (spec_l06Rooms.j2 kq a1 l2 x8_2 x9_2 x10_2 x11_1 x12_2 (wrap64 ((wrap64 ((wrap64 ((wrap64 (a1 + (rd l2 x12_2))) - (rd l2 x11_1))) - t427)) - t430)) (wrap64 ((wrap64 ((wrap64 (t426 + (rd l2 x11_1))) - (rd l2 x12_2))) - t431)) x84_12 t429 s0_1 s0_2 t430 t431 t432 t433 = some (r1, r2, r3, r4, r5, r6, r7)) ∧ Aside0 (kq ≤ k2) ∧ Aside0 (IsS30 w0 wc g t429 s0_1 s0_2 t430 t431 t432 t433) ∧ Aside0 (KeepBut w wc g none) ∧ Aside0 (Below w0.heap.size w0 wc))
        case first =>
         have H := HC13.out
         clear HC13
         by_cases c17 : x10_2 = true
         ·subst c17
          rw [if_pos rfl] at H
          have H' := Aside0.mk H
          clear H
          go_wp2
          repeat (go_quiet (fail); try go_wp2)
          go_meet
          case rel => exact ⟨_, (decide ((wrap64 ((wrap64 ((wrap64 ((wrap64 (a1 + (rd l2 x12_2))) - (rd l2 x11_1))) - t427)) - t430)) < x8_2)), (by first | rfl | (simp; done) | (simp [*]; done)), H', ⟨by have := HK1.out; have := HK2.out; first | omega | exact Nat.le_refl _⟩, ⟨by with_reducible repeat (first | exact HI0.out | apply IsS30.alloc | apply IsS30.drewN | apply IsS30.drew | apply IsS30.set_0 | apply IsS30.set_3 | apply IsS30.set_4 | apply IsS30.set_5 | apply IsS30.set_6)⟩, ⟨by with_reducible repeat (first | exact HK.out | apply KeepBut.set_ | apply keep_drewN | apply keep_drew | apply keep_alloc)⟩, ⟨by with_reducible repeat (first | exact HB.out | apply below_alloc | apply pw_below_drewN | apply below_drew1 | refine below_set ?_ (IsS30.ge HI0.out))⟩⟩
         ·replace c17 := Bool.eq_false_iff.mpr c17
          subst c17
          rw [if_neg (by decide)] at H
          have H' := Aside0.mk H
          clear H
          go_wp2
          repeat (go_quiet (fail); try go_wp2)
          go_meet
          case rel => exact ⟨_, (true), (by first | rfl | (simp; done) | (simp [*]; done)), H', ⟨by have := HK1.out; have := HK2.out; first | omega | exact Nat.le_refl _⟩, ⟨by with_reducible repeat (first | exact HI0.out | apply IsS30.alloc | apply IsS30.drewN | apply IsS30.drew | apply IsS30.set_0 | apply IsS30.set_3 | apply IsS30.set_4 | apply IsS30.set_5 | apply IsS30.set_6)⟩, ⟨by with_reducible repeat (first | exact HK.out | apply KeepBut.set_ | apply keep_drewN | apply keep_drew | apply keep_alloc)⟩, ⟨by with_reducible repeat (first | exact HB.out | apply below_alloc | apply pw_below_drewN | apply below_drew1 | refine below_set ?_ (IsS30.ge HI0.out))⟩⟩
        case rest =>
         clear HC13
         try clear c1
         try clear c2
         try clear p2
         try clear c4
         try clear c4b0
         try clear p4
         try clear q4
         try clear hx4
         try clear c6
         try clear c6b0
         try clear p6
         try clear c8
         try clear c9
         try clear c9b0
         try clear c10
         try clear c10b0
         try clear c11
         try clear c11b0
         try clear c12
         try clear c12b0
         try clear c17
         try clear hcz14_0
         try clear hcz14_1
         try clear hcz14_2
         try clear hcz14_3
         try clear hcz14_4
         try clear hcz14_5
         try clear hcz14_6
         try clear hcz16_0
         try clear hcz16_1
         try clear hcz16_2
         try clear hcz16_3
         try clear hcz16_4
         try clear hcz16_5
         try clear hcz16_6
         try clear hcz5_0
         try clear hcz5_1
         try clear hcz5_2
         try clear hcz5_3
         try clear hcz5_4
         try clear hcz5_5
         try clear hcz5_6
         try clear hfz14_0
         try clear hfz14_3
         try clear hfz14_4
         try clear hfz14_5
         try clear hfz14_6
         try clear hfz16_0
         try clear hfz16_3
         try clear hfz16_4
         try clear hfz16_5
         try clear hfz16_6
         try clear hfz5_0
         try clear hfz5_3
         try clear hfz5_4
         try clear hfz5_5
         try clear hfz5_6
         try clear hx434_0
         try clear hx435_0
         try clear hx436_0
         try clear hx437_0
         try clear p2
         try clear p434
         try clear p435
         try clear p436
         try clear p437
         try clear q434
         try clear q435
         try clear q436
         try clear q437
         obtain ⟨kq, x84_12, rfl, HA, HJ12, HI0, HK, HB⟩ := hcut
         cases kq with
         | zero => exact absurd HA.out (by simp [spec_l06Rooms.j2])
         | succ kj12 =>
          have H := HA.out
          clear HA
          simp only [spec_l06Rooms.j2] at H
          by_cases c18 : x84_12 = true
          ·subst c18
           rw [if_pos rfl] at H
           by_cases c19 : x10_2 = true
           ·subst c19
            rw [if_pos rfl] at H
            by_cases c20 : (wrap64 ((wrap64 ((wrap64 (t426 + (rd l2 x11_1))) - (rd l2 x12_2))) - t431)) < x9_2
            ·rw [if_pos c20] at H
             have c20b0 : decide ((wrap64 ((wrap64 ((wrap64 (t426 + (rd l2 x11_1))) - (rd l2 x12_2))) - t431)) < x9_2) = true := decide_eq_true c20
             clear c20
             have H' := Aside0.mk H
             clear H
             go_wp2
             repeat (go_quiet (fail); try go_wp2)
             go_roundg kj12
             case measure => have := HK1.out; have := HK2.out; have := HJ12.out; omega
             case rel => exact ⟨((wrap64 ((wrap64 ((wrap64 ((wrap64 (a1 + (rd l2 x12_2))) - (rd l2 x11_1))) - t427)) - t430))), ((wrap64 ((wrap64 ((wrap64 (t426 + (rd l2 x11_1))) - (rd l2 x12_2))) - t431))), (true), (wrap64 (x12_2 + 1)), (t429), (t430), (t431), (t432), (t433), (by first | rfl | (simp; done) | (simp [*]; done)), (by first | rfl | (simp; done) | (simp [*]; done)), (by first | rfl | (simp; done) | (simp [*]; done)), (by first | rfl | (simp; done) | (simp [*]; done)), H', ⟨by have := HK1.out; have := HK2.out; have := HJ12.out; omega⟩, ⟨by with_reducible repeat (first | exact HI0.out | apply IsS30.alloc | apply IsS30.drewN | apply IsS30.drew | apply IsS30.set_0 | apply IsS30.set_3 | apply IsS30.set_4 | apply IsS30.set_5 | apply IsS30.set_6)⟩, ⟨by with_reducible repeat (first | exact HK.out | apply KeepBut.set_ | apply keep_drewN | apply keep_drew | apply keep_alloc)⟩, ⟨by with_reducible repeat (first | exact HB.out | apply below_alloc | apply pw_below_drewN | apply below_drew1 | refine below_set ?_ (IsS30.ge HI0.out))⟩⟩
            ·rw [if_neg c20] at H
             have c20b0 : decide ((wrap64 ((wrap64 ((wrap64 (t426 + (rd l2 x11_1))) - (rd l2 x12_2))) - t431)) < x9_2) = false := decide_eq_false c20
             clear c20
             have H' := Aside0.mk H
             clear H
             go_wp2
             repeat (go_quiet (fail); try go_wp2)
             go_roundg kj12
             case measure => have := HK1.out; have := HK2.out; have := HJ12.out; omega
             case rel => exact ⟨((wrap64 ((wrap64 ((wrap64 ((wrap64 (a1 + (rd l2 x12_2))) - (rd l2 x11_1))) - t427)) - t430))), (x9_2), (true), (wrap64 (x12_2 + 1)), (t429), (t430), (t431), (t432), (t433), (by first | rfl | (simp; done) | (simp [*]; done)), (by first | rfl | (simp; done) | (simp [*]; done)), (by first | rfl | (simp; done) | (simp [*]; done)), (by first | rfl | (simp; done) | (simp [*]; done)), H', ⟨by have := HK1.out; have := HK2.out; have := HJ12.out; omega⟩, ⟨by with_reducible repeat (first | exact HI0.out | apply IsS30.alloc | apply IsS30.drewN | apply IsS30.drew | apply IsS30.set_0 | apply IsS30.set_3 | apply IsS30.set_4 | apply IsS30.set_5 | apply IsS30.set_6)⟩, ⟨by with_reducible repeat (first | exact HK.out | apply KeepBut.set_ | apply keep_drewN | apply keep_drew | apply keep_alloc)⟩, ⟨by with_reducible repeat (first | exact HB.out | apply below_alloc | apply pw_below_drewN | apply below_drew1 | refine below_set ?_ (IsS30.ge HI0.out))⟩⟩
           ·replace c19 := Bool.eq_false_iff.mpr c19
            subst c19
            rw [if_neg (by decide)] at H
            have H' := Aside0.mk H
            clear H
            go_wp2
            repeat (go_quiet (fail); try go_wp2)
            go_roundg kj12
            case measure => have := HK1.out; have := HK2.out; have := HJ12.out; omega
            case rel => exact ⟨((wrap64 ((wrap64 ((wrap64 ((wrap64 (a1 + (rd l2 x12_2))) - (rd l2 x11_1))) - t427)) - t430))), ((wrap64 ((wrap64 ((wrap64 (t426 + (rd l2 x11_1))) - (rd l2 x12_2))) - t431))), (true), (wrap64 (x12_2 + 1)), (t429), (t430), (t431), (t432), (t433), (by first | rfl | (simp; done) | (simp [*]; done)), (by first | rfl | (simp; done) | (simp [*]; done)), (by first | rfl | (simp; done) | (simp [*]; done)), (by first | rfl | (simp; done) | (simp [*]; done)), H', ⟨by have := HK1.out; have := HK2.out; have := HJ12.out; omega⟩, ⟨by with_reducible repeat (first | exact HI0.out | apply IsS30.alloc | apply IsS30.drewN | apply IsS30.drew | apply IsS30.set_0 | apply IsS30.set_3 | apply IsS30.set_4 | apply IsS30.set_5 | apply IsS30.set_6)⟩, ⟨by with_reducible repeat (first | exact HK.out | apply KeepBut.set_ | apply keep_drewN | apply keep_drew | apply keep_alloc)⟩, ⟨by with_reducible repeat (first | exact HB.out | apply below_alloc | apply pw_below_drewN | apply below_drew1 | refine below_set ?_ (IsS30.ge HI0.out))⟩⟩
          ·replace c18 := Bool.eq_false_iff.mpr c18
           subst c18
           rw [if_neg (by decide)] at H
           by_cases c21 : x10_2 = true
           ·subst c21
            rw [if_pos rfl] at H
            by_cases c22 : (wrap64 ((wrap64 ((wrap64 (t426 + (rd l2 x11_1))) - (rd l2 x12_2))) - t431)) < x9_2
            ·rw [if_pos c22] at H
             have c22b0 : decide ((wrap64 ((wrap64 ((wrap64 (t426 + (rd l2 x11_1))) - (rd l2 x12_2))) - t431)) < x9_2) = true := decide_eq_true c22
             clear c22
             have H' := Aside0.mk H
             clear H
             go_wp2
             repeat (go_quiet (fail); try go_wp2)
             go_roundg kj12
             case measure => have := HK1.out; have := HK2.out; have := HJ12.out; omega
             case rel => exact ⟨(x8_2), ((wrap64 ((wrap64 ((wrap64 (t426 + (rd l2 x11_1))) - (rd l2 x12_2))) - t431))), (true), (wrap64 (x12_2 + 1)), (t429), (t430), (t431), (t432), (t433), (by first | rfl | (simp; done) | (simp [*]; done)), (by first | rfl | (simp; done) | (simp [*]; done)), (by first | rfl | (simp; done) | (simp [*]; done)), (by first | rfl | (simp; done) | (simp [*]; done)), H', ⟨by have := HK1.out; have := HK2.out; have := HJ12.out; omega⟩, ⟨by with_reducible repeat (first | exact HI0.out | apply IsS30.alloc | apply IsS30.drewN | apply IsS30.drew | apply IsS30.set_0 | apply IsS30.set_3 | apply IsS30.set_4 | apply IsS30.set_5 | apply IsS30.set_6)⟩, ⟨by with_reducible repeat (first | exact HK.out | apply KeepBut.set_ | apply keep_drewN | apply keep_drew | apply keep_alloc)⟩, ⟨by with_reducible repeat (first | exact HB.out | apply below_alloc | apply pw_below_drewN | apply below_drew1 | refine below_set ?_ (IsS30.ge HI0.out))⟩⟩
            ·rw [if_neg c22] at H
             have c22b0 : decide ((wrap64 ((wrap64 ((wrap64 (t426 + (rd l2 x11_1))) - (rd l2 x12_2))) - t431)) < x9_2) = false := decide_eq_false c22
             clear c22
             have H' := Aside0.mk H
             clear H
             go_wp2
             repeat (go_quiet (fail); try go_wp2)
             go_roundg kj12
             case measure => have := HK1.out; have := HK2.out; have := HJ12.out; omega
             case rel => exact ⟨(x8_2), (x9_2), (true), (wrap64 (x12_2 + 1)), (t429), (t430), (t431), (t432), (t433), (by first | rfl | (simp; done) | (simp [*]; done)), (by first | rfl | (simp; done) | (simp [*]; done)), (by first | rfl | (simp; done) | (simp [*]; done)), (by first | rfl | (simp; done) | (simp [*]; done)), H', ⟨by have := HK1.out; have := HK2.out; have := HJ12.out; omega⟩, ⟨by with_reducible repeat (first | exact HI0.out | apply IsS30.alloc | apply IsS30.drewN | apply IsS30.drew | apply IsS30.set_0 | apply IsS30.set_3 | apply IsS30.set_4 | apply IsS30.set_5 | apply IsS30.set_6)⟩, ⟨by with_reducible repeat (first | exact HK.out | apply KeepBut.set_ | apply keep_drewN | apply keep_drew | apply keep_alloc)⟩, ⟨by with_reducible repeat (first | exact HB.out | apply below_alloc | apply pw_below_drewN | apply below_drew1 | refine below_set ?_ (IsS30.ge HI0.out))⟩⟩
           ·replace c21 := Bool.eq_false_iff.mpr c21
            subst c21
            rw [if_neg (by decide)] at H
            have H' := Aside0.mk H
            clear H
            go_wp2
            repeat (go_quiet (fail); try go_wp2)
            go_roundg kj12
            case measure => have := HK1.out; have := HK2.out; have := HJ12.out; omega
            case rel => exact ⟨(x8_2), ((wrap64 ((wrap64 ((wrap64 (t426 + (rd l2 x11_1))) - (rd l2 x12_2))) - t431))), (true), (wrap64 (x12_2 + 1)), (t429), (t430), (t431), (t432), (t433), (by first | rfl | (simp; done) | (simp [*]; done)), (by first | rfl | (simp; done) | (simp [*]; done)), (by first | rfl | (simp; done) | (simp [*]; done)), (by first | rfl | (simp; done) | (simp [*]; done)), H', ⟨by have := HK1.out; have := HK2.out; have := HJ12.out; omega⟩, ⟨by with_reducible repeat (first | exact HI0.out | apply IsS30.alloc | apply IsS30.drewN | apply IsS30.drew | apply IsS30.set_0 | apply IsS30.set_3 | apply IsS30.set_4 | apply IsS30.set_5 | apply IsS30.set_6)⟩, ⟨by with_reducible repeat (first | exact HK.out | apply KeepBut.set_ | apply keep_drewN | apply keep_drew | apply keep_alloc)⟩, ⟨by with_reducible repeat (first | exact HB.out | apply below_alloc | apply pw_below_drewN | apply below_drew1 | refine below_set ?_ (IsS30.ge HI0.out))⟩⟩
       ·replace c8 := Bool.eq_false_iff.mpr c8
        subst c8
        rw [if_neg (by decide)] at H
        have H' := Aside0.mk H
        clear H
        obtain ⟨ASz23_1, cSz23_1, ASz23_2, cSz23_2, HGz23, hgz23, HSz23_1, HSz23_2⟩ := HI0.out
        have hcz23_0 := cellS30_0 HGz23
        have hcz23_1 := cellS30_1 HGz23
        have hcz23_2 := cellS30_2 HGz23
        have hcz23_3 := cellS30_3 HGz23
        have hcz23_4 := cellS30_4 HGz23
        have hcz23_5 := cellS30_5 HGz23
        have hcz23_6 := cellS30_6 HGz23
        have hfz23_0 := blk_frozen HGz23 0
        have hfz23_3 := blk_frozen HGz23 3
        have hfz23_4 := blk_frozen HGz23 4
        have hfz23_5 := blk_frozen HGz23 5
        have hfz23_6 := blk_frozen HGz23 6
        clear HGz23 hgz23
        go_wp2_with (first | (go_at_call 57; (with_reducible refine (spec_l06Path.calls k2 g x1000_2 s0_1 s0_2 x1003_2 x1004_2 x1005_2 x1006_2 x11_1 x12_2 t426 t427 false t429 t430 t431 t432 t433 w0 _ ?side1 ?side2 A7.out).mono ?_); (case side1 => repeat (first | (with_reducible first | exact HI0.out | apply IsS30.alloc | apply IsS30.drewN | apply IsS30.drew | apply IsS30.set_0 | apply IsS30.set_3 | apply IsS30.set_4 | apply IsS30.set_5 | apply IsS30.set_6) | exact HI0.out)); (case side2 => repeat (first | (with_reducible first | exact HB.out | apply below_alloc | apply pw_below_drewN | apply below_drew1 | refine below_set ?_ (IsS30.ge HI0.out)) | exact HB.out)); rintro e w24 ⟨rfl, hi, hb, hk⟩; have n0_ := Aside0.mk (KeepBut.trans (by with_reducible repeat (first | exact HK.out | apply KeepBut.set_ | apply keep_drewN | apply keep_drew | apply keep_alloc)) hk (.inl rfl)); have n1_ := Aside0.mk (hb); have n2_ := Aside0.mk (hi); clear HK; clear HB; clear HI0; have HK := n0_; have HB := n1_; have HI0 := n2_; clear n0_ n1_ n2_; (try clear hb); (try clear hb2); (try clear hk); (try clear hi)))
        repeat (go_quiet ((go_at_call 57; (with_reducible refine (spec_l06Path.calls k2 g x1000_2 s0_1 s0_2 x1003_2 x1004_2 x1005_2 x1006_2 x11_1 x12_2 t426 t427 false t429 t430 t431 t432 t433 w0 _ ?side1 ?side2 A7.out).mono ?_); (case side1 => repeat (first | (with_reducible first | exact HI0.out | apply IsS30.alloc | apply IsS30.drewN | apply IsS30.drew | apply IsS30.set_0 | apply IsS30.set_3 | apply IsS30.set_4 | apply IsS30.set_5 | apply IsS30.set_6) | exact HI0.out)); (case side2 => repeat (first | (with_reducible first | exact HB.out | apply below_alloc | apply pw_below_drewN | apply below_drew1 | refine below_set ?_ (IsS30.ge HI0.out)) | exact HB.out)); rintro e w24 ⟨rfl, hi, hb, hk⟩; have n0_ := Aside0.mk (KeepBut.trans (by with_reducible repeat (first | exact HK.out | apply KeepBut.set_ | apply keep_drewN | apply keep_drew | apply keep_alloc)) hk (.inl rfl)); have n1_ := Aside0.mk (hb); have n2_ := Aside0.mk (hi); clear HK; clear HB; clear HI0; have HK := n0_; have HB := n1_; have HI0 := n2_; clear n0_ n1_ n2_; (try clear hb); (try clear hb2); (try clear hk); (try clear hi))); try go_wp2_with (first | (go_at_call 57; (with_reducible refine (spec_l06Path.calls k2 g x1000_2 s0_1 s0_2 x1003_2 x1004_2 x1005_2 x1006_2 x11_1 x12_2 t426 t427 false t429 t430 t431 t432 t433 w0 _ ?side1 ?side2 A7.out).mono ?_); (case side1 => repeat (first | (with_reducible first | exact HI0.out | apply IsS30.alloc | apply IsS30.drewN | apply IsS30.drew | apply IsS30.set_0 | apply IsS30.set_3 | apply IsS30.set_4 | apply IsS30.set_5 | apply IsS30.set_6) | exact HI0.out)); (case side2 => repeat (first | (with_reducible first | exact HB.out | apply below_alloc | apply pw_below_drewN | apply below_drew1 | refine below_set ?_ (IsS30.ge HI0.out)) | exact HB.out)); rintro e w24 ⟨rfl, hi, hb, hk⟩; have n0_ := Aside0.mk (KeepBut.trans (by with_reducible repeat (first | exact HK.out | apply KeepBut.set_ | apply keep_drewN | apply keep_drew | apply keep_alloc)) hk (.inl rfl)); have n1_ := Aside0.mk (hb); have n2_ := Aside0.mk (hi); clear HK; clear HB; clear HI0; have HK := n0_; have HB := n1_; have HI0 := n2_; clear n0_ n1_ n2_; (try clear hb); (try clear hb2); (try clear hk); (try clear hi))))
        go_roundg k2
        case measure => have := HK1.out; have := HK2.out; omega
        case rel => exact ⟨(x8_2), (x9_2), (x10_2), (wrap64 (x12_2 + 1)), (t429), (t430), (t431), (t432), (t433), (by first | rfl | (simp; done) | (simp [*]; done)), (by first | rfl | (simp; done) | (simp [*]; done)), (by first | rfl | (simp; done) | (simp [*]; done)), (by first | rfl | (simp; done) | (simp [*]; done)), H', ⟨by have := HK1.out; have := HK2.out; omega⟩, ⟨by with_reducible repeat (first | exact HI0.out | apply IsS30.alloc | apply IsS30.drewN | apply IsS30.drew | apply IsS30.set_0 | apply IsS30.set_3 | apply IsS30.set_4 | apply IsS30.set_5 | apply IsS30.set_6)⟩, ⟨by with_reducible repeat (first | exact HK.out | apply KeepBut.set_ | apply keep_drewN | apply keep_drew | apply keep_alloc)⟩, ⟨by with_reducible repeat (first | exact HB.out | apply below_alloc | apply pw_below_drewN | apply below_drew1 | refine below_set ?_ (IsS30.ge HI0.out))⟩⟩
      ·rw [if_neg c6] at H
       have c6b0 : decide (x12_2 < x1000_2) = false := decide_eq_false c6
       clear c6
       have H' := Aside0.mk H
       clear H
       obtain ⟨ASz25_1, cSz25_1, ASz25_2, cSz25_2, HGz25, hgz25, HSz25_1, HSz25_2⟩ := HI0.out
       have hcz25_0 := cellS30_0 HGz25
       have hcz25_1 := cellS30_1 HGz25
       have hcz25_2 := cellS30_2 HGz25
       have hcz25_3 := cellS30_3 HGz25
       have hcz25_4 := cellS30_4 HGz25
       have hcz25_5 := cellS30_5 HGz25
       have hcz25_6 := cellS30_6 HGz25
       have hfz25_0 := blk_frozen HGz25 0
       have hfz25_3 := blk_frozen HGz25 3
       have hfz25_4 := blk_frozen HGz25 4
       have hfz25_5 := blk_frozen HGz25 5
       have hfz25_6 := blk_frozen HGz25 6
       clear HGz25 hgz25
       go_wp2
       repeat (go_quiet (fail); try go_wp2)
       go_roundg k2
       case measure => have := HK1.out; have := HK2.out; omega
       case rel => exact ⟨(x8_2), (x9_2), (x10_2), (wrap64 (x11_1 + 1)), (x1000_2), (x1003_2), (x1004_2), (x1005_2), (x1006_2), (by first | rfl | (simp; done) | (simp [*]; done)), (by first | rfl | (simp; done) | (simp [*]; done)), (by first | rfl | (simp; done) | (simp [*]; done)), (by first | rfl | (simp; done) | (simp [*]; done)), H', ⟨by have := HK1.out; have := HK2.out; omega⟩, ⟨by with_reducible repeat (first | exact HI0.out | apply IsS30.alloc | apply IsS30.drewN | apply IsS30.drew | apply IsS30.set_0 | apply IsS30.set_3 | apply IsS30.set_4 | apply IsS30.set_5 | apply IsS30.set_6)⟩, ⟨by with_reducible repeat (first | exact HK.out | apply KeepBut.set_ | apply keep_drewN | apply keep_drew | apply keep_alloc)⟩, ⟨by with_reducible repeat (first | exact HB.out | apply below_alloc | apply pw_below_drewN | apply below_drew1 | refine below_set ?_ (IsS30.ge HI0.out))⟩⟩
   ·rw [if_neg c4] at H
    have c4b0 : decide (x11_1 < x1000_1) = false := decide_eq_false c4
    clear c4
    simp only [Option.some.injEq, Prod.mk.injEq] at H
    obtain ⟨rfl, rfl, rfl, rfl, rfl, rfl, rfl⟩ := H
    obtain ⟨ASz26_1, cSz26_1, ASz26_2, cSz26_2, HGz26, hgz26, HSz26_1, HSz26_2⟩ := HI0.out
    have hcz26_0 := cellS30_0 HGz26
    have hcz26_1 := cellS30_1 HGz26
    have hcz26_2 := cellS30_2 HGz26
    have hcz26_3 := cellS30_3 HGz26
    have hcz26_4 := cellS30_4 HGz26
    have hcz26_5 := cellS30_5 HGz26
    have hcz26_6 := cellS30_6 HGz26
    have hfz26_0 := blk_frozen HGz26 0
    have hfz26_3 := blk_frozen HGz26 3
    have hfz26_4 := blk_frozen HGz26 4
    have hfz26_5 := blk_frozen HGz26 5
    have hfz26_6 := blk_frozen HGz26 6
    clear HGz26 hgz26
    go_wp2
    repeat (go_quiet (fail); try go_wp2)
    go_ret2
    exact ⟨by first | rfl | (simp [errW_none, errW_some] <;> rfl) | (simp [*, errW_none, errW_some] <;> rfl), by with_reducible repeat (first | exact HI0.out | apply IsS30.alloc | apply IsS30.drewN | apply IsS30.drew | apply IsS30.set_0 | apply IsS30.set_3 | apply IsS30.set_4 | apply IsS30.set_5 | apply IsS30.set_6), by with_reducible repeat (first | exact HB.out | apply below_alloc | apply pw_below_drewN | apply below_drew1 | refine below_set ?_ (IsS30.ge HI0.out)), by with_reducible repeat (first | exact HK.out | apply KeepBut.set_ | apply keep_drewN | apply keep_drew | apply keep_alloc)⟩

end Go.Proofs.Ytalafmahgeejiaa.Pa
