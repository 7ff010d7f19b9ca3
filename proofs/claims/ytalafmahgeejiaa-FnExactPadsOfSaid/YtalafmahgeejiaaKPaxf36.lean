-- Written for this claim by a program of this session.
import Derived.Test.YtalafmahgeejiaaPax0
import Derived.Test.YtalafmahgeejiaaCore1
import Derived.Test.YtalafmahgeejiaaCore2
import Derived.Test.YtalafmahgeejiaaKPaxf65
namespace Go.Proofs.Ytalafmahgeejiaa.Pa
open Go.RowKit Go.Proofs.YtalafmahgeejiaaW.PrintWords Go.Proofs.YtalafmahgeejiaaW.PrintLast Go.Proofs.YtalafmahgeejiaaW.PrintMore
attribute [local go_sem] max2_int min2_int max_two min_two max_three min_three max_four min_four   -- for this text's walks alone
set_option linter.unusedVariables false
set_option linter.unusedSimpArgs false

/-! ### spec_PadsOf: function 36 -/
mutual
def spec_PadsOf.l0 : Nat → List Int → List Int → Int → Int → List (S62) → List Int → Int → Int → Int → Int → Option (List Int × Bool × Int × Int × Int × Int × Int)
 | 0, _, _, _, _, _, _, _, _, _, _ => none
 | k + 1, x1, x6, x7, x1000, x1001, x1002, x1003, x1004, x1005, x1006 => if x7 < x1000 then (spec_PadsOf.l1 k x1 x6 x7 0 0 x1000 x1001 x1002 x1003 x1004 x1005 x1006) else (some (x6, true, x1000, x1003, x1004, x1005, x1006))
def spec_PadsOf.l1 : Nat → List Int → List Int → Int → Int → Int → Int → List (S62) → List Int → Int → Int → Int → Int → Option (List Int × Bool × Int × Int × Int × Int × Int)
 | 0, _, _, _, _, _, _, _, _, _, _, _, _ => none
 | k + 1, x1, x6, x7, x8, x9, x1000, x1001, x1002, x1003, x1004, x1005, x1006 => if x9 < x1000 then ((spec_l06Path.f k x1000 x1001 x1002 x1003 x1004 x1005 x1006 x9 x7).bind fun bt527 => (if bt527.2.2.1 = true then (if 0 ≤ x7 then (if x7 < (x1.length : Int) then (if 0 ≤ x9 then (if x9 < (x1.length : Int) then ((spec_l00Max.f x8 (wrap64 ((wrap64 ((wrap64 ((rd x1 x7) + bt527.2.2.2.2.2.1)) - (rd x1 x9))) - bt527.1))).bind fun t537 => (spec_PadsOf.l1 k x1 x6 x7 t537 (wrap64 (x9 + 1)) bt527.2.2.2.1 x1001 x1002 bt527.2.2.2.2.1 bt527.2.2.2.2.2.1 bt527.2.2.2.2.2.2.1 bt527.2.2.2.2.2.2.2)) else (none)) else (none)) else (none)) else (none)) else (spec_PadsOf.l1 k x1 x6 x7 x8 (wrap64 (x9 + 1)) bt527.2.2.2.1 x1001 x1002 bt527.2.2.2.2.1 bt527.2.2.2.2.2.1 bt527.2.2.2.2.2.2.1 bt527.2.2.2.2.2.2.2))) else (if x6.length < 17592186044416 then (spec_PadsOf.l0 k x1 (x6 ++ [x8]) (wrap64 (x7 + 1)) x1000 x1001 x1002 x1003 x1004 x1005 x1006) else (none))
end
def spec_PadsOf.fB (k : Nat) (s0_0 : Int) (s0_1 : List (S62)) (s0_2 : List Int) (s0_3 : Int) (s0_4 : Int) (s0_5 : Int) (s0_6 : Int) (l1 : List Int) : Option (List Int × Bool × Int × Int × Int × Int × Int) := (spec_l06Skews.f k s0_0 s0_1 s0_2 s0_3 s0_4 s0_5 s0_6 l1).bind fun bt515 => (if bt515.1 = true then (spec_PadsOf.l0 k l1 (([] : List Int)) 0 bt515.2.1 s0_1 s0_2 bt515.2.2.1 bt515.2.2.2.1 bt515.2.2.2.2.1 bt515.2.2.2.2.2) else (some (([] : List Int), false, bt515.2.1, bt515.2.2.1, bt515.2.2.2.1, bt515.2.2.2.2.1, bt515.2.2.2.2.2)))
theorem spec_PadsOf.mono_l : ∀ k, (∀ y0 y1 y2 y3 y4 y5 y6 y7 y8 y9, LeO (spec_PadsOf.l0 k y0 y1 y2 y3 y4 y5 y6 y7 y8 y9) (spec_PadsOf.l0 (k + 1) y0 y1 y2 y3 y4 y5 y6 y7 y8 y9)) ∧ (∀ y0 y1 y2 y3 y4 y5 y6 y7 y8 y9 y10 y11, LeO (spec_PadsOf.l1 k y0 y1 y2 y3 y4 y5 y6 y7 y8 y9 y10 y11) (spec_PadsOf.l1 (k + 1) y0 y1 y2 y3 y4 y5 y6 y7 y8 y9 y10 y11))
 | 0 => ⟨fun _ _ _ _ _ _ _ _ _ _ r h => by simp [spec_PadsOf.l0] at h, fun _ _ _ _ _ _ _ _ _ _ _ _ r h => by simp [spec_PadsOf.l1] at h⟩
 | k + 1 => by
  obtain ⟨ih0, ih1⟩ := spec_PadsOf.mono_l k
  refine ⟨?_, ?_⟩
  ·intro y0 y1 y2 y3 y4 y5 y6 y7 y8 y9
   unfold spec_PadsOf.l0
   repeat' first
   | (with_reducible exact ih0 _ _ _ _ _ _ _ _ _ _)
   | (with_reducible exact ih1 _ _ _ _ _ _ _ _ _ _ _ _)
   | (with_reducible exact spec_l06Path.mono _ _ _ _ _ _ _ _ _ _)
   | (with_reducible exact spec_l06Skews.mono _ _ _ _ _ _ _ _ _)
   | (with_reducible exact LeO.refl _)
   | (with_reducible exact LeO.none _)
   | (with_reducible refine LeO.ite ?_ ?_)
   | (with_reducible refine LeO.bind ?_ (fun _ => ?_))
   | exact ih0 _ _ _ _ _ _ _ _ _ _
   | exact ih1 _ _ _ _ _ _ _ _ _ _ _ _
   | exact spec_l06Path.mono _ _ _ _ _ _ _ _ _ _
   | exact spec_l06Skews.mono _ _ _ _ _ _ _ _ _
   | exact LeO.none _
   | refine LeO.ite ?_ ?_
   | refine LeO.bind ?_ (fun _ => ?_)
  ·intro y0 y1 y2 y3 y4 y5 y6 y7 y8 y9 y10 y11
   unfold spec_PadsOf.l1
   repeat' first
   | (with_reducible exact ih0 _ _ _ _ _ _ _ _ _ _)
   | (with_reducible exact ih1 _ _ _ _ _ _ _ _ _ _ _ _)
   | (with_reducible exact spec_l06Path.mono _ _ _ _ _ _ _ _ _ _)
   | (with_reducible exact spec_l06Skews.mono _ _ _ _ _ _ _ _ _)
   | (with_reducible exact LeO.refl _)
   | (with_reducible exact LeO.none _)
   | (with_reducible refine LeO.ite ?_ ?_)
   | (with_reducible refine LeO.bind ?_ (fun _ => ?_))
   | exact ih0 _ _ _ _ _ _ _ _ _ _
   | exact ih1 _ _ _ _ _ _ _ _ _ _ _ _
   | exact spec_l06Path.mono _ _ _ _ _ _ _ _ _ _
   | exact spec_l06Skews.mono _ _ _ _ _ _ _ _ _
   | exact LeO.none _
   | refine LeO.ite ?_ ?_
   | refine LeO.bind ?_ (fun _ => ?_)
theorem spec_PadsOf.monoB : ∀ a0 a1 a2 a3 a4 a5 a6 a7 k, LeO (spec_PadsOf.fB k a0 a1 a2 a3 a4 a5 a6 a7) (spec_PadsOf.fB (k + 1) a0 a1 a2 a3 a4 a5 a6 a7) := by
 intro a0 a1 a2 a3 a4 a5 a6 a7 k
 obtain ⟨ih0, ih1⟩ := spec_PadsOf.mono_l k
 unfold spec_PadsOf.fB
 repeat' first
   | (with_reducible exact ih0 _ _ _ _ _ _ _ _ _ _)
   | (with_reducible exact ih1 _ _ _ _ _ _ _ _ _ _ _ _)
   | (with_reducible exact spec_l06Path.mono _ _ _ _ _ _ _ _ _ _)
   | (with_reducible exact spec_l06Skews.mono _ _ _ _ _ _ _ _ _)
   | (with_reducible exact LeO.refl _)
   | (with_reducible exact LeO.none _)
   | (with_reducible refine LeO.ite ?_ ?_)
   | (with_reducible refine LeO.bind ?_ (fun _ => ?_))
   | exact ih0 _ _ _ _ _ _ _ _ _ _
   | exact ih1 _ _ _ _ _ _ _ _ _ _ _ _
   | exact spec_l06Path.mono _ _ _ _ _ _ _ _ _ _
   | exact spec_l06Skews.mono _ _ _ _ _ _ _ _ _
   | exact LeO.none _
   | refine LeO.ite ?_ ?_
   | refine LeO.bind ?_ (fun _ => ?_)
set_option maxHeartbeats 8000000 in
set_option maxRecDepth 100000 in
theorem spec_PadsOf.callsB (k : Nat) (A0_1 : Option Addr) (c0_1 : Nat) (A0_2 : Option Addr) (c0_2 : Nat) (g : Nat) (s0_0 : Int) (s0_1 : List (S62)) (s0_2 : List Int) (s0_3 : Int) (s0_4 : Int) (s0_5 : Int) (s0_6 : Int) (A1 : Option Addr) (c1 : Nat) (l1 : List Int) (r1 : List Int) (r2 : Bool) (r3 : Int) (r4 : Int) (r5 : Int) (r6 : Int) (r7 : Int) (w0 w : World) (hI : IsS30 w0 w g s0_0 s0_1 s0_2 s0_3 s0_4 s0_5 s0_6) (hB : Below w0.heap.size w0 w) (hr1 : Kd.C (Kd.int .i64) w A1 l1.length l1) (hc1 : l1.length ≤ c1) (hf1 : ∀ ad, A1 = some ad → 0 < l1.length → ad.block ≠ g) (hg_ : g = w0.heap.size) (hw_ : w = w0.alloc (.cells #[.int .i64 s0_0, .slice A0_1 s0_1.length c0_1, .slice A0_2 s0_2.length c0_2, .int .i64 s0_3, .int .i64 s0_4, .int .i64 s0_5, .int .i64 s0_6] 30)) (h : spec_PadsOf.fB k s0_0 s0_1 s0_2 s0_3 s0_4 s0_5 s0_6 l1 = some (r1, r2, r3, r4, r5, r6, r7)) :
  Calls Try.prog 36 #[.agg #[.int .i64 s0_0, .slice A0_1 s0_1.length c0_1, .slice A0_2 s0_2.length c0_2, .int .i64 s0_3, .int .i64 s0_4, .int .i64 s0_5, .int .i64 s0_6], .slice A1 l1.length c1] w0 fun e w' => ∃ v0_ : Value, e = .returned (.tuple #[v0_, .bool r2]) ∧ Kd.R (Kd.int .i64) 2 w' w.heap.size (fun _ => True) v0_ r1 ∧ IsS30 w0 w' g r3 s0_1 s0_2 r4 r5 r6 r7 ∧ Below w0.heap.size w0 w' ∧ KeepBut w w' g none := by
 have hu30_ := Try.underlying30
 have HG_ := Aside0.mk hg_
 have HW_ := Aside0.mk hw_
 clear hg_ hw_
 have HR1 := Aside0.mk hr1
 have HC1 := Aside0.mk hc1
 clear hr1 hc1
 have HI0 := Aside0.mk hI
 have HK := Aside0.mk (KeepBut.refl w g none)
 have HL := Aside0.mk hB.size
 clear hI
 have HW0 := Aside0.mk hB.size
 have HB := Aside0.mk hB
 clear hB
 have H : ((spec_l06Skews.f k s0_0 s0_1 s0_2 s0_3 s0_4 s0_5 s0_6 l1).bind fun bt515 => (if bt515.1 = true then (spec_PadsOf.l0 k l1 (([] : List Int)) 0 bt515.2.1 s0_1 s0_2 bt515.2.2.1 bt515.2.2.2.1 bt515.2.2.2.2.1 bt515.2.2.2.2.2) else (some (([] : List Int), false, bt515.2.1, bt515.2.2.1, bt515.2.2.2.1, bt515.2.2.2.2.1, bt515.2.2.2.2.2)))) = some (r1, r2, r3, r4, r5, r6, r7) := h
 clear h
 replace H := Option.bind_eq_some_iff.mp H
 obtain ⟨⟨t515, t516, t517, t518, t519, t520⟩, A30, H⟩ := H
 try dsimp only at H
 have A3 := Aside0.mk A30
 clear A30
 by_cases c4 : t515 = true
 ·subst c4
  rw [if_pos rfl] at H
  obtain ⟨y521, hy521⟩ : ∃ y_ : List Int, y_ = (([] : List Int)) := ⟨_, rfl⟩
  (try rw [Option.bind_some] at H); try rw [← hy521] at H
  have Ny521 := Aside0.mk hy521
  clear hy521
  have H' := Aside0.mk H
  clear H
  go_enter Try.func36, Try.ntmps36
  go_wp2_with (first | ((with_reducible refine gate_dst (N := 2) rfl ?_); refine box_here (g := g) (w1 := w) (t := 30) ?hg (N := 2) ?hd HG_.out HW_.out ?hr ?_; (case hd => rfl); (case hg => rfl); (case hr => first | (go_simp; done) | (go_simp; rfl))) | (go_at_call 65; (with_reducible refine (spec_l06Skews.calls k g s0_0 s0_1 s0_2 s0_3 s0_4 s0_5 s0_6 _ _ l1 true t516 t517 t518 t519 t520 w0 _ ?side1 ?side2 ?side3 ?side4 ?side5 A3.out).mono ?_); (case side1 => repeat (first | (with_reducible first | exact HI0.out | apply IsS30.alloc | apply IsS30.drewN | apply IsS30.drew | apply IsS30.set_0 | apply IsS30.set_3 | apply IsS30.set_4 | apply IsS30.set_5 | apply IsS30.set_6) | exact HI0.out)); (case side2 => repeat (first | (with_reducible first | exact HB.out | apply below_alloc | apply pw_below_drewN | apply below_drew1 | refine below_set ?_ (IsS30.ge HI0.out)) | exact HB.out)); (case side3 => exact Kd.C_keep 0 HR1.out (by with_reducible repeat (first | exact HK.out | apply KeepBut.set_ | apply keep_drewN | apply keep_drew | apply keep_alloc)) hf1); (case side4 => exact HC1.out); (case side5 => exact hf1); rintro e w5 ⟨rfl, hi, hb, hk⟩; have n0_ := Aside0.mk (KeepBut.trans (by with_reducible repeat (first | exact HK.out | apply KeepBut.set_ | apply keep_drewN | apply keep_drew | apply keep_alloc)) hk (.inl rfl)); have n1_ := Aside0.mk (hb); have n2_ := Aside0.mk (hi); clear HK; clear HB; clear HI0; have HK := n0_; have HB := n1_; have HI0 := n2_; clear n0_ n1_ n2_; (try clear hb); (try clear hb2); (try clear hk); (try clear hi)) | ((with_reducible refine gate_dst (N := 16) rfl ?_); refine Kd.R_lit (Kd.int .i64) _ 2 ?hg (N := 16) ?hd (xs := ([] : List Int)) (inner := []) (ok := fun _ => True) (okp := fun _ => True) ?hr ?hp (fun _ hk => hk) trivial (Below.refl _ _) (Nat.le_refl _) (by simp) ?_; (case hd => rfl); (case hg => rfl); (case hr => first | (go_simp; done) | (go_simp; rfl)); (case hp => exact (Reps.none _ _)); intro v522 w6 ho7 hb hg_ hnew_; clear hg_ hnew_; (first | rw [← Ny521.out] at ho7 | (simp only [Int.reduceToNat] at ho7; rw [← Ny521.out] at ho7)); have n0_ := Aside0.mk (Kd.R_lower ho7 (keep_size (w := w) (g := g) (row := none) (by with_reducible repeat (first | exact HK.out | apply KeepBut.set_ | apply keep_drewN | apply keep_drew | apply keep_alloc)))); have n1_ := Aside0.mk (IsS30.below (by with_reducible repeat (first | exact HI0.out | apply IsS30.alloc | apply IsS30.drewN | apply IsS30.drew | apply IsS30.set_0 | apply IsS30.set_3 | apply IsS30.set_4 | apply IsS30.set_5 | apply IsS30.set_6)) hb); have n2_ := Aside0.mk (KeepBut.trans (by with_reducible repeat (first | exact HK.out | apply KeepBut.set_ | apply keep_drewN | apply keep_drew | apply keep_alloc)) (KeepBut.of_below hb g none) (.inl rfl)); have n3_ := Aside0.mk (below_step (by with_reducible repeat (first | exact HB.out | apply below_alloc | apply pw_below_drewN | apply below_drew1 | refine below_set ?_ (IsS30.ge HI0.out))) hb); clear HI0; clear HK; clear HB; have HO523 := n0_; have HI0 := n1_; have HK := n2_; have HB := n3_; clear n0_ n1_ n2_ n3_; clear hb ho7))
  repeat (go_quiet ((go_at_call 65; (with_reducible refine (spec_l06Skews.calls k g s0_0 s0_1 s0_2 s0_3 s0_4 s0_5 s0_6 _ _ l1 true t516 t517 t518 t519 t520 w0 _ ?side1 ?side2 ?side3 ?side4 ?side5 A3.out).mono ?_); (case side1 => repeat (first | (with_reducible first | exact HI0.out | apply IsS30.alloc | apply IsS30.drewN | apply IsS30.drew | apply IsS30.set_0 | apply IsS30.set_3 | apply IsS30.set_4 | apply IsS30.set_5 | apply IsS30.set_6) | exact HI0.out)); (case side2 => repeat (first | (with_reducible first | exact HB.out | apply below_alloc | apply pw_below_drewN | apply below_drew1 | refine below_set ?_ (IsS30.ge HI0.out)) | exact HB.out)); (case side3 => exact Kd.C_keep 0 HR1.out (by with_reducible repeat (first | exact HK.out | apply KeepBut.set_ | apply keep_drewN | apply keep_drew | apply keep_alloc)) hf1); (case side4 => exact HC1.out); (case side5 => exact hf1); rintro e w5 ⟨rfl, hi, hb, hk⟩; have n0_ := Aside0.mk (KeepBut.trans (by with_reducible repeat (first | exact HK.out | apply KeepBut.set_ | apply keep_drewN | apply keep_drew | apply keep_alloc)) hk (.inl rfl)); have n1_ := Aside0.mk (hb); have n2_ := Aside0.mk (hi); clear HK; clear HB; clear HI0; have HK := n0_; have HB := n1_; have HI0 := n2_; clear n0_ n1_ n2_; (try clear hb); (try clear hb2); (try clear hk); (try clear hi))); try go_wp2_with (fail))
  go_loopg [6, 7] k (fun kq v6 v7 w' => ∃ (x6_1 : List Int) (x7_1 : Int) (x1000_1 : Int) (x1003_1 : Int) (x1004_1 : Int) (x1005_1 : Int) (x1006_1 : Int), v7 = .int .i64 x7_1 ∧ Aside0 (spec_PadsOf.l0 kq l1 x6_1 x7_1 x1000_1 s0_1 s0_2 x1003_1 x1004_1 x1005_1 x1006_1 = some (r1, r2, r3, r4, r5, r6, r7)) ∧ Aside0 (kq ≤ k) ∧ Aside0 (Kd.R (Kd.int .i64) 2 w' w.heap.size (fun _ => True) v6 x6_1) ∧ Aside0 (IsS30 w0 w' g x1000_1 s0_1 s0_2 x1003_1 x1004_1 x1005_1 x1006_1) ∧ Aside0 (KeepBut w w' g none) ∧ Aside0 (Below w0.heap.size w0 w'))
  case atStart => exact ⟨(y521), (0), (t516), (t517), (t518), (t519), (t520), (by first | rfl | (simp; done) | (simp [*]; done)), H', ⟨Nat.le_refl _⟩, ⟨by (with_reducible repeat (first | apply Kd.R_alloc | apply Kd.R_drewN | apply Kd.R_drew)); exact HO523.out⟩, ⟨by with_reducible repeat (first | exact HI0.out | apply IsS30.alloc | apply IsS30.drewN | apply IsS30.drew | apply IsS30.set_0 | apply IsS30.set_3 | apply IsS30.set_4 | apply IsS30.set_5 | apply IsS30.set_6)⟩, ⟨by with_reducible repeat (first | exact HK.out | apply KeepBut.set_ | apply keep_drewN | apply keep_drew | apply keep_alloc)⟩, ⟨by with_reducible repeat (first | exact HB.out | apply below_alloc | apply pw_below_drewN | apply below_drew1 | refine below_set ?_ (IsS30.ge HI0.out))⟩⟩
  case round =>
   clear H'
   try clear c1
   try clear p2
   try clear c3
   try clear c4
   obtain ⟨x6_1, x7_1, x1000_1, x1003_1, x1004_1, x1005_1, x1006_1, rfl, HA, HK1, HO_6, HI0, HK, HB⟩ := hrel
   cases gk with
   | zero => exact absurd HA.out (by simp [spec_PadsOf.l0])
   | succ k1 =>
    have H := HA.out
    clear HA
    simp only [spec_PadsOf.l0] at H
    by_cases c8 : x7_1 < x1000_1
    ·rw [if_pos c8] at H
     have c8b0 : decide (x7_1 < x1000_1) = true := decide_eq_true c8
     clear c8
     have H' := Aside0.mk H
     clear H
     obtain ⟨ASz9_1, cSz9_1, ASz9_2, cSz9_2, HGz9, hgz9, HSz9_1, HSz9_2⟩ := HI0.out
     have hcz9_0 := cellS30_0 HGz9
     have hcz9_1 := cellS30_1 HGz9
     have hcz9_2 := cellS30_2 HGz9
     have hcz9_3 := cellS30_3 HGz9
     have hcz9_4 := cellS30_4 HGz9
     have hcz9_5 := cellS30_5 HGz9
     have hcz9_6 := cellS30_6 HGz9
     have hfz9_0 := blk_frozen HGz9 0
     have hfz9_3 := blk_frozen HGz9 3
     have hfz9_4 := blk_frozen HGz9 4
     have hfz9_5 := blk_frozen HGz9 5
     have hfz9_6 := blk_frozen HGz9 6
     clear HGz9 hgz9
     go_wp2
     repeat (go_quiet (fail); try go_wp2)
     go_loopg [8, 9] k1 (fun kq v8 v9 w' => ∃ (x8_2 : Int) (x9_2 : Int) (x1000_2 : Int) (x1003_2 : Int) (x1004_2 : Int) (x1005_2 : Int) (x1006_2 : Int), v8 = .int .i64 x8_2 ∧ v9 = .int .i64 x9_2 ∧ Aside0 (spec_PadsOf.l1 kq l1 x6_1 x7_1 x8_2 x9_2 x1000_2 s0_1 s0_2 x1003_2 x1004_2 x1005_2 x1006_2 = some (r1, r2, r3, r4, r5, r6, r7)) ∧ Aside0 (kq ≤ k1) ∧ Aside0 (Kd.R (Kd.int .i64) 2 w' w.heap.size (fun _ => True) u6 x6_1) ∧ Aside0 (IsS30 w0 w' g x1000_2 s0_1 s0_2 x1003_2 x1004_2 x1005_2 x1006_2) ∧ Aside0 (KeepBut w w' g none) ∧ Aside0 (Below w0.heap.size w0 w'))
     case atStart => exact ⟨(0), (0), (x1000_1), (x1003_1), (x1004_1), (x1005_1), (x1006_1), (by first | rfl | (simp; done) | (simp [*]; done)), (by first | rfl | (simp; done) | (simp [*]; done)), H', ⟨Nat.le_refl _⟩, ⟨by (with_reducible repeat (first | apply Kd.R_alloc | apply Kd.R_drewN | apply Kd.R_drew)); exact HO_6.out⟩, ⟨by with_reducible repeat (first | exact HI0.out | apply IsS30.alloc | apply IsS30.drewN | apply IsS30.drew | apply IsS30.set_0 | apply IsS30.set_3 | apply IsS30.set_4 | apply IsS30.set_5 | apply IsS30.set_6)⟩, ⟨by with_reducible repeat (first | exact HK.out | apply KeepBut.set_ | apply keep_drewN | apply keep_drew | apply keep_alloc)⟩, ⟨by with_reducible repeat (first | exact HB.out | apply below_alloc | apply pw_below_drewN | apply below_drew1 | refine below_set ?_ (IsS30.ge HI0.out))⟩⟩
     case round =>
      clear H'
      try clear c1
      try clear p2
      try clear c3
      try clear c4
      try clear c8
      try clear c8b0
      try clear hcz9_0
      try clear hcz9_1
      try clear hcz9_2
      try clear hcz9_3
      try clear hcz9_4
      try clear hcz9_5
      try clear hcz9_6
      try clear hfz9_0
      try clear hfz9_3
      try clear hfz9_4
      try clear hfz9_5
      try clear hfz9_6
      try clear p2
      obtain ⟨x8_2, x9_2, x1000_2, x1003_2, x1004_2, x1005_2, x1006_2, rfl, rfl, HA, HK2, HO_6, HI0, HK, HB⟩ := hrel
      cases gk with
      | zero => exact absurd HA.out (by simp [spec_PadsOf.l1])
      | succ k2 =>
       have H := HA.out
       clear HA
       simp only [spec_PadsOf.l1] at H
       by_cases c10 : x9_2 < x1000_2
       ·rw [if_pos c10] at H
        have c10b0 : decide (x9_2 < x1000_2) = true := decide_eq_true c10
        clear c10
        replace H := Option.bind_eq_some_iff.mp H
        obtain ⟨⟨t527, t528, t529, t530, t531, t532, t533, t534⟩, A110, H⟩ := H
        try dsimp only at H
        have A11 := Aside0.mk A110
        clear A110
        by_cases c12 : t529 = true
        ·subst c12
         rw [if_pos rfl] at H
         by_cases c13 : 0 ≤ x7_1
         case neg => rw [if_neg c13] at H; exact absurd H (by simp)
         rw [if_pos c13] at H
         have c13b0 : decide (0 ≤ x7_1) = true := decide_eq_true c13
         clear c13
         by_cases c14 : x7_1 < (l1.length : Int)
         case neg => rw [if_neg c14] at H; exact absurd H (by simp)
         rw [if_pos c14] at H
         have c14b0 : decide (x7_1 < (l1.length : Int)) = true := decide_eq_true c14
         clear c14
         by_cases c15 : 0 ≤ x9_2
         case neg => rw [if_neg c15] at H; exact absurd H (by simp)
         rw [if_pos c15] at H
         have c15b0 : decide (0 ≤ x9_2) = true := decide_eq_true c15
         clear c15
         by_cases c16 : x9_2 < (l1.length : Int)
         case neg => rw [if_neg c16] at H; exact absurd H (by simp)
         rw [if_pos c16] at H
         have c16b0 : decide (x9_2 < (l1.length : Int)) = true := decide_eq_true c16
         clear c16
         replace H := Option.bind_eq_some_iff.mp H
         obtain ⟨t537, A170, H⟩ := H
         try dsimp only at H
         have A17 := Aside0.mk A170
         clear A170
         have H' := Aside0.mk H
         clear H
         obtain ⟨ASz18_1, cSz18_1, ASz18_2, cSz18_2, HGz18, hgz18, HSz18_1, HSz18_2⟩ := HI0.out
         have hcz18_0 := cellS30_0 HGz18
         have hcz18_1 := cellS30_1 HGz18
         have hcz18_2 := cellS30_2 HGz18
         have hcz18_3 := cellS30_3 HGz18
         have hcz18_4 := cellS30_4 HGz18
         have hcz18_5 := cellS30_5 HGz18
         have hcz18_6 := cellS30_6 HGz18
         have hfz18_0 := blk_frozen HGz18 0
         have hfz18_3 := blk_frozen HGz18 3
         have hfz18_4 := blk_frozen HGz18 4
         have hfz18_5 := blk_frozen HGz18 5
         have hfz18_6 := blk_frozen HGz18 6
         clear HGz18 hgz18
         go_wp2_with ((go_at_call 57; (with_reducible refine (spec_l06Path.calls k2 g x1000_2 s0_1 s0_2 x1003_2 x1004_2 x1005_2 x1006_2 x9_2 x7_1 t527 t528 true t530 t531 t532 t533 t534 w0 _ ?side1 ?side2 A11.out).mono ?_); (case side1 => repeat (first | (with_reducible first | exact HI0.out | apply IsS30.alloc | apply IsS30.drewN | apply IsS30.drew | apply IsS30.set_0 | apply IsS30.set_3 | apply IsS30.set_4 | apply IsS30.set_5 | apply IsS30.set_6) | exact HI0.out)); (case side2 => repeat (first | (with_reducible first | exact HB.out | apply below_alloc | apply pw_below_drewN | apply below_drew1 | refine below_set ?_ (IsS30.ge HI0.out)) | exact HB.out)); rintro e w19 ⟨rfl, hi, hb, hk⟩; have n0_ := Aside0.mk (Kd.R_mono (Kd.R_keep (IsS30.apart (show IsS30 w0 _ g x1000_2 s0_1 s0_2 x1003_2 x1004_2 x1005_2 x1006_2 from by with_reducible repeat (first | exact HI0.out | apply IsS30.alloc | apply IsS30.drewN | apply IsS30.drew | apply IsS30.set_0 | apply IsS30.set_3 | apply IsS30.set_4 | apply IsS30.set_5 | apply IsS30.set_6)) (by (with_reducible repeat (first | apply Kd.R_alloc | apply Kd.R_drewN | apply Kd.R_drew)); exact HO_6.out) (by decide)) hk (fun _ h => h.2)) (fun _ h => h.1)); have n1_ := Aside0.mk (KeepBut.trans (by with_reducible repeat (first | exact HK.out | apply KeepBut.set_ | apply keep_drewN | apply keep_drew | apply keep_alloc)) hk (.inl rfl)); have n2_ := Aside0.mk (hb); have n3_ := Aside0.mk (hi); clear HO_6; clear HK; clear HB; clear HI0; have HO_6 := n0_; have HK := n1_; have HB := n2_; have HI0 := n3_; clear n0_ n1_ n2_ n3_; (try clear hb); (try clear hb2); (try clear hk); (try clear hi); have p535 : 0 ≤ (x7_1 : Int) := of_decide_eq_true (by with_reducible assumption); have q535 : x7_1 < (l1.length : Int) := of_decide_eq_true (by with_reducible assumption); obtain ⟨ad535, e535, hx535_0⟩ := Kd.at_int HR1.out x7_1 p535 q535; cases e535; replace hx535_0 := keep_cell HK.out hx535_0 (by first | (rw [add_block]; exact hf1 _ rfl (by omega)) | exact hf1 _ rfl (by omega) | exact hf1 ad535 rfl (by omega)); replace p535 := eq_true p535; replace q535 := eq_true q535; obtain ⟨ASz20_1, cSz20_1, ASz20_2, cSz20_2, HGz20, hgz20, HSz20_1, HSz20_2⟩ := HI0.out; have hcz20_0 := cellS30_0 HGz20; have hcz20_1 := cellS30_1 HGz20; have hcz20_2 := cellS30_2 HGz20; have hcz20_3 := cellS30_3 HGz20; have hcz20_4 := cellS30_4 HGz20; have hcz20_5 := cellS30_5 HGz20; have hcz20_6 := cellS30_6 HGz20; have hfz20_0 := blk_frozen HGz20 0; have hfz20_3 := blk_frozen HGz20 3; have hfz20_4 := blk_frozen HGz20 4; have hfz20_5 := blk_frozen HGz20 5; have hfz20_6 := blk_frozen HGz20 6; clear HGz20 hgz20; have p536 : 0 ≤ (x9_2 : Int) := of_decide_eq_true (by with_reducible assumption); have q536 : x9_2 < (l1.length : Int) := of_decide_eq_true (by with_reducible assumption); obtain ⟨ad536, e536, hx536_0⟩ := Kd.at_int HR1.out x9_2 p536 q536; obtain rfl : ad535 = ad536 := (by injection e536); replace hx536_0 := keep_cell HK.out hx536_0 (by first | (rw [add_block]; exact hf1 _ rfl (by omega)) | exact hf1 _ rfl (by omega) | exact hf1 ad535 rfl (by omega)); replace p536 := eq_true p536; replace q536 := eq_true q536))
         repeat (go_quiet ((go_at_call 72; (with_reducible refine (spec_l00Max.calls x8_2 (wrap64 ((wrap64 ((wrap64 ((rd l1 x7_1) + t532)) - (rd l1 x9_2))) - t527)) t537 _ A17.out).mono ?_); rintro e w' ⟨rfl, ⟨nd, rfl⟩⟩; (try first | exact ⟨rfl, _, World.drewN_drewN _ _ _⟩ | exact ⟨rfl, _, Eq.trans (World.drewN_drewN _ _ _) (congrArg (World.drewN _) (Nat.add_assoc _ _ _))⟩))); try go_wp2_with (fail))
         go_roundg k2
         case measure => have := HK1.out; have := HK2.out; omega
         case rel => exact ⟨(t537), (wrap64 (x9_2 + 1)), (t530), (t531), (t532), (t533), (t534), (by first | rfl | (simp; done) | (simp [*]; done)), (by first | rfl | (simp; done) | (simp [*]; done)), H', ⟨by have := HK1.out; have := HK2.out; omega⟩, ⟨by (with_reducible repeat (first | apply Kd.R_alloc | apply Kd.R_drewN | apply Kd.R_drew)); exact HO_6.out⟩, ⟨by with_reducible repeat (first | exact HI0.out | apply IsS30.alloc | apply IsS30.drewN | apply IsS30.drew | apply IsS30.set_0 | apply IsS30.set_3 | apply IsS30.set_4 | apply IsS30.set_5 | apply IsS30.set_6)⟩, ⟨by with_reducible repeat (first | exact HK.out | apply KeepBut.set_ | apply keep_drewN | apply keep_drew | apply keep_alloc)⟩, ⟨by with_reducible repeat (first | exact HB.out | apply below_alloc | apply pw_below_drewN | apply below_drew1 | refine below_set ?_ (IsS30.ge HI0.out))⟩⟩
        ·replace c12 := Bool.eq_false_iff.mpr c12
         subst c12
         rw [if_neg (by decide)] at H
         have H' := Aside0.mk H
         clear H
         obtain ⟨ASz21_1, cSz21_1, ASz21_2, cSz21_2, HGz21, hgz21, HSz21_1, HSz21_2⟩ := HI0.out
         have hcz21_0 := cellS30_0 HGz21
         have hcz21_1 := cellS30_1 HGz21
         have hcz21_2 := cellS30_2 HGz21
         have hcz21_3 := cellS30_3 HGz21
         have hcz21_4 := cellS30_4 HGz21
         have hcz21_5 := cellS30_5 HGz21
         have hcz21_6 := cellS30_6 HGz21
         have hfz21_0 := blk_frozen HGz21 0
         have hfz21_3 := blk_frozen HGz21 3
         have hfz21_4 := blk_frozen HGz21 4
         have hfz21_5 := blk_frozen HGz21 5
         have hfz21_6 := blk_frozen HGz21 6
         clear HGz21 hgz21
         go_wp2_with (first | (go_at_call 57; (with_reducible refine (spec_l06Path.calls k2 g x1000_2 s0_1 s0_2 x1003_2 x1004_2 x1005_2 x1006_2 x9_2 x7_1 t527 t528 false t530 t531 t532 t533 t534 w0 _ ?side1 ?side2 A11.out).mono ?_); (case side1 => repeat (first | (with_reducible first | exact HI0.out | apply IsS30.alloc | apply IsS30.drewN | apply IsS30.drew | apply IsS30.set_0 | apply IsS30.set_3 | apply IsS30.set_4 | apply IsS30.set_5 | apply IsS30.set_6) | exact HI0.out)); (case side2 => repeat (first | (with_reducible first | exact HB.out | apply below_alloc | apply pw_below_drewN | apply below_drew1 | refine below_set ?_ (IsS30.ge HI0.out)) | exact HB.out)); rintro e w22 ⟨rfl, hi, hb, hk⟩; have n0_ := Aside0.mk (Kd.R_mono (Kd.R_keep (IsS30.apart (show IsS30 w0 _ g x1000_2 s0_1 s0_2 x1003_2 x1004_2 x1005_2 x1006_2 from by with_reducible repeat (first | exact HI0.out | apply IsS30.alloc | apply IsS30.drewN | apply IsS30.drew | apply IsS30.set_0 | apply IsS30.set_3 | apply IsS30.set_4 | apply IsS30.set_5 | apply IsS30.set_6)) (by (with_reducible repeat (first | apply Kd.R_alloc | apply Kd.R_drewN | apply Kd.R_drew)); exact HO_6.out) (by decide)) hk (fun _ h => h.2)) (fun _ h => h.1)); have n1_ := Aside0.mk (KeepBut.trans (by with_reducible repeat (first | exact HK.out | apply KeepBut.set_ | apply keep_drewN | apply keep_drew | apply keep_alloc)) hk (.inl rfl)); have n2_ := Aside0.mk (hb); have n3_ := Aside0.mk (hi); clear HO_6; clear HK; clear HB; clear HI0; have HO_6 := n0_; have HK := n1_; have HB := n2_; have HI0 := n3_; clear n0_ n1_ n2_ n3_; (try clear hb); (try clear hb2); (try clear hk); (try clear hi)))
         repeat (go_quiet ((go_at_call 57; (with_reducible refine (spec_l06Path.calls k2 g x1000_2 s0_1 s0_2 x1003_2 x1004_2 x1005_2 x1006_2 x9_2 x7_1 t527 t528 false t530 t531 t532 t533 t534 w0 _ ?side1 ?side2 A11.out).mono ?_); (case side1 => repeat (first | (with_reducible first | exact HI0.out | apply IsS30.alloc | apply IsS30.drewN | apply IsS30.drew | apply IsS30.set_0 | apply IsS30.set_3 | apply IsS30.set_4 | apply IsS30.set_5 | apply IsS30.set_6) | exact HI0.out)); (case side2 => repeat (first | (with_reducible first | exact HB.out | apply below_alloc | apply pw_below_drewN | apply below_drew1 | refine below_set ?_ (IsS30.ge HI0.out)) | exact HB.out)); rintro e w22 ⟨rfl, hi, hb, hk⟩; have n0_ := Aside0.mk (Kd.R_mono (Kd.R_keep (IsS30.apart (show IsS30 w0 _ g x1000_2 s0_1 s0_2 x1003_2 x1004_2 x1005_2 x1006_2 from by with_reducible repeat (first | exact HI0.out | apply IsS30.alloc | apply IsS30.drewN | apply IsS30.drew | apply IsS30.set_0 | apply IsS30.set_3 | apply IsS30.set_4 | apply IsS30.set_5 | apply IsS30.set_6)) (by (with_reducible repeat (first | apply Kd.R_alloc | apply Kd.R_drewN | apply Kd.R_drew)); exact HO_6.out) (by decide)) hk (fun _ h => h.2)) (fun _ h => h.1)); have n1_ := Aside0.mk (KeepBut.trans (by with_reducible repeat (first | exact HK.out | apply KeepBut.set_ | apply keep_drewN | apply keep_drew | apply keep_alloc)) hk (.inl rfl)); have n2_ := Aside0.mk (hb); have n3_ := Aside0.mk (hi); clear HO_6; clear HK; clear HB; clear HI0; have HO_6 := n0_; have HK := n1_; have HB := n2_; have HI0 := n3_; clear n0_ n1_ n2_ n3_; (try clear hb); (try clear hb2); (try clear hk); (try clear hi))); try go_wp2_with (fail))
         go_roundg k2
         case measure => have := HK1.out; have := HK2.out; omega
         case rel => exact ⟨(x8_2), (wrap64 (x9_2 + 1)), (t530), (t531), (t532), (t533), (t534), (by first | rfl | (simp; done) | (simp [*]; done)), (by first | rfl | (simp; done) | (simp [*]; done)), H', ⟨by have := HK1.out; have := HK2.out; omega⟩, ⟨by (with_reducible repeat (first | apply Kd.R_alloc | apply Kd.R_drewN | apply Kd.R_drew)); exact HO_6.out⟩, ⟨by with_reducible repeat (first | exact HI0.out | apply IsS30.alloc | apply IsS30.drewN | apply IsS30.drew | apply IsS30.set_0 | apply IsS30.set_3 | apply IsS30.set_4 | apply IsS30.set_5 | apply IsS30.set_6)⟩, ⟨by with_reducible repeat (first | exact HK.out | apply KeepBut.set_ | apply keep_drewN | apply keep_drew | apply keep_alloc)⟩, ⟨by with_reducible repeat (first | exact HB.out | apply below_alloc | apply pw_below_drewN | apply below_drew1 | refine below_set ?_ (IsS30.ge HI0.out))⟩⟩
       ·rw [if_neg c10] at H
        have c10b0 : decide (x9_2 < x1000_2) = false := decide_eq_false c10
        clear c10
        by_cases c23 : x6_1.length < 17592186044416
        case neg => rw [if_neg c23] at H; exact absurd H (by simp)
        rw [if_pos c23] at H
        have LMc23 := Aside0.mk c23
        clear c23
        obtain ⟨y524, hy524⟩ : ∃ y_ : List Int, y_ = (x6_1 ++ [x8_2]) := ⟨_, rfl⟩
        (try rw [Option.bind_some] at H); try rw [← hy524] at H
        have Ny524 := Aside0.mk hy524
        clear hy524
        have H' := Aside0.mk H
        clear H
        obtain ⟨ASz24_1, cSz24_1, ASz24_2, cSz24_2, HGz24, hgz24, HSz24_1, HSz24_2⟩ := HI0.out
        have hcz24_0 := cellS30_0 HGz24
        have hcz24_1 := cellS30_1 HGz24
        have hcz24_2 := cellS30_2 HGz24
        have hcz24_3 := cellS30_3 HGz24
        have hcz24_4 := cellS30_4 HGz24
        have hcz24_5 := cellS30_5 HGz24
        have hcz24_6 := cellS30_6 HGz24
        have hfz24_0 := blk_frozen HGz24 0
        have hfz24_3 := blk_frozen HGz24 3
        have hfz24_4 := blk_frozen HGz24 4
        have hfz24_5 := blk_frozen HGz24 5
        have hfz24_6 := blk_frozen HGz24 6
        clear HGz24 hgz24
        go_wp2_with (first | ((with_reducible refine gate_builtin (b := .append) (xs := #[.tmp 53, .tmp 55]) rfl ?_); at_builtin; refine Kd.R_append (Kd.int .i64) w.heap.size rfl (.tmp 53) (.tmp 55) 23 2 (.int .i64 0) 8 rfl Try.underlying23 info2 rfl (by decide) (by omega) u6 x6_1 x8_2 [.int .i64 x8_2] (fun _ => True) (fun _ => False) rfl rfl ?aP (fun _ hk => hk.elim) ?aF ?aO (Below.refl _ _) ?aS ?aL ?_; (case aP => exact rfl); (case aF => exact (fun _ _ => trivial)); (case aO => exact (by (with_reducible repeat (first | apply Kd.R_alloc | apply Kd.R_drewN | apply Kd.R_drew)); exact HO_6.out)); (case aS => exact (keep_size (w := w) (g := g) (row := none) (by with_reducible repeat (first | exact HK.out | apply KeepBut.set_ | apply keep_drewN | apply keep_drew | apply keep_alloc)))); (case aL => have := LMc23.out; omega); intro v525 w25 ho hb hg hat; rw [← Ny524.out] at ho; have n0_ := Aside0.mk (IsS30.grown (by with_reducible repeat (first | exact HI0.out | apply IsS30.alloc | apply IsS30.drewN | apply IsS30.drew | apply IsS30.set_0 | apply IsS30.set_3 | apply IsS30.set_4 | apply IsS30.set_5 | apply IsS30.set_6)) hg (IsS30.own_ne HI0.out HO_6.out (by decide))); have n1_ := Aside0.mk (below_weaken (by with_reducible repeat (first | exact HB.out | apply below_alloc | apply pw_below_drewN | apply below_drew1 | refine below_set ?_ (IsS30.ge HI0.out))) HL.out hb); have n2_ := Aside0.mk (KeepBut.trans (by with_reducible repeat (first | exact HK.out | apply KeepBut.set_ | apply keep_drewN | apply keep_drew | apply keep_alloc)) (KeepBut.of_grown hg g) (Kd.R_base2 HO_6.out)); have n3_ := Aside0.mk (ho); clear HI0; clear HB; clear HK; clear HO_6; have HI0 := n0_; have HB := n1_; have HK := n2_; have HO526 := n3_; clear n0_ n1_ n2_ n3_; clear ho hb hg hat))
        repeat (go_quiet (fail); try go_wp2_with (fail))
        go_roundg k2
        case measure => have := HK1.out; have := HK2.out; omega
        case rel => exact ⟨(y524), (wrap64 (x7_1 + 1)), (x1000_2), (x1003_2), (x1004_2), (x1005_2), (x1006_2), (by first | rfl | (simp; done) | (simp [*]; done)), H', ⟨by have := HK1.out; have := HK2.out; omega⟩, ⟨by (with_reducible repeat (first | apply Kd.R_alloc | apply Kd.R_drewN | apply Kd.R_drew)); exact HO526.out⟩, ⟨by with_reducible repeat (first | exact HI0.out | apply IsS30.alloc | apply IsS30.drewN | apply IsS30.drew | apply IsS30.set_0 | apply IsS30.set_3 | apply IsS30.set_4 | apply IsS30.set_5 | apply IsS30.set_6)⟩, ⟨by with_reducible repeat (first | exact HK.out | apply KeepBut.set_ | apply keep_drewN | apply keep_drew | apply keep_alloc)⟩, ⟨by with_reducible repeat (first | exact HB.out | apply below_alloc | apply pw_below_drewN | apply below_drew1 | refine below_set ?_ (IsS30.ge HI0.out))⟩⟩
    ·rw [if_neg c8] at H
     have c8b0 : decide (x7_1 < x1000_1) = false := decide_eq_false c8
     clear c8
     simp only [Option.some.injEq, Prod.mk.injEq] at H
     obtain ⟨rfl, rfl, rfl, rfl, rfl, rfl, rfl⟩ := H
     obtain ⟨ASz26_1, cSz26_1, ASz26_2, cSz26_2, HGz26, hgz26, HSz26_1, HSz26_2⟩ := HI0.out
     have hcz26_0 := cellS30_0 HGz26
     have hcz26_1 := cellS30_1 HGz26
     have hcz26_2 := cellS30_2 HGz26
     have hcz26_3 := cellS30_3 HGz26
     have hcz26_4 := cellS30_4 HGz26
     have hcz26_5 := cellS30_5 HGz26
     have hcz26_6 := cellS30_6 HGz26
     have hfz26_0 := blk_frozen HGz26 0
     have hfz26_3 := blk_frozen HGz26 3
     have hfz26_4 := blk_frozen HGz26 4
     have hfz26_5 := blk_frozen HGz26 5
     have hfz26_6 := blk_frozen HGz26 6
     clear HGz26 hgz26
     go_wp2
     repeat (go_quiet (fail); try go_wp2)
     go_ret2
     exact ⟨_, by first | rfl | (simp [errW_none, errW_some] <;> rfl) | (simp [*, errW_none, errW_some] <;> rfl), by (with_reducible repeat (first | apply Kd.R_alloc | apply Kd.R_drewN | apply Kd.R_drew)); exact HO_6.out, by with_reducible repeat (first | exact HI0.out | apply IsS30.alloc | apply IsS30.drewN | apply IsS30.drew | apply IsS30.set_0 | apply IsS30.set_3 | apply IsS30.set_4 | apply IsS30.set_5 | apply IsS30.set_6), by with_reducible repeat (first | exact HB.out | apply below_alloc | apply pw_below_drewN | apply below_drew1 | refine below_set ?_ (IsS30.ge HI0.out)), by with_reducible repeat (first | exact HK.out | apply KeepBut.set_ | apply keep_drewN | apply keep_drew | apply keep_alloc)⟩
 ·replace c4 := Bool.eq_false_iff.mpr c4
  subst c4
  rw [if_neg (by decide)] at H
  simp only [Option.some.injEq, Prod.mk.injEq] at H
  obtain ⟨rfl, rfl, rfl, rfl, rfl, rfl, rfl⟩ := H
  go_enter Try.func36, Try.ntmps36
  go_wp2_with (first | ((with_reducible refine gate_dst (N := 2) rfl ?_); refine box_here (g := g) (w1 := w) (t := 30) ?hg (N := 2) ?hd HG_.out HW_.out ?hr ?_; (case hd => rfl); (case hg => rfl); (case hr => first | (go_simp; done) | (go_simp; rfl))) | (go_at_call 65; (with_reducible refine (spec_l06Skews.calls k g s0_0 s0_1 s0_2 s0_3 s0_4 s0_5 s0_6 _ _ l1 false t516 t517 t518 t519 t520 w0 _ ?side1 ?side2 ?side3 ?side4 ?side5 A3.out).mono ?_); (case side1 => repeat (first | (with_reducible first | exact HI0.out | apply IsS30.alloc | apply IsS30.drewN | apply IsS30.drew | apply IsS30.set_0 | apply IsS30.set_3 | apply IsS30.set_4 | apply IsS30.set_5 | apply IsS30.set_6) | exact HI0.out)); (case side2 => repeat (first | (with_reducible first | exact HB.out | apply below_alloc | apply pw_below_drewN | apply below_drew1 | refine below_set ?_ (IsS30.ge HI0.out)) | exact HB.out)); (case side3 => exact Kd.C_keep 0 HR1.out (by with_reducible repeat (first | exact HK.out | apply KeepBut.set_ | apply keep_drewN | apply keep_drew | apply keep_alloc)) hf1); (case side4 => exact HC1.out); (case side5 => exact hf1); rintro e w27 ⟨rfl, hi, hb, hk⟩; have n0_ := Aside0.mk (KeepBut.trans (by with_reducible repeat (first | exact HK.out | apply KeepBut.set_ | apply keep_drewN | apply keep_drew | apply keep_alloc)) hk (.inl rfl)); have n1_ := Aside0.mk (hb); have n2_ := Aside0.mk (hi); clear HK; clear HB; clear HI0; have HK := n0_; have HB := n1_; have HI0 := n2_; clear n0_ n1_ n2_; (try clear hb); (try clear hb2); (try clear hk); (try clear hi)))
  repeat (go_quiet ((go_at_call 65; (with_reducible refine (spec_l06Skews.calls k g s0_0 s0_1 s0_2 s0_3 s0_4 s0_5 s0_6 _ _ l1 false t516 t517 t518 t519 t520 w0 _ ?side1 ?side2 ?side3 ?side4 ?side5 A3.out).mono ?_); (case side1 => repeat (first | (with_reducible first | exact HI0.out | apply IsS30.alloc | apply IsS30.drewN | apply IsS30.drew | apply IsS30.set_0 | apply IsS30.set_3 | apply IsS30.set_4 | apply IsS30.set_5 | apply IsS30.set_6) | exact HI0.out)); (case side2 => repeat (first | (with_reducible first | exact HB.out | apply below_alloc | apply pw_below_drewN | apply below_drew1 | refine below_set ?_ (IsS30.ge HI0.out)) | exact HB.out)); (case side3 => exact Kd.C_keep 0 HR1.out (by with_reducible repeat (first | exact HK.out | apply KeepBut.set_ | apply keep_drewN | apply keep_drew | apply keep_alloc)) hf1); (case side4 => exact HC1.out); (case side5 => exact hf1); rintro e w27 ⟨rfl, hi, hb, hk⟩; have n0_ := Aside0.mk (KeepBut.trans (by with_reducible repeat (first | exact HK.out | apply KeepBut.set_ | apply keep_drewN | apply keep_drew | apply keep_alloc)) hk (.inl rfl)); have n1_ := Aside0.mk (hb); have n2_ := Aside0.mk (hi); clear HK; clear HB; clear HI0; have HK := n0_; have HB := n1_; have HI0 := n2_; clear n0_ n1_ n2_; (try clear hb); (try clear hb2); (try clear hk); (try clear hi))); try go_wp2_with (fail))
  go_ret2
  exact ⟨_, by first | rfl | (simp [errW_none, errW_some] <;> rfl) | (simp [*, errW_none, errW_some] <;> rfl), by first | exact Kd.R_nil _ _ _ _ _ | exact Kd.N_nil _ _ _ _ _ | exact Kd.V_nil _ _ _ _ _ | exact Kd.Q_nil _ _ _ _ _ | exact Kd.S_nil _ _ _ _ _, by with_reducible repeat (first | exact HI0.out | apply IsS30.alloc | apply IsS30.drewN | apply IsS30.drew | apply IsS30.set_0 | apply IsS30.set_3 | apply IsS30.set_4 | apply IsS30.set_5 | apply IsS30.set_6), by with_reducible repeat (first | exact HB.out | apply below_alloc | apply pw_below_drewN | apply below_drew1 | refine below_set ?_ (IsS30.ge HI0.out)), by with_reducible repeat (first | exact HK.out | apply KeepBut.set_ | apply keep_drewN | apply keep_drew | apply keep_alloc)⟩
def spec_PadsOf.f (k : Nat) (s0_0 : Int) (s0_1 : List (S62)) (s0_2 : List Int) (s0_3 : Int) (s0_4 : Int) (s0_5 : Int) (s0_6 : Int) (l1 : List Int) : Option (List Int × Bool) := (spec_PadsOf.fB k s0_0 s0_1 s0_2 s0_3 s0_4 s0_5 s0_6 l1).bind fun b => some (b.1, b.2.1)
theorem spec_PadsOf.mono : ∀ a0 a1 a2 a3 a4 a5 a6 a7 k, LeO (spec_PadsOf.f k a0 a1 a2 a3 a4 a5 a6 a7) (spec_PadsOf.f (k + 1) a0 a1 a2 a3 a4 a5 a6 a7) := by
 intro a0 a1 a2 a3 a4 a5 a6 a7 k
 unfold spec_PadsOf.f
 exact LeO.bind (spec_PadsOf.monoB a0 a1 a2 a3 a4 a5 a6 a7 k) (fun _ => LeO.refl _)
theorem spec_PadsOf.calls (k : Nat) (s0_0 : Int) (A0_1 : Option Addr) (c0_1 : Nat) (s0_1 : List (S62)) (A0_2 : Option Addr) (c0_2 : Nat) (s0_2 : List Int) (s0_3 : Int) (s0_4 : Int) (s0_5 : Int) (s0_6 : Int) (A1 : Option Addr) (c1 : Nat) (l1 : List Int) (r1 : List Int) (r2 : Bool) (w : World) (hr0_1 : Kd.C k62 w A0_1 s0_1.length s0_1) (hc0_1 : s0_1.length ≤ c0_1) (hr0_2 : Kd.C (Kd.int .i64) w A0_2 s0_2.length s0_2) (hc0_2 : s0_2.length ≤ c0_2) (hr1 : Kd.C (Kd.int .i64) w A1 l1.length l1) (hc1 : l1.length ≤ c1) (h : spec_PadsOf.f k s0_0 s0_1 s0_2 s0_3 s0_4 s0_5 s0_6 l1 = some (r1, r2)) :
  Calls Try.prog 36 #[.agg #[.int .i64 s0_0, .slice A0_1 s0_1.length c0_1, .slice A0_2 s0_2.length c0_2, .int .i64 s0_3, .int .i64 s0_4, .int .i64 s0_5, .int .i64 s0_6], .slice A1 l1.length c1] w fun e w' => ∃ v0_ : Value, e = .returned (.tuple #[v0_, .bool r2]) ∧ Kd.R (Kd.int .i64) 2 w' w.heap.size (fun _ => True) v0_ r1 ∧ Below w.heap.size w w' := by
 have hB_ : Below w.heap.size w (w.alloc (.cells #[.int .i64 s0_0, .slice A0_1 s0_1.length c0_1, .slice A0_2 s0_2.length c0_2, .int .i64 s0_3, .int .i64 s0_4, .int .i64 s0_5, .int .i64 s0_6] 30)) := below_alloc (Below.refl _ _) _
 have hI_ := IsS30.new w w A0_1 c0_1 A0_2 c0_2 s0_0 s0_1 s0_2 s0_3 s0_4 s0_5 s0_6 (Below.refl _ _) hr0_1 hr0_2
 obtain ⟨b_, h0_, h1_⟩ := Option.bind_eq_some_iff.mp h
 obtain ⟨b0_, b1_, b2_, b3_, b4_, b5_, b6_⟩ := b_
 simp only [Option.some.injEq, Prod.mk.injEq] at h1_
 obtain ⟨rfl, rfl⟩ := h1_
 refine (spec_PadsOf.callsB k A0_1 c0_1 A0_2 c0_2 w.heap.size s0_0 s0_1 s0_2 s0_3 s0_4 s0_5 s0_6 A1 c1 l1 _ _ _ _ _ _ _ w (w.alloc (.cells #[.int .i64 s0_0, .slice A0_1 s0_1.length c0_1, .slice A0_2 s0_2.length c0_2, .int .i64 s0_3, .int .i64 s0_4, .int .i64 s0_5, .int .i64 s0_6] 30)) hI_ hB_ (Kd.C_below hr1 hB_) hc1 (Kd.far_C 0 hr1 (Nat.le_refl _)) rfl rfl h0_).mono ?_
 rintro e w' ⟨v0_, he_, ho0_, _, hb_, _⟩
 exact ⟨v0_, he_, Kd.R_lower ho0_ hB_.size, hb_⟩

end Go.Proofs.Ytalafmahgeejiaa.Pa
