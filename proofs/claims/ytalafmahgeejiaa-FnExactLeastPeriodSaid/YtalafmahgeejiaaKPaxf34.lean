-- Written for this claim by a program of this session.
import Derived.Test.YtalafmahgeejiaaPax0
import Derived.Test.YtalafmahgeejiaaCore1
import Derived.Test.YtalafmahgeejiaaKPaxf65
import Derived.Test.YtalafmahgeejiaaKPaxf66
import Derived.Test.YtalafmahgeejiaaKPaxf69
namespace Go.Proofs.Ytalafmahgeejiaa.Pa
open Go.RowKit Go.Proofs.YtalafmahgeejiaaW.PrintWords Go.Proofs.YtalafmahgeejiaaW.PrintLast Go.Proofs.YtalafmahgeejiaaW.PrintMore
attribute [local go_sem] max2_int min2_int max_two min_two max_three min_three max_four min_four   -- for this text's walks alone
set_option linter.unusedVariables false
set_option linter.unusedSimpArgs false

/-! ### spec_LeastPeriod: function 34 -/
def spec_LeastPeriod.fB (k : Nat) (s0_0 : Int) (s0_1 : List (S62)) (s0_2 : List Int) (s0_3 : Int) (s0_4 : Int) (s0_5 : Int) (s0_6 : Int) (l1 : List Int) : Option (Int × Bool × Int × Int × Int × Int × Int) := (spec_l06Skews.f k s0_0 s0_1 s0_2 s0_3 s0_4 s0_5 s0_6 l1).bind fun bt496 => (if bt496.1 = true then ((spec_l06Rooms.f k bt496.2.1 s0_1 s0_2 bt496.2.2.1 bt496.2.2.2.1 bt496.2.2.2.2.1 bt496.2.2.2.2.2 0 l1).bind fun bt502 => ((spec_l00Max.f 1 (wrap64 (-bt502.1))).bind fun t509 => ((spec_l06Period.f t509).bind fun t510 => (if t510 = true then (some (t509, true, bt502.2.2.1, bt502.2.2.2.1, bt502.2.2.2.2.1, bt502.2.2.2.2.2.1, bt502.2.2.2.2.2.2)) else (some (0, false, bt502.2.2.1, bt502.2.2.2.1, bt502.2.2.2.2.1, bt502.2.2.2.2.2.1, bt502.2.2.2.2.2.2)))))) else (some (0, false, bt496.2.1, bt496.2.2.1, bt496.2.2.2.1, bt496.2.2.2.2.1, bt496.2.2.2.2.2)))
theorem spec_LeastPeriod.monoB : ∀ a0 a1 a2 a3 a4 a5 a6 a7 k, LeO (spec_LeastPeriod.fB k a0 a1 a2 a3 a4 a5 a6 a7) (spec_LeastPeriod.fB (k + 1) a0 a1 a2 a3 a4 a5 a6 a7) := by
 intro a0 a1 a2 a3 a4 a5 a6 a7 k
 unfold spec_LeastPeriod.fB
 repeat' first
   | (with_reducible exact spec_l06Rooms.mono _ _ _ _ _ _ _ _ _ _)
   | (with_reducible exact spec_l06Skews.mono _ _ _ _ _ _ _ _ _)
   | (with_reducible exact LeO.refl _)
   | (with_reducible exact LeO.none _)
   | (with_reducible refine LeO.ite ?_ ?_)
   | (with_reducible refine LeO.bind ?_ (fun _ => ?_))
   | exact spec_l06Rooms.mono _ _ _ _ _ _ _ _ _ _
   | exact spec_l06Skews.mono _ _ _ _ _ _ _ _ _
   | exact LeO.none _
   | refine LeO.ite ?_ ?_
   | refine LeO.bind ?_ (fun _ => ?_)
set_option maxHeartbeats 8000000 in
set_option maxRecDepth 100000 in
theorem spec_LeastPeriod.callsB (k : Nat) (A0_1 : Option Addr) (c0_1 : Nat) (A0_2 : Option Addr) (c0_2 : Nat) (g : Nat) (s0_0 : Int) (s0_1 : List (S62)) (s0_2 : List Int) (s0_3 : Int) (s0_4 : Int) (s0_5 : Int) (s0_6 : Int) (A1 : Option Addr) (c1 : Nat) (l1 : List Int) (r1 : Int) (r2 : Bool) (r3 : Int) (r4 : Int) (r5 : Int) (r6 : Int) (r7 : Int) (w0 w : World) (hI : IsS30 w0 w g s0_0 s0_1 s0_2 s0_3 s0_4 s0_5 s0_6) (hB : Below w0.heap.size w0 w) (hr1 : Kd.C (Kd.int .i64) w A1 l1.length l1) (hc1 : l1.length ≤ c1) (hf1 : ∀ ad, A1 = some ad → 0 < l1.length → ad.block ≠ g) (hg_ : g = w0.heap.size) (hw_ : w = w0.alloc (.cells #[.int .i64 s0_0, .slice A0_1 s0_1.length c0_1, .slice A0_2 s0_2.length c0_2, .int .i64 s0_3, .int .i64 s0_4, .int .i64 s0_5, .int .i64 s0_6] 30)) (h : spec_LeastPeriod.fB k s0_0 s0_1 s0_2 s0_3 s0_4 s0_5 s0_6 l1 = some (r1, r2, r3, r4, r5, r6, r7)) :
  Calls Try.prog 34 #[.agg #[.int .i64 s0_0, .slice A0_1 s0_1.length c0_1, .slice A0_2 s0_2.length c0_2, .int .i64 s0_3, .int .i64 s0_4, .int .i64 s0_5, .int .i64 s0_6], .slice A1 l1.length c1] w0 fun e w' => e = .returned (.tuple #[.int .i64 r1, .bool r2]) ∧ IsS30 w0 w' g r3 s0_1 s0_2 r4 r5 r6 r7 ∧ Below w0.heap.size w0 w' ∧ KeepBut w w' g none := by
 have hu30_ := Try.underlying30
 have HG_ := Aside0.mk hg_
 have HW_ := Aside0.mk hw_
 clear hg_ hw_
 have HR1 := Aside0.mk hr1
 have HC1 := Aside0.mk hc1
 clear hr1 hc1
 have HI0 := Aside0.mk hI
 have HK := Aside0.mk (KeepBut.refl w g none)
 have HL := Aside0.mk hB.size
 clear hI
 have HW0 := Aside0.mk hB.size
 have HB := Aside0.mk hB
 clear hB
 have H : ((spec_l06Skews.f k s0_0 s0_1 s0_2 s0_3 s0_4 s0_5 s0_6 l1).bind fun bt496 => (if bt496.1 = true then ((spec_l06Rooms.f k bt496.2.1 s0_1 s0_2 bt496.2.2.1 bt496.2.2.2.1 bt496.2.2.2.2.1 bt496.2.2.2.2.2 0 l1).bind fun bt502 => ((spec_l00Max.f 1 (wrap64 (-bt502.1))).bind fun t509 => ((spec_l06Period.f t509).bind fun t510 => (if t510 = true then (some (t509, true, bt502.2.2.1, bt502.2.2.2.1, bt502.2.2.2.2.1, bt502.2.2.2.2.2.1, bt502.2.2.2.2.2.2)) else (some (0, false, bt502.2.2.1, bt502.2.2.2.1, bt502.2.2.2.2.1, bt502.2.2.2.2.2.1, bt502.2.2.2.2.2.2)))))) else (some (0, false, bt496.2.1, bt496.2.2.1, bt496.2.2.2.1, bt496.2.2.2.2.1, bt496.2.2.2.2.2)))) = some (r1, r2, r3, r4, r5, r6, r7) := h
 clear h
 replace H := Option.bind_eq_some_iff.mp H
 obtain ⟨⟨t496, t497, t498, t499, t500, t501⟩, A30, H⟩ := H
 try dsimp only at H
 have A3 := Aside0.mk A30
 clear A30
 by_cases c4 : t496 = true
 ·subst c4
  rw [if_pos rfl] at H
  replace H := Option.bind_eq_some_iff.mp H
  obtain ⟨⟨t502, t503, t504, t505, t506, t507, t508⟩, A50, H⟩ := H
  try dsimp only at H
  have A5 := Aside0.mk A50
  clear A50
  replace H := Option.bind_eq_some_iff.mp H
  obtain ⟨t509, A60, H⟩ := H
  try dsimp only at H
  have A6 := Aside0.mk A60
  clear A60
  replace H := Option.bind_eq_some_iff.mp H
  obtain ⟨t510, A70, H⟩ := H
  try dsimp only at H
  have A7 := Aside0.mk A70
  clear A70
  by_cases c8 : t510 = true
  ·subst c8
   rw [if_pos rfl] at H
   simp only [Option.some.injEq, Prod.mk.injEq] at H
   obtain ⟨rfl, rfl, rfl, rfl, rfl, rfl, rfl⟩ := H
   go_enter Try.func34, Try.ntmps34
   go_wp2_with (first | ((with_reducible refine gate_dst (N := 2) rfl ?_); refine box_here (g := g) (w1 := w) (t := 30) ?hg (N := 2) ?hd HG_.out HW_.out ?hr ?_; (case hd => rfl); (case hg => rfl); (case hr => first | (go_simp; done) | (go_simp; rfl))) | ((with_reducible refine gate_callee (f := 65) rfl ?_); refine goesL_ (some 10) rfl rfl Try.func65 (by kernel_rfl) rfl #[.pointer (some ⟨g, 0, none⟩), .slice A1 l1.length c1] rfl (by (try simp only [List.map_toArray, List.map_cons, List.map_nil]); first | done | rfl | (simp only [List.length_drop, List.length_take]; rfl)) ?_; (with_reducible refine (spec_l06Skews.calls k g s0_0 s0_1 s0_2 s0_3 s0_4 s0_5 s0_6 _ _ l1 true t497 t498 t499 t500 t501 w0 _ ?side1 ?side2 ?side3 ?side4 ?side5 A3.out).mono ?_); (case side1 => repeat (first | (with_reducible first | exact HI0.out | apply IsS30.alloc | apply IsS30.drewN | apply IsS30.drew | apply IsS30.set_0 | apply IsS30.set_3 | apply IsS30.set_4 | apply IsS30.set_5 | apply IsS30.set_6) | exact HI0.out)); (case side2 => repeat (first | (with_reducible first | exact HB.out | apply below_alloc | apply pw_below_drewN | apply below_drew1 | refine below_set ?_ (IsS30.ge HI0.out)) | exact HB.out)); (case side3 => exact Kd.C_keep 0 HR1.out (by with_reducible repeat (first | exact HK.out | apply KeepBut.set_ | apply keep_drewN | apply keep_drew | apply keep_alloc)) hf1); (case side4 => exact HC1.out); (case side5 => exact hf1); rintro e w9 ⟨rfl, hi, hb, hk⟩; refine ⟨_, rfl, ?_⟩; have n0_ := Aside0.mk (KeepBut.trans (by with_reducible repeat (first | exact HK.out | apply KeepBut.set_ | apply keep_drewN | apply keep_drew | apply keep_alloc)) hk (.inl rfl)); have n1_ := Aside0.mk (hb); have n2_ := Aside0.mk (hi); clear HK; clear HB; clear HI0; have HK := n0_; have HB := n1_; have HI0 := n2_; clear n0_ n1_ n2_; (try clear hb); (try clear hb2); (try clear hk); (try clear hi)) | ((with_reducible refine gate_callee (f := 66) rfl ?_); refine goesL_ (some 14) rfl rfl Try.func66 (by kernel_rfl) rfl #[.pointer (some ⟨g, 0, none⟩), .int .i64 0, .slice A1 l1.length c1] rfl (by (try simp only [List.map_toArray, List.map_cons, List.map_nil]); first | done | rfl | (simp only [List.length_drop, List.length_take]; rfl)) ?_; (with_reducible refine (spec_l06Rooms.calls k g t497 s0_1 s0_2 t498 t499 t500 t501 0 _ _ l1 t502 t503 t504 t505 t506 t507 t508 w0 _ ?side1 ?side2 ?side3 ?side4 ?side5 A5.out).mono ?_); (case side1 => repeat (first | (with_reducible first | exact HI0.out | apply IsS30.alloc | apply IsS30.drewN | apply IsS30.drew | apply IsS30.set_0 | apply IsS30.set_3 | apply IsS30.set_4 | apply IsS30.set_5 | apply IsS30.set_6) | exact HI0.out)); (case side2 => repeat (first | (with_reducible first | exact HB.out | apply below_alloc | apply pw_below_drewN | apply below_drew1 | refine below_set ?_ (IsS30.ge HI0.out)) | exact HB.out)); (case side3 => exact Kd.C_keep 0 HR1.out (by with_reducible repeat (first | exact HK.out | apply KeepBut.set_ | apply keep_drewN | apply keep_drew | apply keep_alloc)) hf1); (case side4 => exact HC1.out); (case side5 => exact hf1); rintro e w10 ⟨rfl, hi, hb, hk⟩; refine ⟨_, rfl, ?_⟩; have n0_ := Aside0.mk (KeepBut.trans (by with_reducible repeat (first | exact HK.out | apply KeepBut.set_ | apply keep_drewN | apply keep_drew | apply keep_alloc)) hk (.inl rfl)); have n1_ := Aside0.mk (hb); have n2_ := Aside0.mk (hi); clear HK; clear HB; clear HI0; have HK := n0_; have HB := n1_; have HI0 := n2_; clear n0_ n1_ n2_; (try clear hb); (try clear hb2); (try clear hk); (try clear hi)) | ((with_reducible refine gate_callee (f := 72) rfl ?_); refine goesL_ (some 19) rfl rfl Try.func72 (by kernel_rfl) rfl #[.int .i64 1, .int .i64 (wrap64 (-t502))] rfl (by (try simp only [List.map_toArray, List.map_cons, List.map_nil]); first | done | rfl | (simp only [List.length_drop, List.length_take]; rfl)) ?_; (with_reducible refine (spec_l00Max.calls 1 (wrap64 (-t502)) t509 _ A6.out).mono ?_); rintro e w' ⟨rfl, ⟨nd, rfl⟩⟩; refine ⟨_, rfl, ?_⟩) | ((with_reducible refine gate_callee (f := 69) rfl ?_); refine goesL_ (some 21) rfl rfl Try.func69 (by kernel_rfl) rfl #[.int .i64 t509] rfl (by (try simp only [List.map_toArray, List.map_cons, List.map_nil]); first | done | rfl | (simp only [List.length_drop, List.length_take]; rfl)) ?_; (with_reducible refine (spec_l06Period.calls t509 true _ A7.out).mono ?_); rintro e w' ⟨rfl, ⟨nd, rfl⟩⟩; refine ⟨_, rfl, ?_⟩))
   go_ret2
   exact ⟨by first | rfl | (simp [errW_none, errW_some] <;> rfl) | (simp [*, errW_none, errW_some] <;> rfl), by with_reducible repeat (first | exact HI0.out | apply IsS30.alloc | apply IsS30.drewN | apply IsS30.drew | apply IsS30.set_0 | apply IsS30.set_3 | apply IsS30.set_4 | apply IsS30.set_5 | apply IsS30.set_6), by with_reducible repeat (first | exact HB.out | apply below_alloc | apply pw_below_drewN | apply below_drew1 | refine below_set ?_ (IsS30.ge HI0.out)), by with_reducible repeat (first | exact HK.out | apply KeepBut.set_ | apply keep_drewN | apply keep_drew | apply keep_alloc)⟩
  ·replace c8 := Bool.eq_false_iff.mpr c8
   subst c8
   rw [if_neg (by decide)] at H
   simp only [Option.some.injEq, Prod.mk.injEq] at H
   obtain ⟨rfl, rfl, rfl, rfl, rfl, rfl, rfl⟩ := H
   go_enter Try.func34, Try.ntmps34
   go_wp2_with (first | ((with_reducible refine gate_dst (N := 2) rfl ?_); refine box_here (g := g) (w1 := w) (t := 30) ?hg (N := 2) ?hd HG_.out HW_.out ?hr ?_; (case hd => rfl); (case hg => rfl); (case hr => first | (go_simp; done) | (go_simp; rfl))) | ((with_reducible refine gate_callee (f := 65) rfl ?_); refine goesL_ (some 10) rfl rfl Try.func65 (by kernel_rfl) rfl #[.pointer (some ⟨g, 0, none⟩), .slice A1 l1.length c1] rfl (by (try simp only [List.map_toArray, List.map_cons, List.map_nil]); first | done | rfl | (simp only [List.length_drop, List.length_take]; rfl)) ?_; (with_reducible refine (spec_l06Skews.calls k g s0_0 s0_1 s0_2 s0_3 s0_4 s0_5 s0_6 _ _ l1 true t497 t498 t499 t500 t501 w0 _ ?side1 ?side2 ?side3 ?side4 ?side5 A3.out).mono ?_); (case side1 => repeat (first | (with_reducible first | exact HI0.out | apply IsS30.alloc | apply IsS30.drewN | apply IsS30.drew | apply IsS30.set_0 | apply IsS30.set_3 | apply IsS30.set_4 | apply IsS30.set_5 | apply IsS30.set_6) | exact HI0.out)); (case side2 => repeat (first | (with_reducible first | exact HB.out | apply below_alloc | apply pw_below_drewN | apply below_drew1 | refine below_set ?_ (IsS30.ge HI0.out)) | exact HB.out)); (case side3 => exact Kd.C_keep 0 HR1.out (by with_reducible repeat (first | exact HK.out | apply KeepBut.set_ | apply keep_drewN | apply keep_drew | apply keep_alloc)) hf1); (case side4 => exact HC1.out); (case side5 => exact hf1); rintro e w11 ⟨rfl, hi, hb, hk⟩; refine ⟨_, rfl, ?_⟩; have n0_ := Aside0.mk (KeepBut.trans (by with_reducible repeat (first | exact HK.out | apply KeepBut.set_ | apply keep_drewN | apply keep_drew | apply keep_alloc)) hk (.inl rfl)); have n1_ := Aside0.mk (hb); have n2_ := Aside0.mk (hi); clear HK; clear HB; clear HI0; have HK := n0_; have HB := n1_; have HI0 := n2_; clear n0_ n1_ n2_; (try clear hb); (try clear hb2); (try clear hk); (try clear hi)) | ((with_reducible refine gate_callee (f := 66) rfl ?_); refine goesL_ (some 14) rfl rfl Try.func66 (by kernel_rfl) rfl #[.pointer (some ⟨g, 0, none⟩), .int .i64 0, .slice A1 l1.length c1] rfl (by (try simp only [List.map_toArray, List.map_cons, List.map_nil]); first | done | rfl | (simp only [List.length_drop, List.length_take]; rfl)) ?_; (with_reducible refine (spec_l06Rooms.calls k g t497 s0_1 s0_2 t498 t499 t500 t501 0 _ _ l1 t502 t503 t504 t505 t506 t507 t508 w0 _ ?side1 ?side2 ?side3 ?side4 ?side5 A5.out).mono ?_); (case side1 => repeat (first | (with_reducible first | exact HI0.out | apply IsS30.alloc | apply IsS30.drewN | apply IsS30.drew | apply IsS30.set_0 | apply IsS30.set_3 | apply IsS30.set_4 | apply IsS30.set_5 | apply IsS30.set_6) | exact HI0.out)); (case side2 => repeat (first | (with_reducible first | exact HB.out | apply below_alloc | apply pw_below_drewN | apply below_drew1 | refine below_set ?_ (IsS30.ge HI0.out)) | exact HB.out)); (case side3 => exact Kd.C_keep 0 HR1.out (by with_reducible repeat (first | exact HK.out | apply KeepBut.set_ | apply keep_drewN | apply keep_drew | apply keep_alloc)) hf1); (case side4 => exact HC1.out); (case side5 => exact hf1); rintro e w12 ⟨rfl, hi, hb, hk⟩; refine ⟨_, rfl, ?_⟩; have n0_ := Aside0.mk (KeepBut.trans (by with_reducible repeat (first | exact HK.out | apply KeepBut.set_ | apply keep_drewN | apply keep_drew | apply keep_alloc)) hk (.inl rfl)); have n1_ := Aside0.mk (hb); have n2_ := Aside0.mk (hi); clear HK; clear HB; clear HI0; have HK := n0_; have HB := n1_; have HI0 := n2_; clear n0_ n1_ n2_; (try clear hb); (try clear hb2); (try clear hk); (try clear hi)) | ((with_reducible refine gate_callee (f := 72) rfl ?_); refine goesL_ (some 19) rfl rfl Try.func72 (by kernel_rfl) rfl #[.int .i64 1, .int .i64 (wrap64 (-t502))] rfl (by (try simp only [List.map_toArray, List.map_cons, List.map_nil]); first | done | rfl | (simp only [List.length_drop, List.length_take]; rfl)) ?_; (with_reducible refine (spec_l00Max.calls 1 (wrap64 (-t502)) t509 _ A6.out).mono ?_); rintro e w' ⟨rfl, ⟨nd, rfl⟩⟩; refine ⟨_, rfl, ?_⟩) | ((with_reducible refine gate_callee (f := 69) rfl ?_); refine goesL_ (some 21) rfl rfl Try.func69 (by kernel_rfl) rfl #[.int .i64 t509] rfl (by (try simp only [List.map_toArray, List.map_cons, List.map_nil]); first | done | rfl | (simp only [List.length_drop, List.length_take]; rfl)) ?_; (with_reducible refine (spec_l06Period.calls t509 false _ A7.out).mono ?_); rintro e w' ⟨rfl, ⟨nd, rfl⟩⟩; refine ⟨_, rfl, ?_⟩))
   go_ret2
   exact ⟨by first | rfl | (simp [errW_none, errW_some] <;> rfl) | (simp [*, errW_none, errW_some] <;> rfl), by with_reducible repeat (first | exact HI0.out | apply IsS30.alloc | apply IsS30.drewN | apply IsS30.drew | apply IsS30.set_0 | apply IsS30.set_3 | apply IsS30.set_4 | apply IsS30.set_5 | apply IsS30.set_6), by with_reducible repeat (first | exact HB.out | apply below_alloc | apply pw_below_drewN | apply below_drew1 | refine below_set ?_ (IsS30.ge HI0.out)), by with_reducible repeat (first | exact HK.out | apply KeepBut.set_ | apply keep_drewN | apply keep_drew | apply keep_alloc)⟩
 ·replace c4 := Bool.eq_false_iff.mpr c4
  subst c4
  rw [if_neg (by decide)] at H
  simp only [Option.some.injEq, Prod.mk.injEq] at H
  obtain ⟨rfl, rfl, rfl, rfl, rfl, rfl, rfl⟩ := H
  go_enter Try.func34, Try.ntmps34
  go_wp2_with (first | ((with_reducible refine gate_dst (N := 2) rfl ?_); refine box_here (g := g) (w1 := w) (t := 30) ?hg (N := 2) ?hd HG_.out HW_.out ?hr ?_; (case hd => rfl); (case hg => rfl); (case hr => first | (go_simp; done) | (go_simp; rfl))) | ((with_reducible refine gate_callee (f := 65) rfl ?_); refine goesL_ (some 10) rfl rfl Try.func65 (by kernel_rfl) rfl #[.pointer (some ⟨g, 0, none⟩), .slice A1 l1.length c1] rfl (by (try simp only [List.map_toArray, List.map_cons, List.map_nil]); first | done | rfl | (simp only [List.length_drop, List.length_take]; rfl)) ?_; (with_reducible refine (spec_l06Skews.calls k g s0_0 s0_1 s0_2 s0_3 s0_4 s0_5 s0_6 _ _ l1 false t497 t498 t499 t500 t501 w0 _ ?side1 ?side2 ?side3 ?side4 ?side5 A3.out).mono ?_); (case side1 => repeat (first | (with_reducible first | exact HI0.out | apply IsS30.alloc | apply IsS30.drewN | apply IsS30.drew | apply IsS30.set_0 | apply IsS30.set_3 | apply IsS30.set_4 | apply IsS30.set_5 | apply IsS30.set_6) | exact HI0.out)); (case side2 => repeat (first | (with_reducible first | exact HB.out | apply below_alloc | apply pw_below_drewN | apply below_drew1 | refine below_set ?_ (IsS30.ge HI0.out)) | exact HB.out)); (case side3 => exact Kd.C_keep 0 HR1.out (by with_reducible repeat (first | exact HK.out | apply KeepBut.set_ | apply keep_drewN | apply keep_drew | apply keep_alloc)) hf1); (case side4 => exact HC1.out); (case side5 => exact hf1); rintro e w13 ⟨rfl, hi, hb, hk⟩; refine ⟨_, rfl, ?_⟩; have n0_ := Aside0.mk (KeepBut.trans (by with_reducible repeat (first | exact HK.out | apply KeepBut.set_ | apply keep_drewN | apply keep_drew | apply keep_alloc)) hk (.inl rfl)); have n1_ := Aside0.mk (hb); have n2_ := Aside0.mk (hi); clear HK; clear HB; clear HI0; have HK := n0_; have HB := n1_; have HI0 := n2_; clear n0_ n1_ n2_; (try clear hb); (try clear hb2); (try clear hk); (try clear hi)))
  go_ret2
  exact ⟨by first | rfl | (simp [errW_none, errW_some] <;> rfl) | (simp [*, errW_none, errW_some] <;> rfl), by with_reducible repeat (first | exact HI0.out | apply IsS30.alloc | apply IsS30.drewN | apply IsS30.drew | apply IsS30.set_0 | apply IsS30.set_3 | apply IsS30.set_4 | apply IsS30.set_5 | apply IsS30.set_6), by with_reducible repeat (first | exact HB.out | apply below_alloc | apply pw_below_drewN | apply below_drew1 | refine below_set ?_ (IsS30.ge HI0.out)), by with_reducible repeat (first | exact HK.out | apply KeepBut.set_ | apply keep_drewN | apply keep_drew | apply keep_alloc)⟩
def spec_LeastPeriod.f (k : Nat) (s0_0 : Int) (s0_1 : List (S62)) (s0_2 : List Int) (s0_3 : Int) (s0_4 : Int) (s0_5 : Int) (s0_6 : Int) (l1 : List Int) : Option (Int × Bool) := (spec_LeastPeriod.fB k s0_0 s0_1 s0_2 s0_3 s0_4 s0_5 s0_6 l1).bind fun b => some (b.1, b.2.1)
theorem spec_LeastPeriod.mono : ∀ a0 a1 a2 a3 a4 a5 a6 a7 k, LeO (spec_LeastPeriod.f k a0 a1 a2 a3 a4 a5 a6 a7) (spec_LeastPeriod.f (k + 1) a0 a1 a2 a3 a4 a5 a6 a7) := by
 intro a0 a1 a2 a3 a4 a5 a6 a7 k
 unfold spec_LeastPeriod.f
 exact LeO.bind (spec_LeastPeriod.monoB a0 a1 a2 a3 a4 a5 a6 a7 k) (fun _ => LeO.refl _)
theorem spec_LeastPeriod.calls (k : Nat) (s0_0 : Int) (A0_1 : Option Addr) (c0_1 : Nat) (s0_1 : List (S62)) (A0_2 : Option Addr) (c0_2 : Nat) (s0_2 : List Int) (s0_3 : Int) (s0_4 : Int) (s0_5 : Int) (s0_6 : Int) (A1 : Option Addr) (c1 : Nat) (l1 : List Int) (r1 : Int) (r2 : Bool) (w : World) (hr0_1 : Kd.C k62 w A0_1 s0_1.length s0_1) (hc0_1 : s0_1.length ≤ c0_1) (hr0_2 : Kd.C (Kd.int .i64) w A0_2 s0_2.length s0_2) (hc0_2 : s0_2.length ≤ c0_2) (hr1 : Kd.C (Kd.int .i64) w A1 l1.length l1) (hc1 : l1.length ≤ c1) (h : spec_LeastPeriod.f k s0_0 s0_1 s0_2 s0_3 s0_4 s0_5 s0_6 l1 = some (r1, r2)) :
  Calls Try.prog 34 #[.agg #[.int .i64 s0_0, .slice A0_1 s0_1.length c0_1, .slice A0_2 s0_2.length c0_2, .int .i64 s0_3, .int .i64 s0_4, .int .i64 s0_5, .int .i64 s0_6], .slice A1 l1.length c1] w fun e w' => e = .returned (.tuple #[.int .i64 r1, .bool r2]) ∧ Below w.heap.size w w' := by
 have hB_ : Below w.heap.size w (w.alloc (.cells #[.int .i64 s0_0, .slice A0_1 s0_1.length c0_1, .slice A0_2 s0_2.length c0_2, .int .i64 s0_3, .int .i64 s0_4, .int .i64 s0_5, .int .i64 s0_6] 30)) := below_alloc (Below.refl _ _) _
 have hI_ := IsS30.new w w A0_1 c0_1 A0_2 c0_2 s0_0 s0_1 s0_2 s0_3 s0_4 s0_5 s0_6 (Below.refl _ _) hr0_1 hr0_2
 obtain ⟨b_, h0_, h1_⟩ := Option.bind_eq_some_iff.mp h
 obtain ⟨b0_, b1_, b2_, b3_, b4_, b5_, b6_⟩ := b_
 simp only [Option.some.injEq, Prod.mk.injEq] at h1_
 obtain ⟨rfl, rfl⟩ := h1_
 refine (spec_LeastPeriod.callsB k A0_1 c0_1 A0_2 c0_2 w.heap.size s0_0 s0_1 s0_2 s0_3 s0_4 s0_5 s0_6 A1 c1 l1 _ _ _ _ _ _ _ w (w.alloc (.cells #[.int .i64 s0_0, .slice A0_1 s0_1.length c0_1, .slice A0_2 s0_2.length c0_2, .int .i64 s0_3, .int .i64 s0_4, .int .i64 s0_5, .int .i64 s0_6] 30)) hI_ hB_ (Kd.C_below hr1 hB_) hc1 (Kd.far_C 0 hr1 (Nat.le_refl _)) rfl rfl h0_).mono ?_
 rintro e w' ⟨he_, _, hb_, _⟩
 exact ⟨he_, hb_⟩

end Go.Proofs.Ytalafmahgeejiaa.Pa
