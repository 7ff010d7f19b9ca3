-- Written for this claim by a program of this session.
import Derived.Test.YtahjcmmgdcedpaaUPax0
import Derived.Test.YtahjcmmgdcedpaaUKTPaxf8
import Derived.Test.YtahjcmmgdcedpaaUCoreT6
import Derived.Test.YtahjcmmgdcedpaaUCoreT3
import Derived.Test.YtahjcmmgdcedpaaUKTPaxf12
import Derived.Test.YtahjcmmgdcedpaaUCoreT2
namespace Go.Proofs.Ytahjcmmgdcedpaa.Pa
open Go.RowKit Go.Proofs.YtahjcmmgdcedpaaW.PrintWords Go.Proofs.YtahjcmmgdcedpaaW.PrintLast Go.Proofs.YtahjcmmgdcedpaaW.PrintMore
attribute [local go_sem] max2_int min2_int max_two min_two max_three min_three max_four min_four   -- for this text's walks alone
set_option linter.unusedVariables false
set_option linter.unusedSimpArgs false

/-! ### laws_FnTimings: function 3 -/
mutual
def laws_FnTimings.l0 : Nat → List Int → Int → List Int → Bool → Bool → Int → Int → List (S32) → Option (Bool)
 | 0, _, _, _, _, _, _, _, _ => none
 | k + 1, x1, x6, x7, x8, x9, x10, x284000, x284001 => if x10 < (x284001.length : Int) then (if x9 = true then (if 0 ≤ x10 then (if 0 ≤ ((rd_T32 x284001 x10).f1) then (if ((rd_T32 x284001 x10).f1) < (x7.length : Int) then (if 0 ≤ ((rd_T32 x284001 x10).f0) then (if ((rd_T32 x284001 x10).f0) < (x7.length : Int) then (laws_FnTimings.l0 k x1 x6 x7 x8 (decide ((wrap64 ((rd x7 ((rd_T32 x284001 x10).f1)) - (rd x7 ((rd_T32 x284001 x10).f0)))) ≤ ((rd_T32 x284001 x10).f2))) (wrap64 (x10 + 1)) x284000 x284001) else (none)) else (none)) else (none)) else (none)) else (none)) else (laws_FnTimings.l0 k x1 x6 x7 x8 false (wrap64 (x10 + 1)) x284000 x284001)) else (if (x8 != x9) = true then (some false) else ((laws_r8At.f x1 40 x6).bind fun t293 => ((laws_r8At.f x1 41 x6).bind fun t294 => ((impl_EarliestTimes.f k x284000 x284001 t293).bind fun bt295 => ((impl_LatestTimes.f k x284000 x284001 t293).bind fun bt299 => ((impl_GapOf.f k x284000 x284001 t293 t294).bind fun bt303 => (if bt295.2 = true then ((impl_IsTiming.f x284000 x284001 bt295.1).bind fun t306 => (if t306 = true then (if 0 ≤ t293 then (if t293 < (bt295.1.length : Int) then (if (rd bt295.1 t293) = 0 then (if bt299.2 = true then ((impl_IsTiming.f x284000 x284001 bt299.1).bind fun t308 => (if t308 = true then (if t293 < (bt299.1.length : Int) then (if (rd bt299.1 t293) = 0 then (if bt303.2.2 = true then (laws_FnTimings.j1 k x6 x7 x8 t293 t294 bt295.1 bt295.2 bt299.1 bt299.2 bt303.1 bt303.2.1 bt303.2.2 (decide (bt303.1 > bt303.2.1))) else (laws_FnTimings.j1 k x6 x7 x8 t293 t294 bt295.1 bt295.2 bt299.1 bt299.2 bt303.1 bt303.2.1 bt303.2.2 false)) else (laws_FnTimings.j1 k x6 x7 x8 t293 t294 bt295.1 bt295.2 bt299.1 bt299.2 bt303.1 bt303.2.1 bt303.2.2 true)) else (none)) else (laws_FnTimings.j1 k x6 x7 x8 t293 t294 bt295.1 bt295.2 bt299.1 bt299.2 bt303.1 bt303.2.1 bt303.2.2 true))) else (if bt303.2.2 = true then (laws_FnTimings.j1 k x6 x7 x8 t293 t294 bt295.1 bt295.2 bt299.1 bt299.2 bt303.1 bt303.2.1 bt303.2.2 (decide (bt303.1 > bt303.2.1))) else (laws_FnTimings.j1 k x6 x7 x8 t293 t294 bt295.1 bt295.2 bt299.1 bt299.2 bt303.1 bt303.2.1 bt303.2.2 false))) else (laws_FnTimings.j1 k x6 x7 x8 t293 t294 bt295.1 bt295.2 bt299.1 bt299.2 bt303.1 bt303.2.1 bt303.2.2 true)) else (none)) else (none)) else (laws_FnTimings.j1 k x6 x7 x8 t293 t294 bt295.1 bt295.2 bt299.1 bt299.2 bt303.1 bt303.2.1 bt303.2.2 true))) else (if bt299.2 = true then ((impl_IsTiming.f x284000 x284001 bt299.1).bind fun t310 => (if t310 = true then (if 0 ≤ t293 then (if t293 < (bt299.1.length : Int) then (if (rd bt299.1 t293) = 0 then (if bt303.2.2 = true then (laws_FnTimings.j1 k x6 x7 x8 t293 t294 bt295.1 bt295.2 bt299.1 bt299.2 bt303.1 bt303.2.1 bt303.2.2 (decide (bt303.1 > bt303.2.1))) else (laws_FnTimings.j1 k x6 x7 x8 t293 t294 bt295.1 bt295.2 bt299.1 bt299.2 bt303.1 bt303.2.1 bt303.2.2 false)) else (laws_FnTimings.j1 k x6 x7 x8 t293 t294 bt295.1 bt295.2 bt299.1 bt299.2 bt303.1 bt303.2.1 bt303.2.2 true)) else (none)) else (none)) else (laws_FnTimings.j1 k x6 x7 x8 t293 t294 bt295.1 bt295.2 bt299.1 bt299.2 bt303.1 bt303.2.1 bt303.2.2 true))) else (if bt303.2.2 = true then (laws_FnTimings.j1 k x6 x7 x8 t293 t294 bt295.1 bt295.2 bt299.1 bt299.2 bt303.1 bt303.2.1 bt303.2.2 (decide (bt303.1 > bt303.2.1))) else (laws_FnTimings.j1 k x6 x7 x8 t293 t294 bt295.1 bt295.2 bt299.1 bt299.2 bt303.1 bt303.2.1 bt303.2.2 false))))))))))
def laws_FnTimings.j1 : Nat → Int → List Int → Bool → Int → Int → List Int → Bool → List Int → Bool → Int → Int → Bool → Bool → Option (Bool)
 | 0, _, _, _, _, _, _, _, _, _, _, _, _, _ => none
 | k + 1, x6, x7, x8, x11, x12, x13, x14, x15, x16, x17, x18, x19, x138 => if x138 = true then (some false) else (if x8 = true then (laws_FnTimings.l1 k x6 x7 x11 x12 x13 x14 x15 x16 x17 x18 x19 0) else (some true))
def laws_FnTimings.l1 : Nat → Int → List Int → Int → Int → List Int → Bool → List Int → Bool → Int → Int → Bool → Int → Option (Bool)
 | 0, _, _, _, _, _, _, _, _, _, _, _, _ => none
 | k + 1, x6, x7, x11, x12, x13, x14, x15, x16, x17, x18, x19, x20 => if x20 < x6 then (if 0 ≤ x20 then (if x20 < (x7.length : Int) then (if 0 ≤ x11 then (if x11 < (x7.length : Int) then (if x14 = true then (if x20 < (x13.length : Int) then (if (wrap64 ((rd x7 x20) - (rd x7 x11))) < (rd x13 x20) then (some false) else (if x16 = true then (if x20 < (x15.length : Int) then (if (wrap64 ((rd x7 x20) - (rd x7 x11))) > (rd x15 x20) then (some false) else (laws_FnTimings.l1 k x6 x7 x11 x12 x13 x14 x15 x16 x17 x18 x19 (wrap64 (x20 + 1)))) else (none)) else (laws_FnTimings.l1 k x6 x7 x11 x12 x13 x14 x15 x16 x17 x18 x19 (wrap64 (x20 + 1))))) else (none)) else (if x16 = true then (if x20 < (x15.length : Int) then (if (wrap64 ((rd x7 x20) - (rd x7 x11))) > (rd x15 x20) then (some false) else (laws_FnTimings.l1 k x6 x7 x11 x12 x13 x14 x15 x16 x17 x18 x19 (wrap64 (x20 + 1)))) else (none)) else (laws_FnTimings.l1 k x6 x7 x11 x12 x13 x14 x15 x16 x17 x18 x19 (wrap64 (x20 + 1))))) else (none)) else (none)) else (none)) else (none)) else (if 0 ≤ x12 then (if x12 < (x7.length : Int) then (if 0 ≤ x11 then (if x11 < (x7.length : Int) then (if x19 = true then (if (wrap64 ((rd x7 x12) - (rd x7 x11))) ≥ x17 then (some (decide ((wrap64 ((rd x7 x12) - (rd x7 x11))) ≤ x18))) else (some false)) else (some true)) else (none)) else (none)) else (none)) else (none))
end
def laws_FnTimings.f (k : Nat) (l0 : List Int) (l1 : List Int) : Option (Bool) := (laws_r8Long.f l0 l1).bind fun t278 => (if t278 = true then (some true) else ((spec_R8Diagram.f k l0).bind fun bt279 => ((spec_R8Times.f k l1 bt279.1).bind fun t284 => ((impl_IsTiming.f bt279.1 bt279.2 t284).bind fun t287 => (laws_FnTimings.l0 k l1 bt279.1 t284 t287 true 0 bt279.1 bt279.2)))))
set_option maxHeartbeats 8000000 in
set_option maxRecDepth 100000 in
theorem laws_FnTimings.calls (k : Nat) (A0 : Option Addr) (c0 : Nat) (l0 : List Int) (A1 : Option Addr) (c1 : Nat) (l1 : List Int) (r : Bool) (w : World) (hr0 : Kd.C (Kd.int .u8) w A0 l0.length l0) (hc0 : l0.length ≤ c0) (hr1 : Kd.C (Kd.int .u8) w A1 l1.length l1) (hc1 : l1.length ≤ c1) (h : laws_FnTimings.f k l0 l1 = some r) :
  Calls Try.prog 3 #[.slice A0 l0.length c0, .slice A1 l1.length c1] w fun e w' => e = .returned (.bool r) ∧ Below w.heap.size w w' := by
 have hu26 := Try.underlying26
 have HR0 := Aside0.mk hr0
 have HC0 := Aside0.mk hc0
 clear hr0 hc0
 have HR1 := Aside0.mk hr1
 have HC1 := Aside0.mk hc1
 clear hr1 hc1
 have HB := Aside0.mk (Below.refl w.heap.size w)
 have H : ((laws_r8Long.f l0 l1).bind fun t278 => (if t278 = true then (some true) else ((spec_R8Diagram.f k l0).bind fun bt279 => ((spec_R8Times.f k l1 bt279.1).bind fun t284 => ((impl_IsTiming.f bt279.1 bt279.2 t284).bind fun t287 => (laws_FnTimings.l0 k l1 bt279.1 t284 t287 true 0 bt279.1 bt279.2)))))) = some r := h
 clear h
 replace H := Option.bind_eq_some_iff.mp H
 obtain ⟨t278, A30, H⟩ := H
 replace H : (if t278 = true then (some true) else ((spec_R8Diagram.f k l0).bind fun bt279 => ((spec_R8Times.f k l1 bt279.1).bind fun t284 => ((impl_IsTiming.f bt279.1 bt279.2 t284).bind fun t287 => (laws_FnTimings.l0 k l1 bt279.1 t284 t287 true 0 bt279.1 bt279.2))))) = some r := H
 have A3 := Aside0.mk A30
 clear A30
 by_cases c4 : t278 = true
 ·subst c4
  have H1 : (some true) = some r := by rw [if_pos rfl] at H; exact H
  clear H
  have H := H1
  clear H1
  obtain rfl := Option.some.inj H
  go_enter Try.func3, Try.ntmps3
  go_wp2_with (first | (go_at_call 8; (with_reducible refine (laws_r8Long.calls _ _ l0 _ _ l1 true _ ?side1 ?side2 ?side3 ?side4 A3.out).mono ?_); (case side1 => repeat (first | exact HR0.out | (with_reducible refine Kd.C_alloc ?_ _) | (with_reducible refine Kd.C_drewN ?_ _) | (with_reducible refine Kd.C_drew ?_))); (case side2 => exact HC0.out); (case side3 => repeat (first | exact HR1.out | (with_reducible refine Kd.C_alloc ?_ _) | (with_reducible refine Kd.C_drewN ?_ _) | (with_reducible refine Kd.C_drew ?_))); (case side4 => exact HC1.out); rintro e w' ⟨rfl, ⟨nd, rfl⟩⟩; (try first | exact ⟨rfl, _, World.drewN_drewN _ _ _⟩ | exact ⟨rfl, _, Eq.trans (World.drewN_drewN _ _ _) (congrArg (World.drewN _) (Nat.add_assoc _ _ _))⟩)))
  repeat (go_quiet (first | (go_at_call 8; (with_reducible refine (laws_r8Long.calls _ _ l0 _ _ l1 true _ ?side1 ?side2 ?side3 ?side4 A3.out).mono ?_); (case side1 => repeat (first | exact HR0.out | (with_reducible refine Kd.C_alloc ?_ _) | (with_reducible refine Kd.C_drewN ?_ _) | (with_reducible refine Kd.C_drew ?_))); (case side2 => exact HC0.out); (case side3 => repeat (first | exact HR1.out | (with_reducible refine Kd.C_alloc ?_ _) | (with_reducible refine Kd.C_drewN ?_ _) | (with_reducible refine Kd.C_drew ?_))); (case side4 => exact HC1.out); rintro e w' ⟨rfl, ⟨nd, rfl⟩⟩; (try first | exact ⟨rfl, _, World.drewN_drewN _ _ _⟩ | exact ⟨rfl, _, Eq.trans (World.drewN_drewN _ _ _) (congrArg (World.drewN _) (Nat.add_assoc _ _ _))⟩))); try go_wp2_with (first | (go_at_call 8; (with_reducible refine (laws_r8Long.calls _ _ l0 _ _ l1 true _ ?side1 ?side2 ?side3 ?side4 A3.out).mono ?_); (case side1 => repeat (first | exact HR0.out | (with_reducible refine Kd.C_alloc ?_ _) | (with_reducible refine Kd.C_drewN ?_ _) | (with_reducible refine Kd.C_drew ?_))); (case side2 => exact HC0.out); (case side3 => repeat (first | exact HR1.out | (with_reducible refine Kd.C_alloc ?_ _) | (with_reducible refine Kd.C_drewN ?_ _) | (with_reducible refine Kd.C_drew ?_))); (case side4 => exact HC1.out); rintro e w' ⟨rfl, ⟨nd, rfl⟩⟩; (try first | exact ⟨rfl, _, World.drewN_drewN _ _ _⟩ | exact ⟨rfl, _, Eq.trans (World.drewN_drewN _ _ _) (congrArg (World.drewN _) (Nat.add_assoc _ _ _))⟩))))
  go_ret
  exact ⟨by first | rfl | (simp [errW_none, errW_some] <;> rfl) | (simp [*, errW_none, errW_some] <;> rfl), by repeat (first | (with_reducible first | exact HB.out | apply below_alloc | apply pw_below_drewN | apply below_drew1) | exact HB.out)⟩
 ·replace c4 := Bool.eq_false_iff.mpr c4
  subst c4
  have H1 : ((spec_R8Diagram.f k l0).bind fun bt279 => ((spec_R8Times.f k l1 bt279.1).bind fun t284 => ((impl_IsTiming.f bt279.1 bt279.2 t284).bind fun t287 => (laws_FnTimings.l0 k l1 bt279.1 t284 t287 true 0 bt279.1 bt279.2)))) = some r := by rw [if_neg (show ¬ (false = true) by decide)] at H; exact H
  clear H
  have H := H1
  clear H1
  replace H := Option.bind_eq_some_iff.mp H
  obtain ⟨⟨t279, t280⟩, A50, H⟩ := H
  replace H : ((spec_R8Times.f k l1 t279).bind fun t284 => ((impl_IsTiming.f t279 t280 t284).bind fun t287 => (laws_FnTimings.l0 k l1 t279 t284 t287 true 0 t279 t280))) = some r := H
  have A5 := Aside0.mk A50
  clear A50
  replace H := Option.bind_eq_some_iff.mp H
  obtain ⟨t284, A60, H⟩ := H
  replace H : ((impl_IsTiming.f t279 t280 t284).bind fun t287 => (laws_FnTimings.l0 k l1 t279 t284 t287 true 0 t279 t280)) = some r := H
  have A6 := Aside0.mk A60
  clear A60
  replace H := Option.bind_eq_some_iff.mp H
  obtain ⟨t287, A70, H⟩ := H
  replace H : (laws_FnTimings.l0 k l1 t279 t284 t287 true 0 t279 t280) = some r := H
  have A7 := Aside0.mk A70
  clear A70
  have H' := Aside0.mk H
  clear H
  go_enter Try.func3, Try.ntmps3
  go_wp2_with (first | (go_at_call 8; (with_reducible refine (laws_r8Long.calls _ _ l0 _ _ l1 false _ ?side1 ?side2 ?side3 ?side4 A3.out).mono ?_); (case side1 => repeat (first | exact HR0.out | (with_reducible refine Kd.C_alloc ?_ _) | (with_reducible refine Kd.C_drewN ?_ _) | (with_reducible refine Kd.C_drew ?_))); (case side2 => exact HC0.out); (case side3 => repeat (first | exact HR1.out | (with_reducible refine Kd.C_alloc ?_ _) | (with_reducible refine Kd.C_drewN ?_ _) | (with_reducible refine Kd.C_drew ?_))); (case side4 => exact HC1.out); rintro e w' ⟨rfl, ⟨nd, rfl⟩⟩; (try first | exact ⟨rfl, _, World.drewN_drewN _ _ _⟩ | exact ⟨rfl, _, Eq.trans (World.drewN_drewN _ _ _) (congrArg (World.drewN _) (Nat.add_assoc _ _ _))⟩)) | (go_at_call 9; (with_reducible refine (spec_R8Diagram.calls k _ _ l0 t279 t280 _ ?side1 ?side2 A5.out).mono ?_); (case side1 => repeat (first | exact HR0.out | (with_reducible refine Kd.C_alloc ?_ _) | (with_reducible refine Kd.C_drewN ?_ _) | (with_reducible refine Kd.C_drew ?_))); (case side2 => exact HC0.out); rintro e w8 ⟨v281, rfl, ho0, hb⟩; have n0_ := Aside0.mk (Kd.R_lower ho0 (below_size (by repeat (first | (with_reducible first | exact HB.out | apply below_alloc | apply pw_below_drewN | apply below_drew1) | exact HB.out)))); have n1_ := Aside0.mk (below_step (by repeat (first | (with_reducible first | exact HB.out | apply below_alloc | apply pw_below_drewN | apply below_drew1) | exact HB.out)) hb); clear HB; have HO282 := n0_; have HB := n1_; clear n0_ n1_; (try clear hb); (try clear hb2); (try clear hk); (try clear hi); (try clear ho0)) | ((with_reducible refine gate_dst (N := 5) rfl ?_); refine box_event ?hg (N := 5) ?hd (cs := #[.int .i64 0, .slice none 0 0]) (t := 26) ?hr ?_; (case hd => rfl); (case hg => rfl); (case hr => first | (go_simp; done) | (go_simp; rfl)); intro gb283 hg w9 hbox hb; have n0_ := Aside0.mk (Kd.R_below (by (with_reducible repeat (first | apply Kd.R_alloc | apply Kd.R_drewN | apply Kd.R_drew)); exact HO282.out) hb); have n1_ := Aside0.mk (below_step (by repeat (first | (with_reducible first | exact HB.out | apply below_alloc | apply pw_below_drewN | apply below_drew1) | exact HB.out)) hb); have n2_ := Aside0.mk (hbox); have n3_ := Aside0.mk ((by rw [hg]; exact (below_size (by repeat (first | (with_reducible first | exact HB.out | apply below_alloc | apply pw_below_drewN | apply below_drew1) | exact HB.out))) : w.heap.size ≤ gb283)); have n4_ := Aside0.mk ((by rw [hg]; exact (below_size (by repeat (first | (with_reducible first | exact HB.out | apply below_alloc | apply pw_below_drewN | apply below_drew1) | exact HB.out))) : w.heap.size ≤ gb283)); clear HO282; clear HB; have HO282 := n0_; have HB := n1_; have BK283 := n2_; have GW283 := n3_; have GE283 := n4_; clear n0_ n1_ n2_ n3_ n4_; clear hb hbox hg; have hcz10_0 : w9.cell? ⟨gb283, 0, none⟩ = some (.int .i64 0) := (blk_cell BK283.out 0).trans rfl; have hcz10_1 : w9.cell? ⟨gb283, 1, none⟩ = some (.slice none 0 0) := (blk_cell BK283.out 1).trans rfl; have hfz10_0 := blk_frozen BK283.out 0; have hfz10_1 := blk_frozen BK283.out 1; obtain ⟨Ao11, co11, eo11⟩ := Kd.R_slice HO282.out; subst eo11) | (go_at_call 10; (with_reducible refine (spec_R8Times.calls k _ _ l1 t279 t284 _ ?side1 ?side2 A6.out).mono ?_); (case side1 => exact Kd.C_below HR1.out (by repeat (first | (with_reducible first | exact HB.out | apply below_alloc | apply pw_below_drewN | apply below_drew1 | refine below_set ?_ GE283.out) | exact HB.out))); (case side2 => exact HC1.out); rintro e w12 ⟨v285, rfl, ho0, hb⟩; have n0_ := Aside0.mk (Kd.R_below (by (with_reducible repeat (first | apply Kd.R_alloc | apply Kd.R_drewN | apply Kd.R_drew)); exact (Kd.R_mono (Kd.R_far (p := ⟨gb283, 1, none⟩) (Kd.R_far (p := ⟨gb283, 0, none⟩) (Kd.R_types HO282.out BK283.out (by decide)) (fun _ hk => hk.2) (.int .i64 t279)) (fun _ hk => hk.2) (.slice Ao11 t280.length co11)) (fun _ h_ => h_.1))) hb); have n1_ := Aside0.mk (Kd.R_lower ho0 (below_size (by repeat (first | (with_reducible first | exact HB.out | apply below_alloc | apply pw_below_drewN | apply below_drew1 | refine below_set ?_ GE283.out) | exact HB.out)))); have n2_ := Aside0.mk (blk_below (g := gb283) (o := .cells #[.int .i64 t279, .slice Ao11 t280.length co11] 26 (0, 0)) (by (with_reducible repeat (first | refine blk_drewN ?_ _ | refine blk_drew ?_ | refine blk_alloc ?_ _)); refine blk_put (cs := #[.int .i64 t279, .slice none 0 0]) ?_ 1 _ rfl; (with_reducible repeat (first | refine blk_drewN ?_ _ | refine blk_drew ?_ | refine blk_alloc ?_ _)); refine blk_put (cs := #[.int .i64 0, .slice none 0 0]) ?_ 0 _ rfl; (with_reducible repeat (first | refine blk_drewN ?_ _ | refine blk_drew ?_ | refine blk_alloc ?_ _)); exact BK283.out) hb); have n3_ := Aside0.mk (below_step (by repeat (first | (with_reducible first | exact HB.out | apply below_alloc | apply pw_below_drewN | apply below_drew1 | refine below_set ?_ GE283.out) | exact HB.out)) hb); clear HO282; clear BK283; clear HB; have HO282 := n0_; have HO286 := n1_; have BK283 := n2_; have HB := n3_; clear n0_ n1_ n2_ n3_; (try clear hb); (try clear hb2); (try clear hk); (try clear hi); (try clear ho0); have hcz13_0 : w12.cell? ⟨gb283, 0, none⟩ = some (.int .i64 t279) := (blk_cell BK283.out 0).trans rfl; have hcz13_1 : w12.cell? ⟨gb283, 1, none⟩ = some (.slice Ao11 t280.length co11) := (blk_cell BK283.out 1).trans rfl; have hfz13_0 := blk_frozen BK283.out 0; have hfz13_1 := blk_frozen BK283.out 1; obtain ⟨Ao14, co14, eo14⟩ := Kd.R_slice HO286.out; subst eo14) | (go_at_call 11; (with_reducible refine (impl_IsTiming.calls t279 _ _ t280 _ _ t284 t287 _ ?side1 ?side2 ?side3 ?side4 A7.out).mono ?_); (case side1 => repeat (first | exact (Kd.R_reads' HO282.out).2.2 | (with_reducible refine Kd.C_alloc ?_ _) | (with_reducible refine Kd.C_drewN ?_ _) | (with_reducible refine Kd.C_drew ?_))); (case side2 => exact (Kd.R_reads' HO282.out).2.1); (case side3 => repeat (first | exact (Kd.R_reads' HO286.out).2.2 | (with_reducible refine Kd.C_alloc ?_ _) | (with_reducible refine Kd.C_drewN ?_ _) | (with_reducible refine Kd.C_drew ?_))); (case side4 => exact (Kd.R_reads' HO286.out).2.1); rintro e w15 ⟨rfl, hb⟩; have n0_ := Aside0.mk (Kd.R_below (by (with_reducible repeat (first | apply Kd.R_alloc | apply Kd.R_drewN | apply Kd.R_drew)); exact HO282.out) hb); have n1_ := Aside0.mk (Kd.R_below (by (with_reducible repeat (first | apply Kd.R_alloc | apply Kd.R_drewN | apply Kd.R_drew)); exact HO286.out) hb); have n2_ := Aside0.mk (blk_below (g := gb283) (o := .cells #[.int .i64 t279, .slice Ao11 t280.length co11] 26 (0, 0)) (by (with_reducible repeat (first | refine blk_drewN ?_ _ | refine blk_drew ?_ | refine blk_alloc ?_ _)); exact BK283.out) hb); have n3_ := Aside0.mk (below_step (by repeat (first | (with_reducible first | exact HB.out | apply below_alloc | apply pw_below_drewN | apply below_drew1 | refine below_set ?_ GE283.out) | exact HB.out)) hb); clear HO282; clear HO286; clear BK283; clear HB; have HO282 := n0_; have HO286 := n1_; have BK283 := n2_; have HB := n3_; clear n0_ n1_ n2_ n3_; (try clear hb); (try clear hb2); (try clear hk); (try clear hi)))
  repeat (go_quiet (first | (go_at_call 8; (with_reducible refine (laws_r8Long.calls _ _ l0 _ _ l1 false _ ?side1 ?side2 ?side3 ?side4 A3.out).mono ?_); (case side1 => repeat (first | exact HR0.out | (with_reducible refine Kd.C_alloc ?_ _) | (with_reducible refine Kd.C_drewN ?_ _) | (with_reducible refine Kd.C_drew ?_))); (case side2 => exact HC0.out); (case side3 => repeat (first | exact HR1.out | (with_reducible refine Kd.C_alloc ?_ _) | (with_reducible refine Kd.C_drewN ?_ _) | (with_reducible refine Kd.C_drew ?_))); (case side4 => exact HC1.out); rintro e w' ⟨rfl, ⟨nd, rfl⟩⟩; (try first | exact ⟨rfl, _, World.drewN_drewN _ _ _⟩ | exact ⟨rfl, _, Eq.trans (World.drewN_drewN _ _ _) (congrArg (World.drewN _) (Nat.add_assoc _ _ _))⟩)) | (go_at_call 9; (with_reducible refine (spec_R8Diagram.calls k _ _ l0 t279 t280 _ ?side1 ?side2 A5.out).mono ?_); (case side1 => repeat (first | exact HR0.out | (with_reducible refine Kd.C_alloc ?_ _) | (with_reducible refine Kd.C_drewN ?_ _) | (with_reducible refine Kd.C_drew ?_))); (case side2 => exact HC0.out); rintro e w8 ⟨v281, rfl, ho0, hb⟩; have n0_ := Aside0.mk (Kd.R_lower ho0 (below_size (by repeat (first | (with_reducible first | exact HB.out | apply below_alloc | apply pw_below_drewN | apply below_drew1) | exact HB.out)))); have n1_ := Aside0.mk (below_step (by repeat (first | (with_reducible first | exact HB.out | apply below_alloc | apply pw_below_drewN | apply below_drew1) | exact HB.out)) hb); clear HB; have HO282 := n0_; have HB := n1_; clear n0_ n1_; (try clear hb); (try clear hb2); (try clear hk); (try clear hi); (try clear ho0)) | ((with_reducible refine gate_dst (N := 5) rfl ?_); refine box_event ?hg (N := 5) ?hd (cs := #[.int .i64 0, .slice none 0 0]) (t := 26) ?hr ?_; (case hd => rfl); (case hg => rfl); (case hr => first | (go_simp; done) | (go_simp; rfl)); intro gb283 hg w9 hbox hb; have n0_ := Aside0.mk (Kd.R_below (by (with_reducible repeat (first | apply Kd.R_alloc | apply Kd.R_drewN | apply Kd.R_drew)); exact HO282.out) hb); have n1_ := Aside0.mk (below_step (by repeat (first | (with_reducible first | exact HB.out | apply below_alloc | apply pw_below_drewN | apply below_drew1) | exact HB.out)) hb); have n2_ := Aside0.mk (hbox); have n3_ := Aside0.mk ((by rw [hg]; exact (below_size (by repeat (first | (with_reducible first | exact HB.out | apply below_alloc | apply pw_below_drewN | apply below_drew1) | exact HB.out))) : w.heap.size ≤ gb283)); have n4_ := Aside0.mk ((by rw [hg]; exact (below_size (by repeat (first | (with_reducible first | exact HB.out | apply below_alloc | apply pw_below_drewN | apply below_drew1) | exact HB.out))) : w.heap.size ≤ gb283)); clear HO282; clear HB; have HO282 := n0_; have HB := n1_; have BK283 := n2_; have GW283 := n3_; have GE283 := n4_; clear n0_ n1_ n2_ n3_ n4_; clear hb hbox hg; have hcz10_0 : w9.cell? ⟨gb283, 0, none⟩ = some (.int .i64 0) := (blk_cell BK283.out 0).trans rfl; have hcz10_1 : w9.cell? ⟨gb283, 1, none⟩ = some (.slice none 0 0) := (blk_cell BK283.out 1).trans rfl; have hfz10_0 := blk_frozen BK283.out 0; have hfz10_1 := blk_frozen BK283.out 1; obtain ⟨Ao11, co11, eo11⟩ := Kd.R_slice HO282.out; subst eo11) | (go_at_call 10; (with_reducible refine (spec_R8Times.calls k _ _ l1 t279 t284 _ ?side1 ?side2 A6.out).mono ?_); (case side1 => exact Kd.C_below HR1.out (by repeat (first | (with_reducible first | exact HB.out | apply below_alloc | apply pw_below_drewN | apply below_drew1 | refine below_set ?_ GE283.out) | exact HB.out))); (case side2 => exact HC1.out); rintro e w12 ⟨v285, rfl, ho0, hb⟩; have n0_ := Aside0.mk (Kd.R_below (by (with_reducible repeat (first | apply Kd.R_alloc | apply Kd.R_drewN | apply Kd.R_drew)); exact (Kd.R_mono (Kd.R_far (p := ⟨gb283, 1, none⟩) (Kd.R_far (p := ⟨gb283, 0, none⟩) (Kd.R_types HO282.out BK283.out (by decide)) (fun _ hk => hk.2) (.int .i64 t279)) (fun _ hk => hk.2) (.slice Ao11 t280.length co11)) (fun _ h_ => h_.1))) hb); have n1_ := Aside0.mk (Kd.R_lower ho0 (below_size (by repeat (first | (with_reducible first | exact HB.out | apply below_alloc | apply pw_below_drewN | apply below_drew1 | refine below_set ?_ GE283.out) | exact HB.out)))); have n2_ := Aside0.mk (blk_below (g := gb283) (o := .cells #[.int .i64 t279, .slice Ao11 t280.length co11] 26 (0, 0)) (by (with_reducible repeat (first | refine blk_drewN ?_ _ | refine blk_drew ?_ | refine blk_alloc ?_ _)); refine blk_put (cs := #[.int .i64 t279, .slice none 0 0]) ?_ 1 _ rfl; (with_reducible repeat (first | refine blk_drewN ?_ _ | refine blk_drew ?_ | refine blk_alloc ?_ _)); refine blk_put (cs := #[.int .i64 0, .slice none 0 0]) ?_ 0 _ rfl; (with_reducible repeat (first | refine blk_drewN ?_ _ | refine blk_drew ?_ | refine blk_alloc ?_ _)); exact BK283.out) hb); have n3_ := Aside0.mk (below_step (by repeat (first | (with_reducible first | exact HB.out | apply below_alloc | apply pw_below_drewN | apply below_drew1 | refine below_set ?_ GE283.out) | exact HB.out)) hb); clear HO282; clear BK283; clear HB; have HO282 := n0_; have HO286 := n1_; have BK283 := n2_; have HB := n3_; clear n0_ n1_ n2_ n3_; (try clear hb); (try clear hb2); (try clear hk); (try clear hi); (try clear ho0); have hcz13_0 : w12.cell? ⟨gb283, 0, none⟩ = some (.int .i64 t279) := (blk_cell BK283.out 0).trans rfl; have hcz13_1 : w12.cell? ⟨gb283, 1, none⟩ = some (.slice Ao11 t280.length co11) := (blk_cell BK283.out 1).trans rfl; have hfz13_0 := blk_frozen BK283.out 0; have hfz13_1 := blk_frozen BK283.out 1; obtain ⟨Ao14, co14, eo14⟩ := Kd.R_slice HO286.out; subst eo14) | (go_at_call 11; (with_reducible refine (impl_IsTiming.calls t279 _ _ t280 _ _ t284 t287 _ ?side1 ?side2 ?side3 ?side4 A7.out).mono ?_); (case side1 => repeat (first | exact (Kd.R_reads' HO282.out).2.2 | (with_reducible refine Kd.C_alloc ?_ _) | (with_reducible refine Kd.C_drewN ?_ _) | (with_reducible refine Kd.C_drew ?_))); (case side2 => exact (Kd.R_reads' HO282.out).2.1); (case side3 => repeat (first | exact (Kd.R_reads' HO286.out).2.2 | (with_reducible refine Kd.C_alloc ?_ _) | (with_reducible refine Kd.C_drewN ?_ _) | (with_reducible refine Kd.C_drew ?_))); (case side4 => exact (Kd.R_reads' HO286.out).2.1); rintro e w15 ⟨rfl, hb⟩; have n0_ := Aside0.mk (Kd.R_below (by (with_reducible repeat (first | apply Kd.R_alloc | apply Kd.R_drewN | apply Kd.R_drew)); exact HO282.out) hb); have n1_ := Aside0.mk (Kd.R_below (by (with_reducible repeat (first | apply Kd.R_alloc | apply Kd.R_drewN | apply Kd.R_drew)); exact HO286.out) hb); have n2_ := Aside0.mk (blk_below (g := gb283) (o := .cells #[.int .i64 t279, .slice Ao11 t280.length co11] 26 (0, 0)) (by (with_reducible repeat (first | refine blk_drewN ?_ _ | refine blk_drew ?_ | refine blk_alloc ?_ _)); exact BK283.out) hb); have n3_ := Aside0.mk (below_step (by repeat (first | (with_reducible first | exact HB.out | apply below_alloc | apply pw_below_drewN | apply below_drew1 | refine below_set ?_ GE283.out) | exact HB.out)) hb); clear HO282; clear HO286; clear BK283; clear HB; have HO282 := n0_; have HO286 := n1_; have BK283 := n2_; have HB := n3_; clear n0_ n1_ n2_ n3_; (try clear hb); (try clear hb2); (try clear hk); (try clear hi))); try go_wp2_with (first | (go_at_call 8; (with_reducible refine (laws_r8Long.calls _ _ l0 _ _ l1 false _ ?side1 ?side2 ?side3 ?side4 A3.out).mono ?_); (case side1 => repeat (first | exact HR0.out | (with_reducible refine Kd.C_alloc ?_ _) | (with_reducible refine Kd.C_drewN ?_ _) | (with_reducible refine Kd.C_drew ?_))); (case side2 => exact HC0.out); (case side3 => repeat (first | exact HR1.out | (with_reducible refine Kd.C_alloc ?_ _) | (with_reducible refine Kd.C_drewN ?_ _) | (with_reducible refine Kd.C_drew ?_))); (case side4 => exact HC1.out); rintro e w' ⟨rfl, ⟨nd, rfl⟩⟩; (try first | exact ⟨rfl, _, World.drewN_drewN _ _ _⟩ | exact ⟨rfl, _, Eq.trans (World.drewN_drewN _ _ _) (congrArg (World.drewN _) (Nat.add_assoc _ _ _))⟩)) | (go_at_call 9; (with_reducible refine (spec_R8Diagram.calls k _ _ l0 t279 t280 _ ?side1 ?side2 A5.out).mono ?_); (case side1 => repeat (first | exact HR0.out | (with_reducible refine Kd.C_alloc ?_ _) | (with_reducible refine Kd.C_drewN ?_ _) | (with_reducible refine Kd.C_drew ?_))); (case side2 => exact HC0.out); rintro e w8 ⟨v281, rfl, ho0, hb⟩; have n0_ := Aside0.mk (Kd.R_lower ho0 (below_size (by repeat (first | (with_reducible first | exact HB.out | apply below_alloc | apply pw_below_drewN | apply below_drew1) | exact HB.out)))); have n1_ := Aside0.mk (below_step (by repeat (first | (with_reducible first | exact HB.out | apply below_alloc | apply pw_below_drewN | apply below_drew1) | exact HB.out)) hb); clear HB; have HO282 := n0_; have HB := n1_; clear n0_ n1_; (try clear hb); (try clear hb2); (try clear hk); (try clear hi); (try clear ho0)) | ((with_reducible refine gate_dst (N := 5) rfl ?_); refine box_event ?hg (N := 5) ?hd (cs := #[.int .i64 0, .slice none 0 0]) (t := 26) ?hr ?_; (case hd => rfl); (case hg => rfl); (case hr => first | (go_simp; done) | (go_simp; rfl)); intro gb283 hg w9 hbox hb; have n0_ := Aside0.mk (Kd.R_below (by (with_reducible repeat (first | apply Kd.R_alloc | apply Kd.R_drewN | apply Kd.R_drew)); exact HO282.out) hb); have n1_ := Aside0.mk (below_step (by repeat (first | (with_reducible first | exact HB.out | apply below_alloc | apply pw_below_drewN | apply below_drew1) | exact HB.out)) hb); have n2_ := Aside0.mk (hbox); have n3_ := Aside0.mk ((by rw [hg]; exact (below_size (by repeat (first | (with_reducible first | exact HB.out | apply below_alloc | apply pw_below_drewN | apply below_drew1) | exact HB.out))) : w.heap.size ≤ gb283)); have n4_ := Aside0.mk ((by rw [hg]; exact (below_size (by repeat (first | (with_reducible first | exact HB.out | apply below_alloc | apply pw_below_drewN | apply below_drew1) | exact HB.out))) : w.heap.size ≤ gb283)); clear HO282; clear HB; have HO282 := n0_; have HB := n1_; have BK283 := n2_; have GW283 := n3_; have GE283 := n4_; clear n0_ n1_ n2_ n3_ n4_; clear hb hbox hg; have hcz10_0 : w9.cell? ⟨gb283, 0, none⟩ = some (.int .i64 0) := (blk_cell BK283.out 0).trans rfl; have hcz10_1 : w9.cell? ⟨gb283, 1, none⟩ = some (.slice none 0 0) := (blk_cell BK283.out 1).trans rfl; have hfz10_0 := blk_frozen BK283.out 0; have hfz10_1 := blk_frozen BK283.out 1; obtain ⟨Ao11, co11, eo11⟩ := Kd.R_slice HO282.out; subst eo11) | (go_at_call 10; (with_reducible refine (spec_R8Times.calls k _ _ l1 t279 t284 _ ?side1 ?side2 A6.out).mono ?_); (case side1 => exact Kd.C_below HR1.out (by repeat (first | (with_reducible first | exact HB.out | apply below_alloc | apply pw_below_drewN | apply below_drew1 | refine below_set ?_ GE283.out) | exact HB.out))); (case side2 => exact HC1.out); rintro e w12 ⟨v285, rfl, ho0, hb⟩; have n0_ := Aside0.mk (Kd.R_below (by (with_reducible repeat (first | apply Kd.R_alloc | apply Kd.R_drewN | apply Kd.R_drew)); exact (Kd.R_mono (Kd.R_far (p := ⟨gb283, 1, none⟩) (Kd.R_far (p := ⟨gb283, 0, none⟩) (Kd.R_types HO282.out BK283.out (by decide)) (fun _ hk => hk.2) (.int .i64 t279)) (fun _ hk => hk.2) (.slice Ao11 t280.length co11)) (fun _ h_ => h_.1))) hb); have n1_ := Aside0.mk (Kd.R_lower ho0 (below_size (by repeat (first | (with_reducible first | exact HB.out | apply below_alloc | apply pw_below_drewN | apply below_drew1 | refine below_set ?_ GE283.out) | exact HB.out)))); have n2_ := Aside0.mk (blk_below (g := gb283) (o := .cells #[.int .i64 t279, .slice Ao11 t280.length co11] 26 (0, 0)) (by (with_reducible repeat (first | refine blk_drewN ?_ _ | refine blk_drew ?_ | refine blk_alloc ?_ _)); refine blk_put (cs := #[.int .i64 t279, .slice none 0 0]) ?_ 1 _ rfl; (with_reducible repeat (first | refine blk_drewN ?_ _ | refine blk_drew ?_ | refine blk_alloc ?_ _)); refine blk_put (cs := #[.int .i64 0, .slice none 0 0]) ?_ 0 _ rfl; (with_reducible repeat (first | refine blk_drewN ?_ _ | refine blk_drew ?_ | refine blk_alloc ?_ _)); exact BK283.out) hb); have n3_ := Aside0.mk (below_step (by repeat (first | (with_reducible first | exact HB.out | apply below_alloc | apply pw_below_drewN | apply below_drew1 | refine below_set ?_ GE283.out) | exact HB.out)) hb); clear HO282; clear BK283; clear HB; have HO282 := n0_; have HO286 := n1_; have BK283 := n2_; have HB := n3_; clear n0_ n1_ n2_ n3_; (try clear hb); (try clear hb2); (try clear hk); (try clear hi); (try clear ho0); have hcz13_0 : w12.cell? ⟨gb283, 0, none⟩ = some (.int .i64 t279) := (blk_cell BK283.out 0).trans rfl; have hcz13_1 : w12.cell? ⟨gb283, 1, none⟩ = some (.slice Ao11 t280.length co11) := (blk_cell BK283.out 1).trans rfl; have hfz13_0 := blk_frozen BK283.out 0; have hfz13_1 := blk_frozen BK283.out 1; obtain ⟨Ao14, co14, eo14⟩ := Kd.R_slice HO286.out; subst eo14) | (go_at_call 11; (with_reducible refine (impl_IsTiming.calls t279 _ _ t280 _ _ t284 t287 _ ?side1 ?side2 ?side3 ?side4 A7.out).mono ?_); (case side1 => repeat (first | exact (Kd.R_reads' HO282.out).2.2 | (with_reducible refine Kd.C_alloc ?_ _) | (with_reducible refine Kd.C_drewN ?_ _) | (with_reducible refine Kd.C_drew ?_))); (case side2 => exact (Kd.R_reads' HO282.out).2.1); (case side3 => repeat (first | exact (Kd.R_reads' HO286.out).2.2 | (with_reducible refine Kd.C_alloc ?_ _) | (with_reducible refine Kd.C_drewN ?_ _) | (with_reducible refine Kd.C_drew ?_))); (case side4 => exact (Kd.R_reads' HO286.out).2.1); rintro e w15 ⟨rfl, hb⟩; have n0_ := Aside0.mk (Kd.R_below (by (with_reducible repeat (first | apply Kd.R_alloc | apply Kd.R_drewN | apply Kd.R_drew)); exact HO282.out) hb); have n1_ := Aside0.mk (Kd.R_below (by (with_reducible repeat (first | apply Kd.R_alloc | apply Kd.R_drewN | apply Kd.R_drew)); exact HO286.out) hb); have n2_ := Aside0.mk (blk_below (g := gb283) (o := .cells #[.int .i64 t279, .slice Ao11 t280.length co11] 26 (0, 0)) (by (with_reducible repeat (first | refine blk_drewN ?_ _ | refine blk_drew ?_ | refine blk_alloc ?_ _)); exact BK283.out) hb); have n3_ := Aside0.mk (below_step (by repeat (first | (with_reducible first | exact HB.out | apply below_alloc | apply pw_below_drewN | apply below_drew1 | refine below_set ?_ GE283.out) | exact HB.out)) hb); clear HO282; clear HO286; clear BK283; clear HB; have HO282 := n0_; have HO286 := n1_; have BK283 := n2_; have HB := n3_; clear n0_ n1_ n2_ n3_; (try clear hb); (try clear hb2); (try clear hk); (try clear hi))))
  go_loopg [9, 10] k (fun kq v9 v10 w' => ∃ (x9_1 : Bool) (x10_1 : Int), v9 = .bool x9_1 ∧ v10 = .int .i64 x10_1 ∧ Aside0 (laws_FnTimings.l0 kq l1 t279 t284 t287 x9_1 x10_1 t279 t280 = some r) ∧ Aside0 (kq ≤ k) ∧ Aside0 (Kd.R (Kd.int .i64) 2 w' w.heap.size (fun _ => True) (.slice Ao14 t284.length co14) t284) ∧ Aside0 (Kd.R k32 32 w' w.heap.size (fun _ => True) (.slice Ao11 t280.length co11) t280) ∧ Aside0 (w'.heap[gb283]? = some (.cells #[.int .i64 t279, (.slice Ao11 t280.length co11)] 26 (0, 0))) ∧ Aside0 (Below w.heap.size w w'))
  case atStart => exact ⟨(true), (0), (by first | rfl | (simp; done) | (simp [*]; done)), (by first | rfl | (simp; done) | (simp [*]; done)), H', ⟨Nat.le_refl _⟩, ⟨by (with_reducible repeat (first | apply Kd.R_alloc | apply Kd.R_drewN | apply Kd.R_drew)); exact HO286.out⟩, ⟨by (with_reducible repeat (first | apply Kd.R_alloc | apply Kd.R_drewN | apply Kd.R_drew)); exact HO282.out⟩, ⟨by (with_reducible repeat (first | refine blk_drewN ?_ _ | refine blk_drew ?_ | refine blk_alloc ?_ _)); exact BK283.out⟩, ⟨by repeat (first | (with_reducible first | exact HB.out | apply below_alloc | apply pw_below_drewN | apply below_drew1 | refine below_set ?_ GE283.out) | exact HB.out)⟩⟩
  case round =>
   clear H'
   try clear c1
   try clear p2
   try clear c3
   try clear c4
   try clear hcz10_0
   try clear hcz10_1
   try clear hcz13_0
   try clear hcz13_1
   try clear hfz10_0
   try clear hfz10_1
   try clear hfz13_0
   try clear hfz13_1
   obtain ⟨x9_1, x10_1, rfl, rfl, HA, HK1, HO_7, HO_284001, BK283, HB⟩ := hrel
   cases gk with
   | zero => exact absurd HA.out (by simp [laws_FnTimings.l0])
   | succ k1 =>
    have H := HA.out
    clear HA
    simp only [laws_FnTimings.l0] at H
    by_cases c16 : x10_1 < (t280.length : Int)
    ·rw [if_pos c16] at H
     have c16b0 : decide (x10_1 < (t280.length : Int)) = true := decide_eq_true c16
     clear c16
     by_cases c17 : x9_1 = true
     ·subst c17
      have H1 : (if 0 ≤ x10_1 then (if 0 ≤ ((rd_T32 t280 x10_1).f1) then (if ((rd_T32 t280 x10_1).f1) < (t284.length : Int) then (if 0 ≤ ((rd_T32 t280 x10_1).f0) then (if ((rd_T32 t280 x10_1).f0) < (t284.length : Int) then (laws_FnTimings.l0 k1 l1 t279 t284 t287 (decide ((wrap64 ((rd t284 ((rd_T32 t280 x10_1).f1)) - (rd t284 ((rd_T32 t280 x10_1).f0)))) ≤ ((rd_T32 t280 x10_1).f2))) (wrap64 (x10_1 + 1)) t279 t280) else (none)) else (none)) else (none)) else (none)) else (none)) = some r := by rw [if_pos rfl] at H; exact H
      clear H
      have H := H1
      clear H1
      by_cases c18 : 0 ≤ x10_1
      ·rw [if_pos c18] at H
       have c18b0 : decide (0 ≤ x10_1) = true := decide_eq_true c18
       clear c18
       by_cases c19 : 0 ≤ ((rd_T32 t280 x10_1).f1)
       ·rw [if_pos c19] at H
        have c19b0 : decide (0 ≤ ((rd_T32 t280 x10_1).f1)) = true := decide_eq_true c19
        clear c19
        by_cases c20 : ((rd_T32 t280 x10_1).f1) < (t284.length : Int)
        ·rw [if_pos c20] at H
         have c20b0 : decide (((rd_T32 t280 x10_1).f1) < (t284.length : Int)) = true := decide_eq_true c20
         clear c20
         by_cases c21 : 0 ≤ ((rd_T32 t280 x10_1).f0)
         ·rw [if_pos c21] at H
          have c21b0 : decide (0 ≤ ((rd_T32 t280 x10_1).f0)) = true := decide_eq_true c21
          clear c21
          by_cases c22 : ((rd_T32 t280 x10_1).f0) < (t284.length : Int)
          ·rw [if_pos c22] at H
           have c22b0 : decide (((rd_T32 t280 x10_1).f0) < (t284.length : Int)) = true := decide_eq_true c22
           clear c22
           have H' := Aside0.mk H
           clear H
           have hcz23_0 : wr.cell? ⟨gb283, 0, none⟩ = some (.int .i64 t279) := (blk_cell BK283.out 0).trans rfl
           have hcz23_1 : wr.cell? ⟨gb283, 1, none⟩ = some (.slice Ao11 t280.length co11) := (blk_cell BK283.out 1).trans rfl
           have hfz23_0 := blk_frozen BK283.out 0
           have hfz23_1 := blk_frozen BK283.out 1
           have p288 : 0 ≤ (x10_1 : Int) := of_decide_eq_true (by with_reducible assumption)
           have q288 : x10_1 < (t280.length : Int) := of_decide_eq_true (by with_reducible assumption)
           obtain ⟨ad288, e288, hx288_0, hx288_1, hx288_2⟩ := at_T32 (Kd.R_reads' HO_284001.out).2.2 x10_1 p288 q288
           cases e288
           replace p288 := eq_true p288
           replace q288 := eq_true q288
           have p289 : 0 ≤ (((rd_T32 t280 x10_1).f1) : Int) := of_decide_eq_true (by with_reducible assumption)
           have q289 : ((rd_T32 t280 x10_1).f1) < (t284.length : Int) := of_decide_eq_true (by with_reducible assumption)
           obtain ⟨ad289, e289, hx289_0⟩ := Kd.at_int (Kd.R_reads' HO_7.out).2.2 ((rd_T32 t280 x10_1).f1) p289 q289
           cases e289
           replace p289 := eq_true p289
           replace q289 := eq_true q289
           have p290 : 0 ≤ (x10_1 : Int) := of_decide_eq_true (by with_reducible assumption)
           have q290 : x10_1 < (t280.length : Int) := of_decide_eq_true (by with_reducible assumption)
           obtain ⟨ad290, e290, hx290_0, hx290_1, hx290_2⟩ := at_T32 (Kd.R_reads' HO_284001.out).2.2 x10_1 p290 q290
           obtain rfl : ad288 = ad290 := (by injection e290)
           replace p290 := eq_true p290
           replace q290 := eq_true q290
           have p291 : 0 ≤ (((rd_T32 t280 x10_1).f0) : Int) := of_decide_eq_true (by with_reducible assumption)
           have q291 : ((rd_T32 t280 x10_1).f0) < (t284.length : Int) := of_decide_eq_true (by with_reducible assumption)
           obtain ⟨ad291, e291, hx291_0⟩ := Kd.at_int (Kd.R_reads' HO_7.out).2.2 ((rd_T32 t280 x10_1).f0) p291 q291
           obtain rfl : ad289 = ad291 := (by injection e291)
           replace p291 := eq_true p291
           replace q291 := eq_true q291
           have p292 : 0 ≤ (x10_1 : Int) := of_decide_eq_true (by with_reducible assumption)
           have q292 : x10_1 < (t280.length : Int) := of_decide_eq_true (by with_reducible assumption)
           obtain ⟨ad292, e292, hx292_0, hx292_1, hx292_2⟩ := at_T32 (Kd.R_reads' HO_284001.out).2.2 x10_1 p292 q292
           obtain rfl : ad288 = ad292 := (by injection e292)
           replace p292 := eq_true p292
           replace q292 := eq_true q292
           go_wp2
           repeat (go_quiet (fail); try go_wp2)
           go_roundg k1
           case measure => have := HK1.out; omega
           case rel => exact ⟨(decide ((wrap64 ((rd t284 ((rd_T32 t280 x10_1).f1)) - (rd t284 ((rd_T32 t280 x10_1).f0)))) ≤ ((rd_T32 t280 x10_1).f2))), (wrap64 (x10_1 + 1)), (by first | rfl | (simp; done) | (simp [*]; done)), (by first | rfl | (simp; done) | (simp [*]; done)), H', ⟨by have := HK1.out; omega⟩, ⟨by (with_reducible repeat (first | apply Kd.R_alloc | apply Kd.R_drewN | apply Kd.R_drew)); exact HO_7.out⟩, ⟨by (with_reducible repeat (first | apply Kd.R_alloc | apply Kd.R_drewN | apply Kd.R_drew)); exact HO_284001.out⟩, ⟨by (with_reducible repeat (first | refine blk_drewN ?_ _ | refine blk_drew ?_ | refine blk_alloc ?_ _)); exact BK283.out⟩, ⟨by repeat (first | (with_reducible first | exact HB.out | apply below_alloc | apply pw_below_drewN | apply below_drew1 | refine below_set ?_ GE283.out) | exact HB.out)⟩⟩
          ·rw [if_neg c22] at H
           exact absurd H (by simp)
         ·rw [if_neg c21] at H
          exact absurd H (by simp)
        ·rw [if_neg c20] at H
         exact absurd H (by simp)
       ·rw [if_neg c19] at H
        exact absurd H (by simp)
      ·rw [if_neg c18] at H
       exact absurd H (by simp)
     ·replace c17 := Bool.eq_false_iff.mpr c17
      subst c17
      have H1 : (laws_FnTimings.l0 k1 l1 t279 t284 t287 false (wrap64 (x10_1 + 1)) t279 t280) = some r := by rw [if_neg (show ¬ (false = true) by decide)] at H; exact H
      clear H
      have H := H1
      clear H1
      have H' := Aside0.mk H
      clear H
      have hcz24_0 : wr.cell? ⟨gb283, 0, none⟩ = some (.int .i64 t279) := (blk_cell BK283.out 0).trans rfl
      have hcz24_1 : wr.cell? ⟨gb283, 1, none⟩ = some (.slice Ao11 t280.length co11) := (blk_cell BK283.out 1).trans rfl
      have hfz24_0 := blk_frozen BK283.out 0
      have hfz24_1 := blk_frozen BK283.out 1
      go_wp2
      repeat (go_quiet (fail); try go_wp2)
      go_roundg k1
      case measure => have := HK1.out; omega
      case rel => exact ⟨(false), (wrap64 (x10_1 + 1)), (by first | rfl | (simp; done) | (simp [*]; done)), (by first | rfl | (simp; done) | (simp [*]; done)), H', ⟨by have := HK1.out; omega⟩, ⟨by (with_reducible repeat (first | apply Kd.R_alloc | apply Kd.R_drewN | apply Kd.R_drew)); exact HO_7.out⟩, ⟨by (with_reducible repeat (first | apply Kd.R_alloc | apply Kd.R_drewN | apply Kd.R_drew)); exact HO_284001.out⟩, ⟨by (with_reducible repeat (first | refine blk_drewN ?_ _ | refine blk_drew ?_ | refine blk_alloc ?_ _)); exact BK283.out⟩, ⟨by repeat (first | (with_reducible first | exact HB.out | apply below_alloc | apply pw_below_drewN | apply below_drew1 | refine below_set ?_ GE283.out) | exact HB.out)⟩⟩
    ·rw [if_neg c16] at H
     have c16b0 : decide (x10_1 < (t280.length : Int)) = false := decide_eq_false c16
     clear c16
     by_cases c25 : (t287 != x9_1) = true
     ·rw [if_pos c25] at H
      have c25b0 : (t287 != x9_1) = true := c25
      (try (have c25b1 : decide (t287 = x9_1) = false := by simpa using c25))
      (try (have c25b2 : (t287 == x9_1) = false := by simpa using c25))
      (try (have c25b3 : ¬ (t287 = x9_1) := by simpa using c25))
      clear c25
      obtain rfl := Option.some.inj H
      have hcz26_0 : wr.cell? ⟨gb283, 0, none⟩ = some (.int .i64 t279) := (blk_cell BK283.out 0).trans rfl
      have hcz26_1 : wr.cell? ⟨gb283, 1, none⟩ = some (.slice Ao11 t280.length co11) := (blk_cell BK283.out 1).trans rfl
      have hfz26_0 := blk_frozen BK283.out 0
      have hfz26_1 := blk_frozen BK283.out 1
      go_wp2
      repeat (go_quiet (fail); try go_wp2)
      go_ret
      exact ⟨by first | rfl | (simp [errW_none, errW_some] <;> rfl) | (simp [*, errW_none, errW_some] <;> rfl), by repeat (first | (with_reducible first | exact HB.out | apply below_alloc | apply pw_below_drewN | apply below_drew1 | refine below_set ?_ GE283.out) | exact HB.out)⟩
     ·rw [if_neg c25] at H
      have c25b0 : (t287 != x9_1) = false := by simpa using c25
      (try (have c25b1 : decide (t287 = x9_1) = true := by simpa using c25))
      (try (have c25b2 : (t287 == x9_1) = true := by simpa using c25))
      clear c25
      replace H := Option.bind_eq_some_iff.mp H
      obtain ⟨t293, A270, H⟩ := H
      replace H : ((laws_r8At.f l1 41 t279).bind fun t294 => ((impl_EarliestTimes.f k1 t279 t280 t293).bind fun bt295 => ((impl_LatestTimes.f k1 t279 t280 t293).bind fun bt299 => ((impl_GapOf.f k1 t279 t280 t293 t294).bind fun bt303 => (if bt295.2 = true then ((impl_IsTiming.f t279 t280 bt295.1).bind fun t306 => (if t306 = true then (if 0 ≤ t293 then (if t293 < (bt295.1.length : Int) then (if (rd bt295.1 t293) = 0 then (if bt299.2 = true then ((impl_IsTiming.f t279 t280 bt299.1).bind fun t308 => (if t308 = true then (if t293 < (bt299.1.length : Int) then (if (rd bt299.1 t293) = 0 then (if bt303.2.2 = true then (laws_FnTimings.j1 k1 t279 t284 t287 t293 t294 bt295.1 bt295.2 bt299.1 bt299.2 bt303.1 bt303.2.1 bt303.2.2 (decide (bt303.1 > bt303.2.1))) else (laws_FnTimings.j1 k1 t279 t284 t287 t293 t294 bt295.1 bt295.2 bt299.1 bt299.2 bt303.1 bt303.2.1 bt303.2.2 false)) else (laws_FnTimings.j1 k1 t279 t284 t287 t293 t294 bt295.1 bt295.2 bt299.1 bt299.2 bt303.1 bt303.2.1 bt303.2.2 true)) else (none)) else (laws_FnTimings.j1 k1 t279 t284 t287 t293 t294 bt295.1 bt295.2 bt299.1 bt299.2 bt303.1 bt303.2.1 bt303.2.2 true))) else (if bt303.2.2 = true then (laws_FnTimings.j1 k1 t279 t284 t287 t293 t294 bt295.1 bt295.2 bt299.1 bt299.2 bt303.1 bt303.2.1 bt303.2.2 (decide (bt303.1 > bt303.2.1))) else (laws_FnTimings.j1 k1 t279 t284 t287 t293 t294 bt295.1 bt295.2 bt299.1 bt299.2 bt303.1 bt303.2.1 bt303.2.2 false))) else (laws_FnTimings.j1 k1 t279 t284 t287 t293 t294 bt295.1 bt295.2 bt299.1 bt299.2 bt303.1 bt303.2.1 bt303.2.2 true)) else (none)) else (none)) else (laws_FnTimings.j1 k1 t279 t284 t287 t293 t294 bt295.1 bt295.2 bt299.1 bt299.2 bt303.1 bt303.2.1 bt303.2.2 true))) else (if bt299.2 = true then ((impl_IsTiming.f t279 t280 bt299.1).bind fun t310 => (if t310 = true then (if 0 ≤ t293 then (if t293 < (bt299.1.length : Int) then (if (rd bt299.1 t293) = 0 then (if bt303.2.2 = true then (laws_FnTimings.j1 k1 t279 t284 t287 t293 t294 bt295.1 bt295.2 bt299.1 bt299.2 bt303.1 bt303.2.1 bt303.2.2 (decide (bt303.1 > bt303.2.1))) else (laws_FnTimings.j1 k1 t279 t284 t287 t293 t294 bt295.1 bt295.2 bt299.1 bt299.2 bt303.1 bt303.2.1 bt303.2.2 false)) else (laws_FnTimings.j1 k1 t279 t284 t287 t293 t294 bt295.1 bt295.2 bt299.1 bt299.2 bt303.1 bt303.2.1 bt303.2.2 true)) else (none)) else (none)) else (laws_FnTimings.j1 k1 t279 t284 t287 t293 t294 bt295.1 bt295.2 bt299.1 bt299.2 bt303.1 bt303.2.1 bt303.2.2 true))) else (if bt303.2.2 = true then (laws_FnTimings.j1 k1 t279 t284 t287 t293 t294 bt295.1 bt295.2 bt299.1 bt299.2 bt303.1 bt303.2.1 bt303.2.2 (decide (bt303.1 > bt303.2.1))) else (laws_FnTimings.j1 k1 t279 t284 t287 t293 t294 bt295.1 bt295.2 bt299.1 bt299.2 bt303.1 bt303.2.1 bt303.2.2 false)))))))) = some r := H
      have A27 := Aside0.mk A270
      clear A270
      replace H := Option.bind_eq_some_iff.mp H
      obtain ⟨t294, A280, H⟩ := H
      replace H : ((impl_EarliestTimes.f k1 t279 t280 t293).bind fun bt295 => ((impl_LatestTimes.f k1 t279 t280 t293).bind fun bt299 => ((impl_GapOf.f k1 t279 t280 t293 t294).bind fun bt303 => (if bt295.2 = true then ((impl_IsTiming.f t279 t280 bt295.1).bind fun t306 => (if t306 = true then (if 0 ≤ t293 then (if t293 < (bt295.1.length : Int) then (if (rd bt295.1 t293) = 0 then (if bt299.2 = true then ((impl_IsTiming.f t279 t280 bt299.1).bind fun t308 => (if t308 = true then (if t293 < (bt299.1.length : Int) then (if (rd bt299.1 t293) = 0 then (if bt303.2.2 = true then (laws_FnTimings.j1 k1 t279 t284 t287 t293 t294 bt295.1 bt295.2 bt299.1 bt299.2 bt303.1 bt303.2.1 bt303.2.2 (decide (bt303.1 > bt303.2.1))) else (laws_FnTimings.j1 k1 t279 t284 t287 t293 t294 bt295.1 bt295.2 bt299.1 bt299.2 bt303.1 bt303.2.1 bt303.2.2 false)) else (laws_FnTimings.j1 k1 t279 t284 t287 t293 t294 bt295.1 bt295.2 bt299.1 bt299.2 bt303.1 bt303.2.1 bt303.2.2 true)) else (none)) else (laws_FnTimings.j1 k1 t279 t284 t287 t293 t294 bt295.1 bt295.2 bt299.1 bt299.2 bt303.1 bt303.2.1 bt303.2.2 true))) else (if bt303.2.2 = true then (laws_FnTimings.j1 k1 t279 t284 t287 t293 t294 bt295.1 bt295.2 bt299.1 bt299.2 bt303.1 bt303.2.1 bt303.2.2 (decide (bt303.1 > bt303.2.1))) else (laws_FnTimings.j1 k1 t279 t284 t287 t293 t294 bt295.1 bt295.2 bt299.1 bt299.2 bt303.1 bt303.2.1 bt303.2.2 false))) else (laws_FnTimings.j1 k1 t279 t284 t287 t293 t294 bt295.1 bt295.2 bt299.1 bt299.2 bt303.1 bt303.2.1 bt303.2.2 true)) else (none)) else (none)) else (laws_FnTimings.j1 k1 t279 t284 t287 t293 t294 bt295.1 bt295.2 bt299.1 bt299.2 bt303.1 bt303.2.1 bt303.2.2 true))) else (if bt299.2 = true then ((impl_IsTiming.f t279 t280 bt299.1).bind fun t310 => (if t310 = true then (if 0 ≤ t293 then (if t293 < (bt299.1.length : Int) then (if (rd bt299.1 t293) = 0 then (if bt303.2.2 = true then (laws_FnTimings.j1 k1 t279 t284 t287 t293 t294 bt295.1 bt295.2 bt299.1 bt299.2 bt303.1 bt303.2.1 bt303.2.2 (decide (bt303.1 > bt303.2.1))) else (laws_FnTimings.j1 k1 t279 t284 t287 t293 t294 bt295.1 bt295.2 bt299.1 bt299.2 bt303.1 bt303.2.1 bt303.2.2 false)) else (laws_FnTimings.j1 k1 t279 t284 t287 t293 t294 bt295.1 bt295.2 bt299.1 bt299.2 bt303.1 bt303.2.1 bt303.2.2 true)) else (none)) else (none)) else (laws_FnTimings.j1 k1 t279 t284 t287 t293 t294 bt295.1 bt295.2 bt299.1 bt299.2 bt303.1 bt303.2.1 bt303.2.2 true))) else (if bt303.2.2 = true then (laws_FnTimings.j1 k1 t279 t284 t287 t293 t294 bt295.1 bt295.2 bt299.1 bt299.2 bt303.1 bt303.2.1 bt303.2.2 (decide (bt303.1 > bt303.2.1))) else (laws_FnTimings.j1 k1 t279 t284 t287 t293 t294 bt295.1 bt295.2 bt299.1 bt299.2 bt303.1 bt303.2.1 bt303.2.2 false))))))) = some r := H
      have A28 := Aside0.mk A280
      clear A280
      replace H := Option.bind_eq_some_iff.mp H
      obtain ⟨⟨t295, t298⟩, A290, H⟩ := H
      replace H : ((impl_LatestTimes.f k1 t279 t280 t293).bind fun bt299 => ((impl_GapOf.f k1 t279 t280 t293 t294).bind fun bt303 => (if t298 = true then ((impl_IsTiming.f t279 t280 t295).bind fun t306 => (if t306 = true then (if 0 ≤ t293 then (if t293 < (t295.length : Int) then (if (rd t295 t293) = 0 then (if bt299.2 = true then ((impl_IsTiming.f t279 t280 bt299.1).bind fun t308 => (if t308 = true then (if t293 < (bt299.1.length : Int) then (if (rd bt299.1 t293) = 0 then (if bt303.2.2 = true then (laws_FnTimings.j1 k1 t279 t284 t287 t293 t294 t295 t298 bt299.1 bt299.2 bt303.1 bt303.2.1 bt303.2.2 (decide (bt303.1 > bt303.2.1))) else (laws_FnTimings.j1 k1 t279 t284 t287 t293 t294 t295 t298 bt299.1 bt299.2 bt303.1 bt303.2.1 bt303.2.2 false)) else (laws_FnTimings.j1 k1 t279 t284 t287 t293 t294 t295 t298 bt299.1 bt299.2 bt303.1 bt303.2.1 bt303.2.2 true)) else (none)) else (laws_FnTimings.j1 k1 t279 t284 t287 t293 t294 t295 t298 bt299.1 bt299.2 bt303.1 bt303.2.1 bt303.2.2 true))) else (if bt303.2.2 = true then (laws_FnTimings.j1 k1 t279 t284 t287 t293 t294 t295 t298 bt299.1 bt299.2 bt303.1 bt303.2.1 bt303.2.2 (decide (bt303.1 > bt303.2.1))) else (laws_FnTimings.j1 k1 t279 t284 t287 t293 t294 t295 t298 bt299.1 bt299.2 bt303.1 bt303.2.1 bt303.2.2 false))) else (laws_FnTimings.j1 k1 t279 t284 t287 t293 t294 t295 t298 bt299.1 bt299.2 bt303.1 bt303.2.1 bt303.2.2 true)) else (none)) else (none)) else (laws_FnTimings.j1 k1 t279 t284 t287 t293 t294 t295 t298 bt299.1 bt299.2 bt303.1 bt303.2.1 bt303.2.2 true))) else (if bt299.2 = true then ((impl_IsTiming.f t279 t280 bt299.1).bind fun t310 => (if t310 = true then (if 0 ≤ t293 then (if t293 < (bt299.1.length : Int) then (if (rd bt299.1 t293) = 0 then (if bt303.2.2 = true then (laws_FnTimings.j1 k1 t279 t284 t287 t293 t294 t295 t298 bt299.1 bt299.2 bt303.1 bt303.2.1 bt303.2.2 (decide (bt303.1 > bt303.2.1))) else (laws_FnTimings.j1 k1 t279 t284 t287 t293 t294 t295 t298 bt299.1 bt299.2 bt303.1 bt303.2.1 bt303.2.2 false)) else (laws_FnTimings.j1 k1 t279 t284 t287 t293 t294 t295 t298 bt299.1 bt299.2 bt303.1 bt303.2.1 bt303.2.2 true)) else (none)) else (none)) else (laws_FnTimings.j1 k1 t279 t284 t287 t293 t294 t295 t298 bt299.1 bt299.2 bt303.1 bt303.2.1 bt303.2.2 true))) else (if bt303.2.2 = true then (laws_FnTimings.j1 k1 t279 t284 t287 t293 t294 t295 t298 bt299.1 bt299.2 bt303.1 bt303.2.1 bt303.2.2 (decide (bt303.1 > bt303.2.1))) else (laws_FnTimings.j1 k1 t279 t284 t287 t293 t294 t295 t298 bt299.1 bt299.2 bt303.1 bt303.2.1 bt303.2.2 false)))))) = some r := H
      have A29 := Aside0.mk A290
      clear A290
      replace H := Option.bind_eq_some_iff.mp H
      obtain ⟨⟨t299, t302⟩, A300, H⟩ := H
      replace H : ((impl_GapOf.f k1 t279 t280 t293 t294).bind fun bt303 => (if t298 = true then ((impl_IsTiming.f t279 t280 t295).bind fun t306 => (if t306 = true then (if 0 ≤ t293 then (if t293 < (t295.length : Int) then (if (rd t295 t293) = 0 then (if t302 = true then ((impl_IsTiming.f t279 t280 t299).bind fun t308 => (if t308 = true then (if t293 < (t299.length : Int) then (if (rd t299 t293) = 0 then (if bt303.2.2 = true then (laws_FnTimings.j1 k1 t279 t284 t287 t293 t294 t295 t298 t299 t302 bt303.1 bt303.2.1 bt303.2.2 (decide (bt303.1 > bt303.2.1))) else (laws_FnTimings.j1 k1 t279 t284 t287 t293 t294 t295 t298 t299 t302 bt303.1 bt303.2.1 bt303.2.2 false)) else (laws_FnTimings.j1 k1 t279 t284 t287 t293 t294 t295 t298 t299 t302 bt303.1 bt303.2.1 bt303.2.2 true)) else (none)) else (laws_FnTimings.j1 k1 t279 t284 t287 t293 t294 t295 t298 t299 t302 bt303.1 bt303.2.1 bt303.2.2 true))) else (if bt303.2.2 = true then (laws_FnTimings.j1 k1 t279 t284 t287 t293 t294 t295 t298 t299 t302 bt303.1 bt303.2.1 bt303.2.2 (decide (bt303.1 > bt303.2.1))) else (laws_FnTimings.j1 k1 t279 t284 t287 t293 t294 t295 t298 t299 t302 bt303.1 bt303.2.1 bt303.2.2 false))) else (laws_FnTimings.j1 k1 t279 t284 t287 t293 t294 t295 t298 t299 t302 bt303.1 bt303.2.1 bt303.2.2 true)) else (none)) else (none)) else (laws_FnTimings.j1 k1 t279 t284 t287 t293 t294 t295 t298 t299 t302 bt303.1 bt303.2.1 bt303.2.2 true))) else (if t302 = true then ((impl_IsTiming.f t279 t280 t299).bind fun t310 => (if t310 = true then (if 0 ≤ t293 then (if t293 < (t299.length : Int) then (if (rd t299 t293) = 0 then (if bt303.2.2 = true then (laws_FnTimings.j1 k1 t279 t284 t287 t293 t294 t295 t298 t299 t302 bt303.1 bt303.2.1 bt303.2.2 (decide (bt303.1 > bt303.2.1))) else (laws_FnTimings.j1 k1 t279 t284 t287 t293 t294 t295 t298 t299 t302 bt303.1 bt303.2.1 bt303.2.2 false)) else (laws_FnTimings.j1 k1 t279 t284 t287 t293 t294 t295 t298 t299 t302 bt303.1 bt303.2.1 bt303.2.2 true)) else (none)) else (none)) else (laws_FnTimings.j1 k1 t279 t284 t287 t293 t294 t295 t298 t299 t302 bt303.1 bt303.2.1 bt303.2.2 true))) else (if bt303.2.2 = true then (laws_FnTimings.j1 k1 t279 t284 t287 t293 t294 t295 t298 t299 t302 bt303.1 bt303.2.1 bt303.2.2 (decide (bt303.1 > bt303.2.1))) else (laws_FnTimings.j1 k1 t279 t284 t287 t293 t294 t295 t298 t299 t302 bt303.1 bt303.2.1 bt303.2.2 false))))) = some r := H
      have A30 := Aside0.mk A300
      clear A300
      replace H := Option.bind_eq_some_iff.mp H
      obtain ⟨⟨t303, t304, t305⟩, A310, H⟩ := H
      replace H : (if t298 = true then ((impl_IsTiming.f t279 t280 t295).bind fun t306 => (if t306 = true then (if 0 ≤ t293 then (if t293 < (t295.length : Int) then (if (rd t295 t293) = 0 then (if t302 = true then ((impl_IsTiming.f t279 t280 t299).bind fun t308 => (if t308 = true then (if t293 < (t299.length : Int) then (if (rd t299 t293) = 0 then (if t305 = true then (laws_FnTimings.j1 k1 t279 t284 t287 t293 t294 t295 t298 t299 t302 t303 t304 t305 (decide (t303 > t304))) else (laws_FnTimings.j1 k1 t279 t284 t287 t293 t294 t295 t298 t299 t302 t303 t304 t305 false)) else (laws_FnTimings.j1 k1 t279 t284 t287 t293 t294 t295 t298 t299 t302 t303 t304 t305 true)) else (none)) else (laws_FnTimings.j1 k1 t279 t284 t287 t293 t294 t295 t298 t299 t302 t303 t304 t305 true))) else (if t305 = true then (laws_FnTimings.j1 k1 t279 t284 t287 t293 t294 t295 t298 t299 t302 t303 t304 t305 (decide (t303 > t304))) else (laws_FnTimings.j1 k1 t279 t284 t287 t293 t294 t295 t298 t299 t302 t303 t304 t305 false))) else (laws_FnTimings.j1 k1 t279 t284 t287 t293 t294 t295 t298 t299 t302 t303 t304 t305 true)) else (none)) else (none)) else (laws_FnTimings.j1 k1 t279 t284 t287 t293 t294 t295 t298 t299 t302 t303 t304 t305 true))) else (if t302 = true then ((impl_IsTiming.f t279 t280 t299).bind fun t310 => (if t310 = true then (if 0 ≤ t293 then (if t293 < (t299.length : Int) then (if (rd t299 t293) = 0 then (if t305 = true then (laws_FnTimings.j1 k1 t279 t284 t287 t293 t294 t295 t298 t299 t302 t303 t304 t305 (decide (t303 > t304))) else (laws_FnTimings.j1 k1 t279 t284 t287 t293 t294 t295 t298 t299 t302 t303 t304 t305 false)) else (laws_FnTimings.j1 k1 t279 t284 t287 t293 t294 t295 t298 t299 t302 t303 t304 t305 true)) else (none)) else (none)) else (laws_FnTimings.j1 k1 t279 t284 t287 t293 t294 t295 t298 t299 t302 t303 t304 t305 true))) else (if t305 = true then (laws_FnTimings.j1 k1 t279 t284 t287 t293 t294 t295 t298 t299 t302 t303 t304 t305 (decide (t303 > t304))) else (laws_FnTimings.j1 k1 t279 t284 t287 t293 t294 t295 t298 t299 t302 t303 t304 t305 false)))) = some r := H
      have A31 := Aside0.mk A310
      clear A310
      have HC32 := Aside0.mk H
      clear H
      have hcz33_0 : wr.cell? ⟨gb283, 0, none⟩ = some (.int .i64 t279) := (blk_cell BK283.out 0).trans rfl
      have hcz33_1 : wr.cell? ⟨gb283, 1, none⟩ = some (.slice Ao11 t280.length co11) := (blk_cell BK283.out 1).trans rfl
      have hfz33_0 := blk_frozen BK283.out 0
      have hfz33_1 := blk_frozen BK283.out 1
      go_upto_region 19 with (first | (go_at_call 12; (with_reducible refine (laws_r8At.calls _ _ l1 40 t279 t293 _ ?side1 ?side2 A27.out).mono ?_); (case side1 => repeat (first | exact (Kd.C_below HR1.out HB.out) | (with_reducible refine Kd.C_alloc ?_ _) | (with_reducible refine Kd.C_drewN ?_ _) | (with_reducible refine Kd.C_drew ?_))); (case side2 => exact HC1.out); rintro e w' ⟨rfl, ⟨nd, rfl⟩⟩; (try first | exact ⟨rfl, _, World.drewN_drewN _ _ _⟩ | exact ⟨rfl, _, Eq.trans (World.drewN_drewN _ _ _) (congrArg (World.drewN _) (Nat.add_assoc _ _ _))⟩)) | (go_at_call 12; (with_reducible refine (laws_r8At.calls _ _ l1 41 t279 t294 _ ?side1 ?side2 A28.out).mono ?_); (case side1 => repeat (first | exact (Kd.C_below HR1.out (by repeat (first | (with_reducible first | exact HB.out | apply below_alloc | apply pw_below_drewN | apply below_drew1 | refine below_set ?_ GE283.out) | exact HB.out))) | (with_reducible refine Kd.C_alloc ?_ _) | (with_reducible refine Kd.C_drewN ?_ _) | (with_reducible refine Kd.C_drew ?_))); (case side2 => exact HC1.out); rintro e w' ⟨rfl, ⟨nd, rfl⟩⟩; (try first | exact ⟨rfl, _, World.drewN_drewN _ _ _⟩ | exact ⟨rfl, _, Eq.trans (World.drewN_drewN _ _ _) (congrArg (World.drewN _) (Nat.add_assoc _ _ _))⟩)) | (go_at_call 13; (with_reducible refine (impl_EarliestTimes.calls k1 t279 _ _ t280 t293 t295 t298 _ ?side1 ?side2 A29.out).mono ?_); (case side1 => repeat (first | exact (Kd.R_reads' HO_284001.out).2.2 | (with_reducible refine Kd.C_alloc ?_ _) | (with_reducible refine Kd.C_drewN ?_ _) | (with_reducible refine Kd.C_drew ?_))); (case side2 => exact (Kd.R_reads' HO_284001.out).2.1); rintro e w34 ⟨v296, rfl, ho0, hb⟩; have n0_ := Aside0.mk (Kd.R_elder' (by (with_reducible repeat (first | apply Kd.R_alloc | apply Kd.R_drewN | apply Kd.R_drew)); exact HO_7.out) (Kd.R_base ho0) hb); have n1_ := Aside0.mk (Kd.R_below (by (with_reducible repeat (first | apply Kd.R_alloc | apply Kd.R_drewN | apply Kd.R_drew)); exact HO_284001.out) hb); have n2_ := Aside0.mk (Kd.R_lower (Kd.R_new' ho0 (Kd.R_lt (by (with_reducible repeat (first | apply Kd.R_alloc | apply Kd.R_drewN | apply Kd.R_drew)); exact HO_7.out))) (below_size (by repeat (first | (with_reducible first | exact HB.out | apply below_alloc | apply pw_below_drewN | apply below_drew1 | refine below_set ?_ GE283.out) | exact HB.out)))); have n3_ := Aside0.mk (blk_below (g := gb283) (o := .cells #[.int .i64 t279, .slice Ao11 t280.length co11] 26 (0, 0)) (by (with_reducible repeat (first | refine blk_drewN ?_ _ | refine blk_drew ?_ | refine blk_alloc ?_ _)); exact BK283.out) hb); have n4_ := Aside0.mk (below_step (by repeat (first | (with_reducible first | exact HB.out | apply below_alloc | apply pw_below_drewN | apply below_drew1 | refine below_set ?_ GE283.out) | exact HB.out)) hb); clear HO_7; clear HO_284001; clear BK283; clear HB; have HO_7 := n0_; have HO_284001 := n1_; have HO297 := n2_; have BK283 := n3_; have HB := n4_; clear n0_ n1_ n2_ n3_ n4_; (try clear hb); (try clear hb2); (try clear hk); (try clear hi); (try clear ho0); have hcz35_0 : w34.cell? ⟨gb283, 0, none⟩ = some (.int .i64 t279) := (blk_cell BK283.out 0).trans rfl; have hcz35_1 : w34.cell? ⟨gb283, 1, none⟩ = some (.slice Ao11 t280.length co11) := (blk_cell BK283.out 1).trans rfl; have hfz35_0 := blk_frozen BK283.out 0; have hfz35_1 := blk_frozen BK283.out 1) | (go_at_call 14; (with_reducible refine (impl_LatestTimes.calls k1 t279 _ _ t280 t293 t299 t302 _ ?side1 ?side2 A30.out).mono ?_); (case side1 => repeat (first | exact (Kd.R_reads' HO_284001.out).2.2 | (with_reducible refine Kd.C_alloc ?_ _) | (with_reducible refine Kd.C_drewN ?_ _) | (with_reducible refine Kd.C_drew ?_))); (case side2 => exact (Kd.R_reads' HO_284001.out).2.1); rintro e w36 ⟨v300, rfl, ho0, hb⟩; have n0_ := Aside0.mk (Kd.R_elder' (by (with_reducible repeat (first | apply Kd.R_alloc | apply Kd.R_drewN | apply Kd.R_drew)); exact HO_7.out) (Kd.R_base ho0) hb); have n1_ := Aside0.mk (Kd.R_below (by (with_reducible repeat (first | apply Kd.R_alloc | apply Kd.R_drewN | apply Kd.R_drew)); exact HO_284001.out) hb); have n2_ := Aside0.mk (Kd.R_elder' (by (with_reducible repeat (first | apply Kd.R_alloc | apply Kd.R_drewN | apply Kd.R_drew)); exact HO297.out) (Kd.R_base ho0) hb); have n3_ := Aside0.mk (Kd.R_lower (Kd.R_new' (Kd.R_new' ho0 (Kd.R_lt (by (with_reducible repeat (first | apply Kd.R_alloc | apply Kd.R_drewN | apply Kd.R_drew)); exact HO_7.out))) (Kd.R_lt (by (with_reducible repeat (first | apply Kd.R_alloc | apply Kd.R_drewN | apply Kd.R_drew)); exact HO297.out))) (below_size (by repeat (first | (with_reducible first | exact HB.out | apply below_alloc | apply pw_below_drewN | apply below_drew1 | refine below_set ?_ GE283.out) | exact HB.out)))); have n4_ := Aside0.mk (blk_below (g := gb283) (o := .cells #[.int .i64 t279, .slice Ao11 t280.length co11] 26 (0, 0)) (by (with_reducible repeat (first | refine blk_drewN ?_ _ | refine blk_drew ?_ | refine blk_alloc ?_ _)); exact BK283.out) hb); have n5_ := Aside0.mk (below_step (by repeat (first | (with_reducible first | exact HB.out | apply below_alloc | apply pw_below_drewN | apply below_drew1 | refine below_set ?_ GE283.out) | exact HB.out)) hb); clear HO_7; clear HO_284001; clear HO297; clear BK283; clear HB; have HO_7 := n0_; have HO_284001 := n1_; have HO297 := n2_; have HO301 := n3_; have BK283 := n4_; have HB := n5_; clear n0_ n1_ n2_ n3_ n4_ n5_; (try clear hb); (try clear hb2); (try clear hk); (try clear hi); (try clear ho0); have hcz37_0 : w36.cell? ⟨gb283, 0, none⟩ = some (.int .i64 t279) := (blk_cell BK283.out 0).trans rfl; have hcz37_1 : w36.cell? ⟨gb283, 1, none⟩ = some (.slice Ao11 t280.length co11) := (blk_cell BK283.out 1).trans rfl; have hfz37_0 := blk_frozen BK283.out 0; have hfz37_1 := blk_frozen BK283.out 1) | (go_at_call 15; (with_reducible refine (impl_GapOf.calls k1 t279 _ _ t280 t293 t294 t303 t304 t305 _ ?side1 ?side2 A31.out).mono ?_); (case side1 => repeat (first | exact (Kd.R_reads' HO_284001.out).2.2 | (with_reducible refine Kd.C_alloc ?_ _) | (with_reducible refine Kd.C_drewN ?_ _) | (with_reducible refine Kd.C_drew ?_))); (case side2 => exact (Kd.R_reads' HO_284001.out).2.1); rintro e w38 ⟨rfl, hb⟩; have n0_ := Aside0.mk (Kd.R_below (by (with_reducible repeat (first | apply Kd.R_alloc | apply Kd.R_drewN | apply Kd.R_drew)); exact HO_7.out) hb); have n1_ := Aside0.mk (Kd.R_below (by (with_reducible repeat (first | apply Kd.R_alloc | apply Kd.R_drewN | apply Kd.R_drew)); exact HO_284001.out) hb); have n2_ := Aside0.mk (Kd.R_below (by (with_reducible repeat (first | apply Kd.R_alloc | apply Kd.R_drewN | apply Kd.R_drew)); exact HO297.out) hb); have n3_ := Aside0.mk (Kd.R_below (by (with_reducible repeat (first | apply Kd.R_alloc | apply Kd.R_drewN | apply Kd.R_drew)); exact HO301.out) hb); have n4_ := Aside0.mk (blk_below (g := gb283) (o := .cells #[.int .i64 t279, .slice Ao11 t280.length co11] 26 (0, 0)) (by (with_reducible repeat (first | refine blk_drewN ?_ _ | refine blk_drew ?_ | refine blk_alloc ?_ _)); exact BK283.out) hb); have n5_ := Aside0.mk (below_step (by repeat (first | (with_reducible first | exact HB.out | apply below_alloc | apply pw_below_drewN | apply below_drew1 | refine below_set ?_ GE283.out) | exact HB.out)) hb); clear HO_7; clear HO_284001; clear HO297; clear HO301; clear BK283; clear HB; have HO_7 := n0_; have HO_284001 := n1_; have HO297 := n2_; have HO301 := n3_; have BK283 := n4_; have HB := n5_; clear n0_ n1_ n2_ n3_ n4_ n5_; (try clear hb); (try clear hb2); (try clear hk); (try clear hi)))
      repeat (go_quiet (first | (go_at_call 12; (with_reducible refine (laws_r8At.calls _ _ l1 40 t279 t293 _ ?side1 ?side2 A27.out).mono ?_); (case side1 => repeat (first | exact (Kd.C_below HR1.out HB.out) | (with_reducible refine Kd.C_alloc ?_ _) | (with_reducible refine Kd.C_drewN ?_ _) | (with_reducible refine Kd.C_drew ?_))); (case side2 => exact HC1.out); rintro e w' ⟨rfl, ⟨nd, rfl⟩⟩; (try first | exact ⟨rfl, _, World.drewN_drewN _ _ _⟩ | exact ⟨rfl, _, Eq.trans (World.drewN_drewN _ _ _) (congrArg (World.drewN _) (Nat.add_assoc _ _ _))⟩)) | (go_at_call 12; (with_reducible refine (laws_r8At.calls _ _ l1 41 t279 t294 _ ?side1 ?side2 A28.out).mono ?_); (case side1 => repeat (first | exact (Kd.C_below HR1.out (by repeat (first | (with_reducible first | exact HB.out | apply below_alloc | apply pw_below_drewN | apply below_drew1 | refine below_set ?_ GE283.out) | exact HB.out))) | (with_reducible refine Kd.C_alloc ?_ _) | (with_reducible refine Kd.C_drewN ?_ _) | (with_reducible refine Kd.C_drew ?_))); (case side2 => exact HC1.out); rintro e w' ⟨rfl, ⟨nd, rfl⟩⟩; (try first | exact ⟨rfl, _, World.drewN_drewN _ _ _⟩ | exact ⟨rfl, _, Eq.trans (World.drewN_drewN _ _ _) (congrArg (World.drewN _) (Nat.add_assoc _ _ _))⟩)) | (go_at_call 13; (with_reducible refine (impl_EarliestTimes.calls k1 t279 _ _ t280 t293 t295 t298 _ ?side1 ?side2 A29.out).mono ?_); (case side1 => repeat (first | exact (Kd.R_reads' HO_284001.out).2.2 | (with_reducible refine Kd.C_alloc ?_ _) | (with_reducible refine Kd.C_drewN ?_ _) | (with_reducible refine Kd.C_drew ?_))); (case side2 => exact (Kd.R_reads' HO_284001.out).2.1); rintro e w34 ⟨v296, rfl, ho0, hb⟩; have n0_ := Aside0.mk (Kd.R_elder' (by (with_reducible repeat (first | apply Kd.R_alloc | apply Kd.R_drewN | apply Kd.R_drew)); exact HO_7.out) (Kd.R_base ho0) hb); have n1_ := Aside0.mk (Kd.R_below (by (with_reducible repeat (first | apply Kd.R_alloc | apply Kd.R_drewN | apply Kd.R_drew)); exact HO_284001.out) hb); have n2_ := Aside0.mk (Kd.R_lower (Kd.R_new' ho0 (Kd.R_lt (by (with_reducible repeat (first | apply Kd.R_alloc | apply Kd.R_drewN | apply Kd.R_drew)); exact HO_7.out))) (below_size (by repeat (first | (with_reducible first | exact HB.out | apply below_alloc | apply pw_below_drewN | apply below_drew1 | refine below_set ?_ GE283.out) | exact HB.out)))); have n3_ := Aside0.mk (blk_below (g := gb283) (o := .cells #[.int .i64 t279, .slice Ao11 t280.length co11] 26 (0, 0)) (by (with_reducible repeat (first | refine blk_drewN ?_ _ | refine blk_drew ?_ | refine blk_alloc ?_ _)); exact BK283.out) hb); have n4_ := Aside0.mk (below_step (by repeat (first | (with_reducible first | exact HB.out | apply below_alloc | apply pw_below_drewN | apply below_drew1 | refine below_set ?_ GE283.out) | exact HB.out)) hb); clear HO_7; clear HO_284001; clear BK283; clear HB; have HO_7 := n0_; have HO_284001 := n1_; have HO297 := n2_; have BK283 := n3_; have HB := n4_; clear n0_ n1_ n2_ n3_ n4_; (try clear hb); (try clear hb2); (try clear hk); (try clear hi); (try clear ho0); have hcz35_0 : w34.cell? ⟨gb283, 0, none⟩ = some (.int .i64 t279) := (blk_cell BK283.out 0).trans rfl; have hcz35_1 : w34.cell? ⟨gb283, 1, none⟩ = some (.slice Ao11 t280.length co11) := (blk_cell BK283.out 1).trans rfl; have hfz35_0 := blk_frozen BK283.out 0; have hfz35_1 := blk_frozen BK283.out 1) | (go_at_call 14; (with_reducible refine (impl_LatestTimes.calls k1 t279 _ _ t280 t293 t299 t302 _ ?side1 ?side2 A30.out).mono ?_); (case side1 => repeat (first | exact (Kd.R_reads' HO_284001.out).2.2 | (with_reducible refine Kd.C_alloc ?_ _) | (with_reducible refine Kd.C_drewN ?_ _) | (with_reducible refine Kd.C_drew ?_))); (case side2 => exact (Kd.R_reads' HO_284001.out).2.1); rintro e w36 ⟨v300, rfl, ho0, hb⟩; have n0_ := Aside0.mk (Kd.R_elder' (by (with_reducible repeat (first | apply Kd.R_alloc | apply Kd.R_drewN | apply Kd.R_drew)); exact HO_7.out) (Kd.R_base ho0) hb); have n1_ := Aside0.mk (Kd.R_below (by (with_reducible repeat (first | apply Kd.R_alloc | apply Kd.R_drewN | apply Kd.R_drew)); exact HO_284001.out) hb); have n2_ := Aside0.mk (Kd.R_elder' (by (with_reducible repeat (first | apply Kd.R_alloc | apply Kd.R_drewN | apply Kd.R_drew)); exact HO297.out) (Kd.R_base ho0) hb); have n3_ := Aside0.mk (Kd.R_lower (Kd.R_new' (Kd.R_new' ho0 (Kd.R_lt (by (with_reducible repeat (first | apply Kd.R_alloc | apply Kd.R_drewN | apply Kd.R_drew)); exact HO_7.out))) (Kd.R_lt (by (with_reducible repeat (first | apply Kd.R_alloc | apply Kd.R_drewN | apply Kd.R_drew)); exact HO297.out))) (below_size (by repeat (first | (with_reducible first | exact HB.out | apply below_alloc | apply pw_below_drewN | apply below_drew1 | refine below_set ?_ GE283.out) | exact HB.out)))); have n4_ := Aside0.mk (blk_below (g := gb283) (o := .cells #[.int .i64 t279, .slice Ao11 t280.length co11] 26 (0, 0)) (by (with_reducible repeat (first | refine blk_drewN ?_ _ | refine blk_drew ?_ | refine blk_alloc ?_ _)); exact BK283.out) hb); have n5_ := Aside0.mk (below_step (by repeat (first | (with_reducible first | exact HB.out | apply below_alloc | apply pw_below_drewN | apply below_drew1 | refine below_set ?_ GE283.out) | exact HB.out)) hb); clear HO_7; clear HO_284001; clear HO297; clear BK283; clear HB; have HO_7 := n0_; have HO_284001 := n1_; have HO297 := n2_; have HO301 := n3_; have BK283 := n4_; have HB := n5_; clear n0_ n1_ n2_ n3_ n4_ n5_; (try clear hb); (try clear hb2); (try clear hk); (try clear hi); (try clear ho0); have hcz37_0 : w36.cell? ⟨gb283, 0, none⟩ = some (.int .i64 t279) := (blk_cell BK283.out 0).trans rfl; have hcz37_1 : w36.cell? ⟨gb283, 1, none⟩ = some (.slice Ao11 t280.length co11) := (blk_cell BK283.out 1).trans rfl; have hfz37_0 := blk_frozen BK283.out 0; have hfz37_1 := blk_frozen BK283.out 1) | (go_at_call 15; (with_reducible refine (impl_GapOf.calls k1 t279 _ _ t280 t293 t294 t303 t304 t305 _ ?side1 ?side2 A31.out).mono ?_); (case side1 => repeat (first | exact (Kd.R_reads' HO_284001.out).2.2 | (with_reducible refine Kd.C_alloc ?_ _) | (with_reducible refine Kd.C_drewN ?_ _) | (with_reducible refine Kd.C_drew ?_))); (case side2 => exact (Kd.R_reads' HO_284001.out).2.1); rintro e w38 ⟨rfl, hb⟩; have n0_ := Aside0.mk (Kd.R_below (by (with_reducible repeat (first | apply Kd.R_alloc | apply Kd.R_drewN | apply Kd.R_drew)); exact HO_7.out) hb); have n1_ := Aside0.mk (Kd.R_below (by (with_reducible repeat (first | apply Kd.R_alloc | apply Kd.R_drewN | apply Kd.R_drew)); exact HO_284001.out) hb); have n2_ := Aside0.mk (Kd.R_below (by (with_reducible repeat (first | apply Kd.R_alloc | apply Kd.R_drewN | apply Kd.R_drew)); exact HO297.out) hb); have n3_ := Aside0.mk (Kd.R_below (by (with_reducible repeat (first | apply Kd.R_alloc | apply Kd.R_drewN | apply Kd.R_drew)); exact HO301.out) hb); have n4_ := Aside0.mk (blk_below (g := gb283) (o := .cells #[.int .i64 t279, .slice Ao11 t280.length co11] 26 (0, 0)) (by (with_reducible repeat (first | refine blk_drewN ?_ _ | refine blk_drew ?_ | refine blk_alloc ?_ _)); exact BK283.out) hb); have n5_ := Aside0.mk (below_step (by repeat (first | (with_reducible first | exact HB.out | apply below_alloc | apply pw_below_drewN | apply below_drew1 | refine below_set ?_ GE283.out) | exact HB.out)) hb); clear HO_7; clear HO_284001; clear HO297; clear HO301; clear BK283; clear HB; have HO_7 := n0_; have HO_284001 := n1_; have HO297 := n2_; have HO301 := n3_; have BK283 := n4_; have HB := n5_; clear n0_ n1_ n2_ n3_ n4_ n5_; (try clear hb); (try clear hb2); (try clear hk); (try clear hi))); go_upto_region 19 with (first | (go_at_call 12; (with_reducible refine (laws_r8At.calls _ _ l1 40 t279 t293 _ ?side1 ?side2 A27.out).mono ?_); (case side1 => repeat (first | exact (Kd.C_below HR1.out HB.out) | (with_reducible refine Kd.C_alloc ?_ _) | (with_reducible refine Kd.C_drewN ?_ _) | (with_reducible refine Kd.C_drew ?_))); (case side2 => exact HC1.out); rintro e w' ⟨rfl, ⟨nd, rfl⟩⟩; (try first | exact ⟨rfl, _, World.drewN_drewN _ _ _⟩ | exact ⟨rfl, _, Eq.trans (World.drewN_drewN _ _ _) (congrArg (World.drewN _) (Nat.add_assoc _ _ _))⟩)) | (go_at_call 12; (with_reducible refine (laws_r8At.calls _ _ l1 41 t279 t294 _ ?side1 ?side2 A28.out).mono ?_); (case side1 => repeat (first | exact (Kd.C_below HR1.out (by repeat (first | (with_reducible first | exact HB.out | apply below_alloc | apply pw_below_drewN | apply below_drew1 | refine below_set ?_ GE283.out) | exact HB.out))) | (with_reducible refine Kd.C_alloc ?_ _) | (with_reducible refine Kd.C_drewN ?_ _) | (with_reducible refine Kd.C_drew ?_))); (case side2 => exact HC1.out); rintro e w' ⟨rfl, ⟨nd, rfl⟩⟩; (try first | exact ⟨rfl, _, World.drewN_drewN _ _ _⟩ | exact ⟨rfl, _, Eq.trans (World.drewN_drewN _ _ _) (congrArg (World.drewN _) (Nat.add_assoc _ _ _))⟩)) | (go_at_call 13; (with_reducible refine (impl_EarliestTimes.calls k1 t279 _ _ t280 t293 t295 t298 _ ?side1 ?side2 A29.out).mono ?_); (case side1 => repeat (first | exact (Kd.R_reads' HO_284001.out).2.2 | (with_reducible refine Kd.C_alloc ?_ _) | (with_reducible refine Kd.C_drewN ?_ _) | (with_reducible refine Kd.C_drew ?_))); (case side2 => exact (Kd.R_reads' HO_284001.out).2.1); rintro e w34 ⟨v296, rfl, ho0, hb⟩; have n0_ := Aside0.mk (Kd.R_elder' (by (with_reducible repeat (first | apply Kd.R_alloc | apply Kd.R_drewN | apply Kd.R_drew)); exact HO_7.out) (Kd.R_base ho0) hb); have n1_ := Aside0.mk (Kd.R_below (by (with_reducible repeat (first | apply Kd.R_alloc | apply Kd.R_drewN | apply Kd.R_drew)); exact HO_284001.out) hb); have n2_ := Aside0.mk (Kd.R_lower (Kd.R_new' ho0 (Kd.R_lt (by (with_reducible repeat (first | apply Kd.R_alloc | apply Kd.R_drewN | apply Kd.R_drew)); exact HO_7.out))) (below_size (by repeat (first | (with_reducible first | exact HB.out | apply below_alloc | apply pw_below_drewN | apply below_drew1 | refine below_set ?_ GE283.out) | exact HB.out)))); have n3_ := Aside0.mk (blk_below (g := gb283) (o := .cells #[.int .i64 t279, .slice Ao11 t280.length co11] 26 (0, 0)) (by (with_reducible repeat (first | refine blk_drewN ?_ _ | refine blk_drew ?_ | refine blk_alloc ?_ _)); exact BK283.out) hb); have n4_ := Aside0.mk (below_step (by repeat (first | (with_reducible first | exact HB.out | apply below_alloc | apply pw_below_drewN | apply below_drew1 | refine below_set ?_ GE283.out) | exact HB.out)) hb); clear HO_7; clear HO_284001; clear BK283; clear HB; have HO_7 := n0_; have HO_284001 := n1_; have HO297 := n2_; have BK283 := n3_; have HB := n4_; clear n0_ n1_ n2_ n3_ n4_; (try clear hb); (try clear hb2); (try clear hk); (try clear hi); (try clear ho0); have hcz35_0 : w34.cell? ⟨gb283, 0, none⟩ = some (.int .i64 t279) := (blk_cell BK283.out 0).trans rfl; have hcz35_1 : w34.cell? ⟨gb283, 1, none⟩ = some (.slice Ao11 t280.length co11) := (blk_cell BK283.out 1).trans rfl; have hfz35_0 := blk_frozen BK283.out 0; have hfz35_1 := blk_frozen BK283.out 1) | (go_at_call 14; (with_reducible refine (impl_LatestTimes.calls k1 t279 _ _ t280 t293 t299 t302 _ ?side1 ?side2 A30.out).mono ?_); (case side1 => repeat (first | exact (Kd.R_reads' HO_284001.out).2.2 | (with_reducible refine Kd.C_alloc ?_ _) | (with_reducible refine Kd.C_drewN ?_ _) | (with_reducible refine Kd.C_drew ?_))); (case side2 => exact (Kd.R_reads' HO_284001.out).2.1); rintro e w36 ⟨v300, rfl, ho0, hb⟩; have n0_ := Aside0.mk (Kd.R_elder' (by (with_reducible repeat (first | apply Kd.R_alloc | apply Kd.R_drewN | apply Kd.R_drew)); exact HO_7.out) (Kd.R_base ho0) hb); have n1_ := Aside0.mk (Kd.R_below (by (with_reducible repeat (first | apply Kd.R_alloc | apply Kd.R_drewN | apply Kd.R_drew)); exact HO_284001.out) hb); have n2_ := Aside0.mk (Kd.R_elder' (by (with_reducible repeat (first | apply Kd.R_alloc | apply Kd.R_drewN | apply Kd.R_drew)); exact HO297.out) (Kd.R_base ho0) hb); have n3_ := Aside0.mk (Kd.R_lower (Kd.R_new' (Kd.R_new' ho0 (Kd.R_lt (by (with_reducible repeat (first | apply Kd.R_alloc | apply Kd.R_drewN | apply Kd.R_drew)); exact HO_7.out))) (Kd.R_lt (by (with_reducible repeat (first | apply Kd.R_alloc | apply Kd.R_drewN | apply Kd.R_drew)); exact HO297.out))) (below_size (by repeat (first | (with_reducible first | exact HB.out | apply below_alloc | apply pw_below_drewN | apply below_drew1 | refine below_set ?_ GE283.out) | exact HB.out)))); have n4_ := Aside0.mk (blk_below (g := gb283) (o := .cells #[.int .i64 t279, .slice Ao11 t280.length co11] 26 (0, 0)) (by (with_reducible repeat (first | refine blk_drewN ?_ _ | refine blk_drew ?_ | refine blk_alloc ?_ _)); exact BK283.out) hb); have n5_ := Aside0.mk (below_step (by repeat (first | (with_reducible first | exact HB.out | apply below_alloc | apply pw_below_drewN | apply below_drew1 | refine below_set ?_ GE283.out) | exact HB.out)) hb); clear HO_7; clear HO_284001; clear HO297; clear BK283; clear HB; have HO_7 := n0_; have HO_284001 := n1_; have HO297 := n2_; have HO301 := n3_; have BK283 := n4_; have HB := n5_; clear n0_ n1_ n2_ n3_ n4_ n5_; (try clear hb); (try clear hb2); (try clear hk); (try clear hi); (try clear ho0); have hcz37_0 : w36.cell? ⟨gb283, 0, none⟩ = some (.int .i64 t279) := (blk_cell BK283.out 0).trans rfl; have hcz37_1 : w36.cell? ⟨gb283, 1, none⟩ = some (.slice Ao11 t280.length co11) := (blk_cell BK283.out 1).trans rfl; have hfz37_0 := blk_frozen BK283.out 0; have hfz37_1 := blk_frozen BK283.out 1) | (go_at_call 15; (with_reducible refine (impl_GapOf.calls k1 t279 _ _ t280 t293 t294 t303 t304 t305 _ ?side1 ?side2 A31.out).mono ?_); (case side1 => repeat (first | exact (Kd.R_reads' HO_284001.out).2.2 | (with_reducible refine Kd.C_alloc ?_ _) | (with_reducible refine Kd.C_drewN ?_ _) | (with_reducible refine Kd.C_drew ?_))); (case side2 => exact (Kd.R_reads' HO_284001.out).2.1); rintro e w38 ⟨rfl, hb⟩; have n0_ := Aside0.mk (Kd.R_below (by (with_reducible repeat (first | apply Kd.R_alloc | apply Kd.R_drewN | apply Kd.R_drew)); exact HO_7.out) hb); have n1_ := Aside0.mk (Kd.R_below (by (with_reducible repeat (first | apply Kd.R_alloc | apply Kd.R_drewN | apply Kd.R_drew)); exact HO_284001.out) hb); have n2_ := Aside0.mk (Kd.R_below (by (with_reducible repeat (first | apply Kd.R_alloc | apply Kd.R_drewN | apply Kd.R_drew)); exact HO297.out) hb); have n3_ := Aside0.mk (Kd.R_below (by (with_reducible repeat (first | apply Kd.R_alloc | apply Kd.R_drewN | apply Kd.R_drew)); exact HO301.out) hb); have n4_ := Aside0.mk (blk_below (g := gb283) (o := .cells #[.int .i64 t279, .slice Ao11 t280.length co11] 26 (0, 0)) (by (with_reducible repeat (first | refine blk_drewN ?_ _ | refine blk_drew ?_ | refine blk_alloc ?_ _)); exact BK283.out) hb); have n5_ := Aside0.mk (below_step (by repeat (first | (with_reducible first | exact HB.out | apply below_alloc | apply pw_below_drewN | apply below_drew1 | refine below_set ?_ GE283.out) | exact HB.out)) hb); clear HO_7; clear HO_284001; clear HO297; clear HO301; clear BK283; clear HB; have HO_7 := n0_; have HO_284001 := n1_; have HO297 := n2_; have HO301 := n3_; have BK283 := n4_; have HB := n5_; clear n0_ n1_ n2_ n3_ n4_ n5_; (try clear hb); (try clear hb2); (try clear hk); (try clear hi))))
      (try simp only [Act.put, List.setIfInBounds_toArray, List.set_cons_zero, List.set_cons_succ])
      go_cut [138] (fun v138 wc => ∃ (kq : Nat) (x138_31 : Bool), v138 = .bool x138_31 ∧ Aside0 (laws_FnTimings.j1 kq t279 t284 t287 t293 t294 t295 t298 t299 t302 t303 t304 t305 x138_31 = some r) ∧ Aside0 (kq ≤ k1) ∧ Aside0 (Kd.R (Kd.int .i64) 2 wc w.heap.size (fun k_ => some k_ ≠ (v296 : Value).ownBlock ∧ some k_ ≠ (v300 : Value).ownBlock) (.slice Ao14 t284.length co14) t284) ∧ Aside0 (Kd.R (Kd.int .i64) 2 wc w.heap.size (fun k_ => some k_ ≠ ((.slice Ao14 t284.length co14) : Value).ownBlock ∧ some k_ ≠ (v300 : Value).ownBlock) v296 t295) ∧ Aside0 (Kd.R (Kd.int .i64) 2 wc w.heap.size (fun k_ => some k_ ≠ ((.slice Ao14 t284.length co14) : Value).ownBlock ∧ some k_ ≠ (v296 : Value).ownBlock) v300 t299) ∧ Aside0 (Kd.R k32 32 wc w.heap.size (fun _ => True) (.slice Ao11 t280.length co11) t280) ∧ Aside0 (wc.heap[gb283]? = some (.cells #[.int .i64 t279, (.slice Ao11 t280.length co11)] 26 (0, 0))) ∧ Aside0 (Below w.heap.size w wc))
      case first => as_aux_lemma =>
       have H := HC32.out
       clear HC32
       by_cases c39 : t298 = true
       ·subst c39
        have H1 : ((impl_IsTiming.f t279 t280 t295).bind fun t306 => (if t306 = true then (if 0 ≤ t293 then (if t293 < (t295.length : Int) then (if (rd t295 t293) = 0 then (if t302 = true then ((impl_IsTiming.f t279 t280 t299).bind fun t308 => (if t308 = true then (if t293 < (t299.length : Int) then (if (rd t299 t293) = 0 then (if t305 = true then (laws_FnTimings.j1 k1 t279 t284 t287 t293 t294 t295 true t299 t302 t303 t304 t305 (decide (t303 > t304))) else (laws_FnTimings.j1 k1 t279 t284 t287 t293 t294 t295 true t299 t302 t303 t304 t305 false)) else (laws_FnTimings.j1 k1 t279 t284 t287 t293 t294 t295 true t299 t302 t303 t304 t305 true)) else (none)) else (laws_FnTimings.j1 k1 t279 t284 t287 t293 t294 t295 true t299 t302 t303 t304 t305 true))) else (if t305 = true then (laws_FnTimings.j1 k1 t279 t284 t287 t293 t294 t295 true t299 t302 t303 t304 t305 (decide (t303 > t304))) else (laws_FnTimings.j1 k1 t279 t284 t287 t293 t294 t295 true t299 t302 t303 t304 t305 false))) else (laws_FnTimings.j1 k1 t279 t284 t287 t293 t294 t295 true t299 t302 t303 t304 t305 true)) else (none)) else (none)) else (laws_FnTimings.j1 k1 t279 t284 t287 t293 t294 t295 true t299 t302 t303 t304 t305 true))) = some r := by rw [if_pos rfl] at H; exact H
        clear H
        have H := H1
        clear H1
        replace H := Option.bind_eq_some_iff.mp H
        obtain ⟨t306, A400, H⟩ := H
        replace H : (if t306 = true then (if 0 ≤ t293 then (if t293 < (t295.length : Int) then (if (rd t295 t293) = 0 then (if t302 = true then ((impl_IsTiming.f t279 t280 t299).bind fun t308 => (if t308 = true then (if t293 < (t299.length : Int) then (if (rd t299 t293) = 0 then (if t305 = true then (laws_FnTimings.j1 k1 t279 t284 t287 t293 t294 t295 true t299 t302 t303 t304 t305 (decide (t303 > t304))) else (laws_FnTimings.j1 k1 t279 t284 t287 t293 t294 t295 true t299 t302 t303 t304 t305 false)) else (laws_FnTimings.j1 k1 t279 t284 t287 t293 t294 t295 true t299 t302 t303 t304 t305 true)) else (none)) else (laws_FnTimings.j1 k1 t279 t284 t287 t293 t294 t295 true t299 t302 t303 t304 t305 true))) else (if t305 = true then (laws_FnTimings.j1 k1 t279 t284 t287 t293 t294 t295 true t299 t302 t303 t304 t305 (decide (t303 > t304))) else (laws_FnTimings.j1 k1 t279 t284 t287 t293 t294 t295 true t299 t302 t303 t304 t305 false))) else (laws_FnTimings.j1 k1 t279 t284 t287 t293 t294 t295 true t299 t302 t303 t304 t305 true)) else (none)) else (none)) else (laws_FnTimings.j1 k1 t279 t284 t287 t293 t294 t295 true t299 t302 t303 t304 t305 true)) = some r := H
        have A40 := Aside0.mk A400
        clear A400
        by_cases c41 : t306 = true
        ·subst c41
         have H1 : (if 0 ≤ t293 then (if t293 < (t295.length : Int) then (if (rd t295 t293) = 0 then (if t302 = true then ((impl_IsTiming.f t279 t280 t299).bind fun t308 => (if t308 = true then (if t293 < (t299.length : Int) then (if (rd t299 t293) = 0 then (if t305 = true then (laws_FnTimings.j1 k1 t279 t284 t287 t293 t294 t295 true t299 t302 t303 t304 t305 (decide (t303 > t304))) else (laws_FnTimings.j1 k1 t279 t284 t287 t293 t294 t295 true t299 t302 t303 t304 t305 false)) else (laws_FnTimings.j1 k1 t279 t284 t287 t293 t294 t295 true t299 t302 t303 t304 t305 true)) else (none)) else (laws_FnTimings.j1 k1 t279 t284 t287 t293 t294 t295 true t299 t302 t303 t304 t305 true))) else (if t305 = true then (laws_FnTimings.j1 k1 t279 t284 t287 t293 t294 t295 true t299 t302 t303 t304 t305 (decide (t303 > t304))) else (laws_FnTimings.j1 k1 t279 t284 t287 t293 t294 t295 true t299 t302 t303 t304 t305 false))) else (laws_FnTimings.j1 k1 t279 t284 t287 t293 t294 t295 true t299 t302 t303 t304 t305 true)) else (none)) else (none)) = some r := by rw [if_pos rfl] at H; exact H
         clear H
         have H := H1
         clear H1
         by_cases c42 : 0 ≤ t293
         ·rw [if_pos c42] at H
          have c42b0 : decide (0 ≤ t293) = true := decide_eq_true c42
          clear c42
          (first | rw [c42b0] | (simp only [i64_w, i32_w]; rw [c42b0]) | skip)
          by_cases c43 : t293 < (t295.length : Int)
          ·rw [if_pos c43] at H
           have c43b0 : decide (t293 < (t295.length : Int)) = true := decide_eq_true c43
           clear c43
           by_cases c44 : (rd t295 t293) = 0
           ·rw [if_pos c44] at H
            have c44b0 : ((rd t295 t293) == 0) = true := beq_iff_eq.mpr c44
            have c44b1 : ((rd t295 t293) != 0) = false := bne_eq_false_iff_eq.mpr c44
            clear c44
            by_cases c45 : t302 = true
            ·subst c45
             have H1 : ((impl_IsTiming.f t279 t280 t299).bind fun t308 => (if t308 = true then (if t293 < (t299.length : Int) then (if (rd t299 t293) = 0 then (if t305 = true then (laws_FnTimings.j1 k1 t279 t284 t287 t293 t294 t295 true t299 true t303 t304 t305 (decide (t303 > t304))) else (laws_FnTimings.j1 k1 t279 t284 t287 t293 t294 t295 true t299 true t303 t304 t305 false)) else (laws_FnTimings.j1 k1 t279 t284 t287 t293 t294 t295 true t299 true t303 t304 t305 true)) else (none)) else (laws_FnTimings.j1 k1 t279 t284 t287 t293 t294 t295 true t299 true t303 t304 t305 true))) = some r := by rw [if_pos rfl] at H; exact H
             clear H
             have H := H1
             clear H1
             replace H := Option.bind_eq_some_iff.mp H
             obtain ⟨t308, A460, H⟩ := H
             replace H : (if t308 = true then (if t293 < (t299.length : Int) then (if (rd t299 t293) = 0 then (if t305 = true then (laws_FnTimings.j1 k1 t279 t284 t287 t293 t294 t295 true t299 true t303 t304 t305 (decide (t303 > t304))) else (laws_FnTimings.j1 k1 t279 t284 t287 t293 t294 t295 true t299 true t303 t304 t305 false)) else (laws_FnTimings.j1 k1 t279 t284 t287 t293 t294 t295 true t299 true t303 t304 t305 true)) else (none)) else (laws_FnTimings.j1 k1 t279 t284 t287 t293 t294 t295 true t299 true t303 t304 t305 true)) = some r := H
             have A46 := Aside0.mk A460
             clear A460
             by_cases c47 : t308 = true
             ·subst c47
              have H1 : (if t293 < (t299.length : Int) then (if (rd t299 t293) = 0 then (if t305 = true then (laws_FnTimings.j1 k1 t279 t284 t287 t293 t294 t295 true t299 true t303 t304 t305 (decide (t303 > t304))) else (laws_FnTimings.j1 k1 t279 t284 t287 t293 t294 t295 true t299 true t303 t304 t305 false)) else (laws_FnTimings.j1 k1 t279 t284 t287 t293 t294 t295 true t299 true t303 t304 t305 true)) else (none)) = some r := by rw [if_pos rfl] at H; exact H
              clear H
              have H := H1
              clear H1
              by_cases c48 : t293 < (t299.length : Int)
              ·rw [if_pos c48] at H
               have c48b0 : decide (t293 < (t299.length : Int)) = true := decide_eq_true c48
               clear c48
               by_cases c49 : (rd t299 t293) = 0
               ·rw [if_pos c49] at H
                have c49b0 : ((rd t299 t293) == 0) = true := beq_iff_eq.mpr c49
                have c49b1 : ((rd t299 t293) != 0) = false := bne_eq_false_iff_eq.mpr c49
                clear c49
                by_cases c50 : t305 = true
                ·subst c50
                 have H1 : (laws_FnTimings.j1 k1 t279 t284 t287 t293 t294 t295 true t299 true t303 t304 true (decide (t303 > t304))) = some r := by rw [if_pos rfl] at H; exact H
                 clear H
                 have H := H1
                 clear H1
                 have H' := Aside0.mk H
                 clear H
                 have hcz51_0 : w38.cell? ⟨gb283, 0, none⟩ = some (.int .i64 t279) := (blk_cell BK283.out 0).trans rfl
                 have hcz51_1 : w38.cell? ⟨gb283, 1, none⟩ = some (.slice Ao11 t280.length co11) := (blk_cell BK283.out 1).trans rfl
                 have hfz51_0 := blk_frozen BK283.out 0
                 have hfz51_1 := blk_frozen BK283.out 1
                 obtain ⟨Ao52, co52, eo52⟩ := Kd.R_slice HO297.out
                 subst eo52
                 go_wp2_with (first | (go_at_call 11; (with_reducible refine (impl_IsTiming.calls t279 _ _ t280 _ _ t295 true _ ?side1 ?side2 ?side3 ?side4 A40.out).mono ?_); (case side1 => repeat (first | exact (Kd.R_reads' HO_284001.out).2.2 | (with_reducible refine Kd.C_alloc ?_ _) | (with_reducible refine Kd.C_drewN ?_ _) | (with_reducible refine Kd.C_drew ?_))); (case side2 => exact (Kd.R_reads' HO_284001.out).2.1); (case side3 => repeat (first | exact (Kd.R_reads' HO297.out).2.2 | (with_reducible refine Kd.C_alloc ?_ _) | (with_reducible refine Kd.C_drewN ?_ _) | (with_reducible refine Kd.C_drew ?_))); (case side4 => exact (Kd.R_reads' HO297.out).2.1); rintro e w53 ⟨rfl, hb⟩; have n0_ := Aside0.mk (Kd.R_below (by (with_reducible repeat (first | apply Kd.R_alloc | apply Kd.R_drewN | apply Kd.R_drew)); exact HO_7.out) hb); have n1_ := Aside0.mk (Kd.R_below (by (with_reducible repeat (first | apply Kd.R_alloc | apply Kd.R_drewN | apply Kd.R_drew)); exact HO_284001.out) hb); have n2_ := Aside0.mk (Kd.R_below (by (with_reducible repeat (first | apply Kd.R_alloc | apply Kd.R_drewN | apply Kd.R_drew)); exact HO297.out) hb); have n3_ := Aside0.mk (Kd.R_below (by (with_reducible repeat (first | apply Kd.R_alloc | apply Kd.R_drewN | apply Kd.R_drew)); exact HO301.out) hb); have n4_ := Aside0.mk (blk_below (g := gb283) (o := .cells #[.int .i64 t279, .slice Ao11 t280.length co11] 26 (0, 0)) (by (with_reducible repeat (first | refine blk_drewN ?_ _ | refine blk_drew ?_ | refine blk_alloc ?_ _)); exact BK283.out) hb); have n5_ := Aside0.mk (below_step (by repeat (first | (with_reducible first | exact HB.out | apply below_alloc | apply pw_below_drewN | apply below_drew1 | refine below_set ?_ GE283.out) | exact HB.out)) hb); clear HO_7; clear HO_284001; clear HO297; clear HO301; clear BK283; clear HB; have HO_7 := n0_; have HO_284001 := n1_; have HO297 := n2_; have HO301 := n3_; have BK283 := n4_; have HB := n5_; clear n0_ n1_ n2_ n3_ n4_ n5_; (try clear hb); (try clear hb2); (try clear hk); (try clear hi); have p307 : 0 ≤ (t293 : Int) := of_decide_eq_true (by with_reducible assumption); have q307 : t293 < (t295.length : Int) := of_decide_eq_true (by with_reducible assumption); obtain ⟨ad307, e307, hx307_0⟩ := Kd.at_int (Kd.R_reads' HO297.out).2.2 t293 p307 q307; cases e307; replace p307 := eq_true p307; replace q307 := eq_true q307; have hcz54_0 : w53.cell? ⟨gb283, 0, none⟩ = some (.int .i64 t279) := (blk_cell BK283.out 0).trans rfl; have hcz54_1 : w53.cell? ⟨gb283, 1, none⟩ = some (.slice Ao11 t280.length co11) := (blk_cell BK283.out 1).trans rfl; have hfz54_0 := blk_frozen BK283.out 0; have hfz54_1 := blk_frozen BK283.out 1; obtain ⟨Ao55, co55, eo55⟩ := Kd.R_slice HO301.out; subst eo55) | (go_at_call 11; (with_reducible refine (impl_IsTiming.calls t279 _ _ t280 _ _ t299 true _ ?side1 ?side2 ?side3 ?side4 A46.out).mono ?_); (case side1 => repeat (first | exact (Kd.R_reads' HO_284001.out).2.2 | (with_reducible refine Kd.C_alloc ?_ _) | (with_reducible refine Kd.C_drewN ?_ _) | (with_reducible refine Kd.C_drew ?_))); (case side2 => exact (Kd.R_reads' HO_284001.out).2.1); (case side3 => repeat (first | exact (Kd.R_reads' HO301.out).2.2 | (with_reducible refine Kd.C_alloc ?_ _) | (with_reducible refine Kd.C_drewN ?_ _) | (with_reducible refine Kd.C_drew ?_))); (case side4 => exact (Kd.R_reads' HO301.out).2.1); rintro e w56 ⟨rfl, hb⟩; have n0_ := Aside0.mk (Kd.R_below (by (with_reducible repeat (first | apply Kd.R_alloc | apply Kd.R_drewN | apply Kd.R_drew)); exact HO_7.out) hb); have n1_ := Aside0.mk (Kd.R_below (by (with_reducible repeat (first | apply Kd.R_alloc | apply Kd.R_drewN | apply Kd.R_drew)); exact HO_284001.out) hb); have n2_ := Aside0.mk (Kd.R_below (by (with_reducible repeat (first | apply Kd.R_alloc | apply Kd.R_drewN | apply Kd.R_drew)); exact HO297.out) hb); have n3_ := Aside0.mk (Kd.R_below (by (with_reducible repeat (first | apply Kd.R_alloc | apply Kd.R_drewN | apply Kd.R_drew)); exact HO301.out) hb); have n4_ := Aside0.mk (blk_below (g := gb283) (o := .cells #[.int .i64 t279, .slice Ao11 t280.length co11] 26 (0, 0)) (by (with_reducible repeat (first | refine blk_drewN ?_ _ | refine blk_drew ?_ | refine blk_alloc ?_ _)); exact BK283.out) hb); have n5_ := Aside0.mk (below_step (by repeat (first | (with_reducible first | exact HB.out | apply below_alloc | apply pw_below_drewN | apply below_drew1 | refine below_set ?_ GE283.out) | exact HB.out)) hb); clear HO_7; clear HO_284001; clear HO297; clear HO301; clear BK283; clear HB; have HO_7 := n0_; have HO_284001 := n1_; have HO297 := n2_; have HO301 := n3_; have BK283 := n4_; have HB := n5_; clear n0_ n1_ n2_ n3_ n4_ n5_; (try clear hb); (try clear hb2); (try clear hk); (try clear hi); have p309 : 0 ≤ (t293 : Int) := of_decide_eq_true (by with_reducible assumption); have q309 : t293 < (t299.length : Int) := of_decide_eq_true (by with_reducible assumption); obtain ⟨ad309, e309, hx309_0⟩ := Kd.at_int (Kd.R_reads' HO301.out).2.2 t293 p309 q309; cases e309; replace p309 := eq_true p309; replace q309 := eq_true q309))
                 repeat (go_quiet (first | (go_at_call 11; (with_reducible refine (impl_IsTiming.calls t279 _ _ t280 _ _ t295 true _ ?side1 ?side2 ?side3 ?side4 A40.out).mono ?_); (case side1 => repeat (first | exact (Kd.R_reads' HO_284001.out).2.2 | (with_reducible refine Kd.C_alloc ?_ _) | (with_reducible refine Kd.C_drewN ?_ _) | (with_reducible refine Kd.C_drew ?_))); (case side2 => exact (Kd.R_reads' HO_284001.out).2.1); (case side3 => repeat (first | exact (Kd.R_reads' HO297.out).2.2 | (with_reducible refine Kd.C_alloc ?_ _) | (with_reducible refine Kd.C_drewN ?_ _) | (with_reducible refine Kd.C_drew ?_))); (case side4 => exact (Kd.R_reads' HO297.out).2.1); rintro e w53 ⟨rfl, hb⟩; have n0_ := Aside0.mk (Kd.R_below (by (with_reducible repeat (first | apply Kd.R_alloc | apply Kd.R_drewN | apply Kd.R_drew)); exact HO_7.out) hb); have n1_ := Aside0.mk (Kd.R_below (by (with_reducible repeat (first | apply Kd.R_alloc | apply Kd.R_drewN | apply Kd.R_drew)); exact HO_284001.out) hb); have n2_ := Aside0.mk (Kd.R_below (by (with_reducible repeat (first | apply Kd.R_alloc | apply Kd.R_drewN | apply Kd.R_drew)); exact HO297.out) hb); have n3_ := Aside0.mk (Kd.R_below (by (with_reducible repeat (first | apply Kd.R_alloc | apply Kd.R_drewN | apply Kd.R_drew)); exact HO301.out) hb); have n4_ := Aside0.mk (blk_below (g := gb283) (o := .cells #[.int .i64 t279, .slice Ao11 t280.length co11] 26 (0, 0)) (by (with_reducible repeat (first | refine blk_drewN ?_ _ | refine blk_drew ?_ | refine blk_alloc ?_ _)); exact BK283.out) hb); have n5_ := Aside0.mk (below_step (by repeat (first | (with_reducible first | exact HB.out | apply below_alloc | apply pw_below_drewN | apply below_drew1 | refine below_set ?_ GE283.out) | exact HB.out)) hb); clear HO_7; clear HO_284001; clear HO297; clear HO301; clear BK283; clear HB; have HO_7 := n0_; have HO_284001 := n1_; have HO297 := n2_; have HO301 := n3_; have BK283 := n4_; have HB := n5_; clear n0_ n1_ n2_ n3_ n4_ n5_; (try clear hb); (try clear hb2); (try clear hk); (try clear hi); have p307 : 0 ≤ (t293 : Int) := of_decide_eq_true (by with_reducible assumption); have q307 : t293 < (t295.length : Int) := of_decide_eq_true (by with_reducible assumption); obtain ⟨ad307, e307, hx307_0⟩ := Kd.at_int (Kd.R_reads' HO297.out).2.2 t293 p307 q307; cases e307; replace p307 := eq_true p307; replace q307 := eq_true q307; have hcz54_0 : w53.cell? ⟨gb283, 0, none⟩ = some (.int .i64 t279) := (blk_cell BK283.out 0).trans rfl; have hcz54_1 : w53.cell? ⟨gb283, 1, none⟩ = some (.slice Ao11 t280.length co11) := (blk_cell BK283.out 1).trans rfl; have hfz54_0 := blk_frozen BK283.out 0; have hfz54_1 := blk_frozen BK283.out 1; obtain ⟨Ao55, co55, eo55⟩ := Kd.R_slice HO301.out; subst eo55) | (go_at_call 11; (with_reducible refine (impl_IsTiming.calls t279 _ _ t280 _ _ t299 true _ ?side1 ?side2 ?side3 ?side4 A46.out).mono ?_); (case side1 => repeat (first | exact (Kd.R_reads' HO_284001.out).2.2 | (with_reducible refine Kd.C_alloc ?_ _) | (with_reducible refine Kd.C_drewN ?_ _) | (with_reducible refine Kd.C_drew ?_))); (case side2 => exact (Kd.R_reads' HO_284001.out).2.1); (case side3 => repeat (first | exact (Kd.R_reads' HO301.out).2.2 | (with_reducible refine Kd.C_alloc ?_ _) | (with_reducible refine Kd.C_drewN ?_ _) | (with_reducible refine Kd.C_drew ?_))); (case side4 => exact (Kd.R_reads' HO301.out).2.1); rintro e w56 ⟨rfl, hb⟩; have n0_ := Aside0.mk (Kd.R_below (by (with_reducible repeat (first | apply Kd.R_alloc | apply Kd.R_drewN | apply Kd.R_drew)); exact HO_7.out) hb); have n1_ := Aside0.mk (Kd.R_below (by (with_reducible repeat (first | apply Kd.R_alloc | apply Kd.R_drewN | apply Kd.R_drew)); exact HO_284001.out) hb); have n2_ := Aside0.mk (Kd.R_below (by (with_reducible repeat (first | apply Kd.R_alloc | apply Kd.R_drewN | apply Kd.R_drew)); exact HO297.out) hb); have n3_ := Aside0.mk (Kd.R_below (by (with_reducible repeat (first | apply Kd.R_alloc | apply Kd.R_drewN | apply Kd.R_drew)); exact HO301.out) hb); have n4_ := Aside0.mk (blk_below (g := gb283) (o := .cells #[.int .i64 t279, .slice Ao11 t280.length co11] 26 (0, 0)) (by (with_reducible repeat (first | refine blk_drewN ?_ _ | refine blk_drew ?_ | refine blk_alloc ?_ _)); exact BK283.out) hb); have n5_ := Aside0.mk (below_step (by repeat (first | (with_reducible first | exact HB.out | apply below_alloc | apply pw_below_drewN | apply below_drew1 | refine below_set ?_ GE283.out) | exact HB.out)) hb); clear HO_7; clear HO_284001; clear HO297; clear HO301; clear BK283; clear HB; have HO_7 := n0_; have HO_284001 := n1_; have HO297 := n2_; have HO301 := n3_; have BK283 := n4_; have HB := n5_; clear n0_ n1_ n2_ n3_ n4_ n5_; (try clear hb); (try clear hb2); (try clear hk); (try clear hi); have p309 : 0 ≤ (t293 : Int) := of_decide_eq_true (by with_reducible assumption); have q309 : t293 < (t299.length : Int) := of_decide_eq_true (by with_reducible assumption); obtain ⟨ad309, e309, hx309_0⟩ := Kd.at_int (Kd.R_reads' HO301.out).2.2 t293 p309 q309; cases e309; replace p309 := eq_true p309; replace q309 := eq_true q309)); try go_wp2_with (first | (go_at_call 11; (with_reducible refine (impl_IsTiming.calls t279 _ _ t280 _ _ t295 true _ ?side1 ?side2 ?side3 ?side4 A40.out).mono ?_); (case side1 => repeat (first | exact (Kd.R_reads' HO_284001.out).2.2 | (with_reducible refine Kd.C_alloc ?_ _) | (with_reducible refine Kd.C_drewN ?_ _) | (with_reducible refine Kd.C_drew ?_))); (case side2 => exact (Kd.R_reads' HO_284001.out).2.1); (case side3 => repeat (first | exact (Kd.R_reads' HO297.out).2.2 | (with_reducible refine Kd.C_alloc ?_ _) | (with_reducible refine Kd.C_drewN ?_ _) | (with_reducible refine Kd.C_drew ?_))); (case side4 => exact (Kd.R_reads' HO297.out).2.1); rintro e w53 ⟨rfl, hb⟩; have n0_ := Aside0.mk (Kd.R_below (by (with_reducible repeat (first | apply Kd.R_alloc | apply Kd.R_drewN | apply Kd.R_drew)); exact HO_7.out) hb); have n1_ := Aside0.mk (Kd.R_below (by (with_reducible repeat (first | apply Kd.R_alloc | apply Kd.R_drewN | apply Kd.R_drew)); exact HO_284001.out) hb); have n2_ := Aside0.mk (Kd.R_below (by (with_reducible repeat (first | apply Kd.R_alloc | apply Kd.R_drewN | apply Kd.R_drew)); exact HO297.out) hb); have n3_ := Aside0.mk (Kd.R_below (by (with_reducible repeat (first | apply Kd.R_alloc | apply Kd.R_drewN | apply Kd.R_drew)); exact HO301.out) hb); have n4_ := Aside0.mk (blk_below (g := gb283) (o := .cells #[.int .i64 t279, .slice Ao11 t280.length co11] 26 (0, 0)) (by (with_reducible repeat (first | refine blk_drewN ?_ _ | refine blk_drew ?_ | refine blk_alloc ?_ _)); exact BK283.out) hb); have n5_ := Aside0.mk (below_step (by repeat (first | (with_reducible first | exact HB.out | apply below_alloc | apply pw_below_drewN | apply below_drew1 | refine below_set ?_ GE283.out) | exact HB.out)) hb); clear HO_7; clear HO_284001; clear HO297; clear HO301; clear BK283; clear HB; have HO_7 := n0_; have HO_284001 := n1_; have HO297 := n2_; have HO301 := n3_; have BK283 := n4_; have HB := n5_; clear n0_ n1_ n2_ n3_ n4_ n5_; (try clear hb); (try clear hb2); (try clear hk); (try clear hi); have p307 : 0 ≤ (t293 : Int) := of_decide_eq_true (by with_reducible assumption); have q307 : t293 < (t295.length : Int) := of_decide_eq_true (by with_reducible assumption); obtain ⟨ad307, e307, hx307_0⟩ := Kd.at_int (Kd.R_reads' HO297.out).2.2 t293 p307 q307; cases e307; replace p307 := eq_true p307; replace q307 := eq_true q307; have hcz54_0 : w53.cell? ⟨gb283, 0, none⟩ = some (.int .i64 t279) := (blk_cell BK283.out 0).trans rfl; have hcz54_1 : w53.cell? ⟨gb283, 1, none⟩ = some (.slice Ao11 t280.length co11) := (blk_cell BK283.out 1).trans rfl; have hfz54_0 := blk_frozen BK283.out 0; have hfz54_1 := blk_frozen BK283.out 1; obtain ⟨Ao55, co55, eo55⟩ := Kd.R_slice HO301.out; subst eo55) | (go_at_call 11; (with_reducible refine (impl_IsTiming.calls t279 _ _ t280 _ _ t299 true _ ?side1 ?side2 ?side3 ?side4 A46.out).mono ?_); (case side1 => repeat (first | exact (Kd.R_reads' HO_284001.out).2.2 | (with_reducible refine Kd.C_alloc ?_ _) | (with_reducible refine Kd.C_drewN ?_ _) | (with_reducible refine Kd.C_drew ?_))); (case side2 => exact (Kd.R_reads' HO_284001.out).2.1); (case side3 => repeat (first | exact (Kd.R_reads' HO301.out).2.2 | (with_reducible refine Kd.C_alloc ?_ _) | (with_reducible refine Kd.C_drewN ?_ _) | (with_reducible refine Kd.C_drew ?_))); (case side4 => exact (Kd.R_reads' HO301.out).2.1); rintro e w56 ⟨rfl, hb⟩; have n0_ := Aside0.mk (Kd.R_below (by (with_reducible repeat (first | apply Kd.R_alloc | apply Kd.R_drewN | apply Kd.R_drew)); exact HO_7.out) hb); have n1_ := Aside0.mk (Kd.R_below (by (with_reducible repeat (first | apply Kd.R_alloc | apply Kd.R_drewN | apply Kd.R_drew)); exact HO_284001.out) hb); have n2_ := Aside0.mk (Kd.R_below (by (with_reducible repeat (first | apply Kd.R_alloc | apply Kd.R_drewN | apply Kd.R_drew)); exact HO297.out) hb); have n3_ := Aside0.mk (Kd.R_below (by (with_reducible repeat (first | apply Kd.R_alloc | apply Kd.R_drewN | apply Kd.R_drew)); exact HO301.out) hb); have n4_ := Aside0.mk (blk_below (g := gb283) (o := .cells #[.int .i64 t279, .slice Ao11 t280.length co11] 26 (0, 0)) (by (with_reducible repeat (first | refine blk_drewN ?_ _ | refine blk_drew ?_ | refine blk_alloc ?_ _)); exact BK283.out) hb); have n5_ := Aside0.mk (below_step (by repeat (first | (with_reducible first | exact HB.out | apply below_alloc | apply pw_below_drewN | apply below_drew1 | refine below_set ?_ GE283.out) | exact HB.out)) hb); clear HO_7; clear HO_284001; clear HO297; clear HO301; clear BK283; clear HB; have HO_7 := n0_; have HO_284001 := n1_; have HO297 := n2_; have HO301 := n3_; have BK283 := n4_; have HB := n5_; clear n0_ n1_ n2_ n3_ n4_ n5_; (try clear hb); (try clear hb2); (try clear hk); (try clear hi); have p309 : 0 ≤ (t293 : Int) := of_decide_eq_true (by with_reducible assumption); have q309 : t293 < (t299.length : Int) := of_decide_eq_true (by with_reducible assumption); obtain ⟨ad309, e309, hx309_0⟩ := Kd.at_int (Kd.R_reads' HO301.out).2.2 t293 p309 q309; cases e309; replace p309 := eq_true p309; replace q309 := eq_true q309)))
                 go_meet
                 case rel => exact ⟨_, (decide (t303 > t304)), (by first | rfl | (simp; done) | (simp [*]; done)), H', ⟨by have := HK1.out; first | omega | exact Nat.le_refl _⟩, ⟨by (with_reducible repeat (first | apply Kd.R_alloc | apply Kd.R_drewN | apply Kd.R_drew)); exact Kd.R_mono HO_7.out (fun _ hk => ⟨hk.1.2, hk.2⟩)⟩, ⟨by (with_reducible repeat (first | apply Kd.R_alloc | apply Kd.R_drewN | apply Kd.R_drew)); exact Kd.R_mono HO297.out (fun _ hk => ⟨hk.1.2, hk.2⟩)⟩, ⟨by (with_reducible repeat (first | apply Kd.R_alloc | apply Kd.R_drewN | apply Kd.R_drew)); exact Kd.R_mono HO301.out (fun _ hk => ⟨hk.1.2, hk.2⟩)⟩, ⟨by (with_reducible repeat (first | apply Kd.R_alloc | apply Kd.R_drewN | apply Kd.R_drew)); exact HO_284001.out⟩, ⟨by (with_reducible repeat (first | refine blk_drewN ?_ _ | refine blk_drew ?_ | refine blk_alloc ?_ _)); exact BK283.out⟩, ⟨by repeat (first | (with_reducible first | exact HB.out | apply below_alloc | apply pw_below_drewN | apply below_drew1 | refine below_set ?_ GE283.out) | exact HB.out)⟩⟩
                ·replace c50 := Bool.eq_false_iff.mpr c50
                 subst c50
                 have H1 : (laws_FnTimings.j1 k1 t279 t284 t287 t293 t294 t295 true t299 true t303 t304 false false) = some r := by rw [if_neg (show ¬ (false = true) by decide)] at H; exact H
                 clear H
                 have H := H1
                 clear H1
                 have H' := Aside0.mk H
                 clear H
                 have hcz57_0 : w38.cell? ⟨gb283, 0, none⟩ = some (.int .i64 t279) := (blk_cell BK283.out 0).trans rfl
                 have hcz57_1 : w38.cell? ⟨gb283, 1, none⟩ = some (.slice Ao11 t280.length co11) := (blk_cell BK283.out 1).trans rfl
                 have hfz57_0 := blk_frozen BK283.out 0
                 have hfz57_1 := blk_frozen BK283.out 1
                 obtain ⟨Ao58, co58, eo58⟩ := Kd.R_slice HO297.out
                 subst eo58
                 go_wp2_with (first | (go_at_call 11; (with_reducible refine (impl_IsTiming.calls t279 _ _ t280 _ _ t295 true _ ?side1 ?side2 ?side3 ?side4 A40.out).mono ?_); (case side1 => repeat (first | exact (Kd.R_reads' HO_284001.out).2.2 | (with_reducible refine Kd.C_alloc ?_ _) | (with_reducible refine Kd.C_drewN ?_ _) | (with_reducible refine Kd.C_drew ?_))); (case side2 => exact (Kd.R_reads' HO_284001.out).2.1); (case side3 => repeat (first | exact (Kd.R_reads' HO297.out).2.2 | (with_reducible refine Kd.C_alloc ?_ _) | (with_reducible refine Kd.C_drewN ?_ _) | (with_reducible refine Kd.C_drew ?_))); (case side4 => exact (Kd.R_reads' HO297.out).2.1); rintro e w59 ⟨rfl, hb⟩; have n0_ := Aside0.mk (Kd.R_below (by (with_reducible repeat (first | apply Kd.R_alloc | apply Kd.R_drewN | apply Kd.R_drew)); exact HO_7.out) hb); have n1_ := Aside0.mk (Kd.R_below (by (with_reducible repeat (first | apply Kd.R_alloc | apply Kd.R_drewN | apply Kd.R_drew)); exact HO_284001.out) hb); have n2_ := Aside0.mk (Kd.R_below (by (with_reducible repeat (first | apply Kd.R_alloc | apply Kd.R_drewN | apply Kd.R_drew)); exact HO297.out) hb); have n3_ := Aside0.mk (Kd.R_below (by (with_reducible repeat (first | apply Kd.R_alloc | apply Kd.R_drewN | apply Kd.R_drew)); exact HO301.out) hb); have n4_ := Aside0.mk (blk_below (g := gb283) (o := .cells #[.int .i64 t279, .slice Ao11 t280.length co11] 26 (0, 0)) (by (with_reducible repeat (first | refine blk_drewN ?_ _ | refine blk_drew ?_ | refine blk_alloc ?_ _)); exact BK283.out) hb); have n5_ := Aside0.mk (below_step (by repeat (first | (with_reducible first | exact HB.out | apply below_alloc | apply pw_below_drewN | apply below_drew1 | refine below_set ?_ GE283.out) | exact HB.out)) hb); clear HO_7; clear HO_284001; clear HO297; clear HO301; clear BK283; clear HB; have HO_7 := n0_; have HO_284001 := n1_; have HO297 := n2_; have HO301 := n3_; have BK283 := n4_; have HB := n5_; clear n0_ n1_ n2_ n3_ n4_ n5_; (try clear hb); (try clear hb2); (try clear hk); (try clear hi); have p307 : 0 ≤ (t293 : Int) := of_decide_eq_true (by with_reducible assumption); have q307 : t293 < (t295.length : Int) := of_decide_eq_true (by with_reducible assumption); obtain ⟨ad307, e307, hx307_0⟩ := Kd.at_int (Kd.R_reads' HO297.out).2.2 t293 p307 q307; cases e307; replace p307 := eq_true p307; replace q307 := eq_true q307; have hcz60_0 : w59.cell? ⟨gb283, 0, none⟩ = some (.int .i64 t279) := (blk_cell BK283.out 0).trans rfl; have hcz60_1 : w59.cell? ⟨gb283, 1, none⟩ = some (.slice Ao11 t280.length co11) := (blk_cell BK283.out 1).trans rfl; have hfz60_0 := blk_frozen BK283.out 0; have hfz60_1 := blk_frozen BK283.out 1; obtain ⟨Ao61, co61, eo61⟩ := Kd.R_slice HO301.out; subst eo61) | (go_at_call 11; (with_reducible refine (impl_IsTiming.calls t279 _ _ t280 _ _ t299 true _ ?side1 ?side2 ?side3 ?side4 A46.out).mono ?_); (case side1 => repeat (first | exact (Kd.R_reads' HO_284001.out).2.2 | (with_reducible refine Kd.C_alloc ?_ _) | (with_reducible refine Kd.C_drewN ?_ _) | (with_reducible refine Kd.C_drew ?_))); (case side2 => exact (Kd.R_reads' HO_284001.out).2.1); (case side3 => repeat (first | exact (Kd.R_reads' HO301.out).2.2 | (with_reducible refine Kd.C_alloc ?_ _) | (with_reducible refine Kd.C_drewN ?_ _) | (with_reducible refine Kd.C_drew ?_))); (case side4 => exact (Kd.R_reads' HO301.out).2.1); rintro e w62 ⟨rfl, hb⟩; have n0_ := Aside0.mk (Kd.R_below (by (with_reducible repeat (first | apply Kd.R_alloc | apply Kd.R_drewN | apply Kd.R_drew)); exact HO_7.out) hb); have n1_ := Aside0.mk (Kd.R_below (by (with_reducible repeat (first | apply Kd.R_alloc | apply Kd.R_drewN | apply Kd.R_drew)); exact HO_284001.out) hb); have n2_ := Aside0.mk (Kd.R_below (by (with_reducible repeat (first | apply Kd.R_alloc | apply Kd.R_drewN | apply Kd.R_drew)); exact HO297.out) hb); have n3_ := Aside0.mk (Kd.R_below (by (with_reducible repeat (first | apply Kd.R_alloc | apply Kd.R_drewN | apply Kd.R_drew)); exact HO301.out) hb); have n4_ := Aside0.mk (blk_below (g := gb283) (o := .cells #[.int .i64 t279, .slice Ao11 t280.length co11] 26 (0, 0)) (by (with_reducible repeat (first | refine blk_drewN ?_ _ | refine blk_drew ?_ | refine blk_alloc ?_ _)); exact BK283.out) hb); have n5_ := Aside0.mk (below_step (by repeat (first | (with_reducible first | exact HB.out | apply below_alloc | apply pw_below_drewN | apply below_drew1 | refine below_set ?_ GE283.out) | exact HB.out)) hb); clear HO_7; clear HO_284001; clear HO297; clear HO301; clear BK283; clear HB; have HO_7 := n0_; have HO_284001 := n1_; have HO297 := n2_; have HO301 := n3_; have BK283 := n4_; have HB := n5_; clear n0_ n1_ n2_ n3_ n4_ n5_; (try clear hb); (try clear hb2); (try clear hk); (try clear hi); have p309 : 0 ≤ (t293 : Int) := of_decide_eq_true (by with_reducible assumption); have q309 : t293 < (t299.length : Int) := of_decide_eq_true (by with_reducible assumption); obtain ⟨ad309, e309, hx309_0⟩ := Kd.at_int (Kd.R_reads' HO301.out).2.2 t293 p309 q309; cases e309; replace p309 := eq_true p309; replace q309 := eq_true q309))
                 repeat (go_quiet (first | (go_at_call 11; (with_reducible refine (impl_IsTiming.calls t279 _ _ t280 _ _ t295 true _ ?side1 ?side2 ?side3 ?side4 A40.out).mono ?_); (case side1 => repeat (first | exact (Kd.R_reads' HO_284001.out).2.2 | (with_reducible refine Kd.C_alloc ?_ _) | (with_reducible refine Kd.C_drewN ?_ _) | (with_reducible refine Kd.C_drew ?_))); (case side2 => exact (Kd.R_reads' HO_284001.out).2.1); (case side3 => repeat (first | exact (Kd.R_reads' HO297.out).2.2 | (with_reducible refine Kd.C_alloc ?_ _) | (with_reducible refine Kd.C_drewN ?_ _) | (with_reducible refine Kd.C_drew ?_))); (case side4 => exact (Kd.R_reads' HO297.out).2.1); rintro e w59 ⟨rfl, hb⟩; have n0_ := Aside0.mk (Kd.R_below (by (with_reducible repeat (first | apply Kd.R_alloc | apply Kd.R_drewN | apply Kd.R_drew)); exact HO_7.out) hb); have n1_ := Aside0.mk (Kd.R_below (by (with_reducible repeat (first | apply Kd.R_alloc | apply Kd.R_drewN | apply Kd.R_drew)); exact HO_284001.out) hb); have n2_ := Aside0.mk (Kd.R_below (by (with_reducible repeat (first | apply Kd.R_alloc | apply Kd.R_drewN | apply Kd.R_drew)); exact HO297.out) hb); have n3_ := Aside0.mk (Kd.R_below (by (with_reducible repeat (first | apply Kd.R_alloc | apply Kd.R_drewN | apply Kd.R_drew)); exact HO301.out) hb); have n4_ := Aside0.mk (blk_below (g := gb283) (o := .cells #[.int .i64 t279, .slice Ao11 t280.length co11] 26 (0, 0)) (by (with_reducible repeat (first | refine blk_drewN ?_ _ | refine blk_drew ?_ | refine blk_alloc ?_ _)); exact BK283.out) hb); have n5_ := Aside0.mk (below_step (by repeat (first | (with_reducible first | exact HB.out | apply below_alloc | apply pw_below_drewN | apply below_drew1 | refine below_set ?_ GE283.out) | exact HB.out)) hb); clear HO_7; clear HO_284001; clear HO297; clear HO301; clear BK283; clear HB; have HO_7 := n0_; have HO_284001 := n1_; have HO297 := n2_; have HO301 := n3_; have BK283 := n4_; have HB := n5_; clear n0_ n1_ n2_ n3_ n4_ n5_; (try clear hb); (try clear hb2); (try clear hk); (try clear hi); have p307 : 0 ≤ (t293 : Int) := of_decide_eq_true (by with_reducible assumption); have q307 : t293 < (t295.length : Int) := of_decide_eq_true (by with_reducible assumption); obtain ⟨ad307, e307, hx307_0⟩ := Kd.at_int (Kd.R_reads' HO297.out).2.2 t293 p307 q307; cases e307; replace p307 := eq_true p307; replace q307 := eq_true q307; have hcz60_0 : w59.cell? ⟨gb283, 0, none⟩ = some (.int .i64 t279) := (blk_cell BK283.out 0).trans rfl; have hcz60_1 : w59.cell? ⟨gb283, 1, none⟩ = some (.slice Ao11 t280.length co11) := (blk_cell BK283.out 1).trans rfl; have hfz60_0 := blk_frozen BK283.out 0; have hfz60_1 := blk_frozen BK283.out 1; obtain ⟨Ao61, co61, eo61⟩ := Kd.R_slice HO301.out; subst eo61) | (go_at_call 11; (with_reducible refine (impl_IsTiming.calls t279 _ _ t280 _ _ t299 true _ ?side1 ?side2 ?side3 ?side4 A46.out).mono ?_); (case side1 => repeat (first | exact (Kd.R_reads' HO_284001.out).2.2 | (with_reducible refine Kd.C_alloc ?_ _) | (with_reducible refine Kd.C_drewN ?_ _) | (with_reducible refine Kd.C_drew ?_))); (case side2 => exact (Kd.R_reads' HO_284001.out).2.1); (case side3 => repeat (first | exact (Kd.R_reads' HO301.out).2.2 | (with_reducible refine Kd.C_alloc ?_ _) | (with_reducible refine Kd.C_drewN ?_ _) | (with_reducible refine Kd.C_drew ?_))); (case side4 => exact (Kd.R_reads' HO301.out).2.1); rintro e w62 ⟨rfl, hb⟩; have n0_ := Aside0.mk (Kd.R_below (by (with_reducible repeat (first | apply Kd.R_alloc | apply Kd.R_drewN | apply Kd.R_drew)); exact HO_7.out) hb); have n1_ := Aside0.mk (Kd.R_below (by (with_reducible repeat (first | apply Kd.R_alloc | apply Kd.R_drewN | apply Kd.R_drew)); exact HO_284001.out) hb); have n2_ := Aside0.mk (Kd.R_below (by (with_reducible repeat (first | apply Kd.R_alloc | apply Kd.R_drewN | apply Kd.R_drew)); exact HO297.out) hb); have n3_ := Aside0.mk (Kd.R_below (by (with_reducible repeat (first | apply Kd.R_alloc | apply Kd.R_drewN | apply Kd.R_drew)); exact HO301.out) hb); have n4_ := Aside0.mk (blk_below (g := gb283) (o := .cells #[.int .i64 t279, .slice Ao11 t280.length co11] 26 (0, 0)) (by (with_reducible repeat (first | refine blk_drewN ?_ _ | refine blk_drew ?_ | refine blk_alloc ?_ _)); exact BK283.out) hb); have n5_ := Aside0.mk (below_step (by repeat (first | (with_reducible first | exact HB.out | apply below_alloc | apply pw_below_drewN | apply below_drew1 | refine below_set ?_ GE283.out) | exact HB.out)) hb); clear HO_7; clear HO_284001; clear HO297; clear HO301; clear BK283; clear HB; have HO_7 := n0_; have HO_284001 := n1_; have HO297 := n2_; have HO301 := n3_; have BK283 := n4_; have HB := n5_; clear n0_ n1_ n2_ n3_ n4_ n5_; (try clear hb); (try clear hb2); (try clear hk); (try clear hi); have p309 : 0 ≤ (t293 : Int) := of_decide_eq_true (by with_reducible assumption); have q309 : t293 < (t299.length : Int) := of_decide_eq_true (by with_reducible assumption); obtain ⟨ad309, e309, hx309_0⟩ := Kd.at_int (Kd.R_reads' HO301.out).2.2 t293 p309 q309; cases e309; replace p309 := eq_true p309; replace q309 := eq_true q309)); try go_wp2_with (first | (go_at_call 11; (with_reducible refine (impl_IsTiming.calls t279 _ _ t280 _ _ t295 true _ ?side1 ?side2 ?side3 ?side4 A40.out).mono ?_); (case side1 => repeat (first | exact (Kd.R_reads' HO_284001.out).2.2 | (with_reducible refine Kd.C_alloc ?_ _) | (with_reducible refine Kd.C_drewN ?_ _) | (with_reducible refine Kd.C_drew ?_))); (case side2 => exact (Kd.R_reads' HO_284001.out).2.1); (case side3 => repeat (first | exact (Kd.R_reads' HO297.out).2.2 | (with_reducible refine Kd.C_alloc ?_ _) | (with_reducible refine Kd.C_drewN ?_ _) | (with_reducible refine Kd.C_drew ?_))); (case side4 => exact (Kd.R_reads' HO297.out).2.1); rintro e w59 ⟨rfl, hb⟩; have n0_ := Aside0.mk (Kd.R_below (by (with_reducible repeat (first | apply Kd.R_alloc | apply Kd.R_drewN | apply Kd.R_drew)); exact HO_7.out) hb); have n1_ := Aside0.mk (Kd.R_below (by (with_reducible repeat (first | apply Kd.R_alloc | apply Kd.R_drewN | apply Kd.R_drew)); exact HO_284001.out) hb); have n2_ := Aside0.mk (Kd.R_below (by (with_reducible repeat (first | apply Kd.R_alloc | apply Kd.R_drewN | apply Kd.R_drew)); exact HO297.out) hb); have n3_ := Aside0.mk (Kd.R_below (by (with_reducible repeat (first | apply Kd.R_alloc | apply Kd.R_drewN | apply Kd.R_drew)); exact HO301.out) hb); have n4_ := Aside0.mk (blk_below (g := gb283) (o := .cells #[.int .i64 t279, .slice Ao11 t280.length co11] 26 (0, 0)) (by (with_reducible repeat (first | refine blk_drewN ?_ _ | refine blk_drew ?_ | refine blk_alloc ?_ _)); exact BK283.out) hb); have n5_ := Aside0.mk (below_step (by repeat (first | (with_reducible first | exact HB.out | apply below_alloc | apply pw_below_drewN | apply below_drew1 | refine below_set ?_ GE283.out) | exact HB.out)) hb); clear HO_7; clear HO_284001; clear HO297; clear HO301; clear BK283; clear HB; have HO_7 := n0_; have HO_284001 := n1_; have HO297 := n2_; have HO301 := n3_; have BK283 := n4_; have HB := n5_; clear n0_ n1_ n2_ n3_ n4_ n5_; (try clear hb); (try clear hb2); (try clear hk); (try clear hi); have p307 : 0 ≤ (t293 : Int) := of_decide_eq_true (by with_reducible assumption); have q307 : t293 < (t295.length : Int) := of_decide_eq_true (by with_reducible assumption); obtain ⟨ad307, e307, hx307_0⟩ := Kd.at_int (Kd.R_reads' HO297.out).2.2 t293 p307 q307; cases e307; replace p307 := eq_true p307; replace q307 := eq_true q307; have hcz60_0 : w59.cell? ⟨gb283, 0, none⟩ = some (.int .i64 t279) := (blk_cell BK283.out 0).trans rfl; have hcz60_1 : w59.cell? ⟨gb283, 1, none⟩ = some (.slice Ao11 t280.length co11) := (blk_cell BK283.out 1).trans rfl; have hfz60_0 := blk_frozen BK283.out 0; have hfz60_1 := blk_frozen BK283.out 1; obtain ⟨Ao61, co61, eo61⟩ := Kd.R_slice HO301.out; subst eo61) | (go_at_call 11; (with_reducible refine (impl_IsTiming.calls t279 _ _ t280 _ _ t299 true _ ?side1 ?side2 ?side3 ?side4 A46.out).mono ?_); (case side1 => repeat (first | exact (Kd.R_reads' HO_284001.out).2.2 | (with_reducible refine Kd.C_alloc ?_ _) | (with_reducible refine Kd.C_drewN ?_ _) | (with_reducible refine Kd.C_drew ?_))); (case side2 => exact (Kd.R_reads' HO_284001.out).2.1); (case side3 => repeat (first | exact (Kd.R_reads' HO301.out).2.2 | (with_reducible refine Kd.C_alloc ?_ _) | (with_reducible refine Kd.C_drewN ?_ _) | (with_reducible refine Kd.C_drew ?_))); (case side4 => exact (Kd.R_reads' HO301.out).2.1); rintro e w62 ⟨rfl, hb⟩; have n0_ := Aside0.mk (Kd.R_below (by (with_reducible repeat (first | apply Kd.R_alloc | apply Kd.R_drewN | apply Kd.R_drew)); exact HO_7.out) hb); have n1_ := Aside0.mk (Kd.R_below (by (with_reducible repeat (first | apply Kd.R_alloc | apply Kd.R_drewN | apply Kd.R_drew)); exact HO_284001.out) hb); have n2_ := Aside0.mk (Kd.R_below (by (with_reducible repeat (first | apply Kd.R_alloc | apply Kd.R_drewN | apply Kd.R_drew)); exact HO297.out) hb); have n3_ := Aside0.mk (Kd.R_below (by (with_reducible repeat (first | apply Kd.R_alloc | apply Kd.R_drewN | apply Kd.R_drew)); exact HO301.out) hb); have n4_ := Aside0.mk (blk_below (g := gb283) (o := .cells #[.int .i64 t279, .slice Ao11 t280.length co11] 26 (0, 0)) (by (with_reducible repeat (first | refine blk_drewN ?_ _ | refine blk_drew ?_ | refine blk_alloc ?_ _)); exact BK283.out) hb); have n5_ := Aside0.mk (below_step (by repeat (first | (with_reducible first | exact HB.out | apply below_alloc | apply pw_below_drewN | apply below_drew1 | refine below_set ?_ GE283.out) | exact HB.out)) hb); clear HO_7; clear HO_284001; clear HO297; clear HO301; clear BK283; clear HB; have HO_7 := n0_; have HO_284001 := n1_; have HO297 := n2_; have HO301 := n3_; have BK283 := n4_; have HB := n5_; clear n0_ n1_ n2_ n3_ n4_ n5_; (try clear hb); (try clear hb2); (try clear hk); (try clear hi); have p309 : 0 ≤ (t293 : Int) := of_decide_eq_true (by with_reducible assumption); have q309 : t293 < (t299.length : Int) := of_decide_eq_true (by with_reducible assumption); obtain ⟨ad309, e309, hx309_0⟩ := Kd.at_int (Kd.R_reads' HO301.out).2.2 t293 p309 q309; cases e309; replace p309 := eq_true p309; replace q309 := eq_true q309)))
                 go_meet
                 case rel => exact ⟨_, (false), (by first | rfl | (simp; done) | (simp [*]; done)), H', ⟨by have := HK1.out; first | omega | exact Nat.le_refl _⟩, ⟨by (with_reducible repeat (first | apply Kd.R_alloc | apply Kd.R_drewN | apply Kd.R_drew)); exact Kd.R_mono HO_7.out (fun _ hk => ⟨hk.1.2, hk.2⟩)⟩, ⟨by (with_reducible repeat (first | apply Kd.R_alloc | apply Kd.R_drewN | apply Kd.R_drew)); exact Kd.R_mono HO297.out (fun _ hk => ⟨hk.1.2, hk.2⟩)⟩, ⟨by (with_reducible repeat (first | apply Kd.R_alloc | apply Kd.R_drewN | apply Kd.R_drew)); exact Kd.R_mono HO301.out (fun _ hk => ⟨hk.1.2, hk.2⟩)⟩, ⟨by (with_reducible repeat (first | apply Kd.R_alloc | apply Kd.R_drewN | apply Kd.R_drew)); exact HO_284001.out⟩, ⟨by (with_reducible repeat (first | refine blk_drewN ?_ _ | refine blk_drew ?_ | refine blk_alloc ?_ _)); exact BK283.out⟩, ⟨by repeat (first | (with_reducible first | exact HB.out | apply below_alloc | apply pw_below_drewN | apply below_drew1 | refine below_set ?_ GE283.out) | exact HB.out)⟩⟩
               ·rw [if_neg c49] at H
                have c49b0 : ((rd t299 t293) == 0) = false := beq_eq_false_iff_ne.mpr c49
                have c49b1 : ((rd t299 t293) != 0) = true := bne_iff_ne.mpr c49
                have H' := Aside0.mk H
                clear H
                have hcz63_0 : w38.cell? ⟨gb283, 0, none⟩ = some (.int .i64 t279) := (blk_cell BK283.out 0).trans rfl
                have hcz63_1 : w38.cell? ⟨gb283, 1, none⟩ = some (.slice Ao11 t280.length co11) := (blk_cell BK283.out 1).trans rfl
                have hfz63_0 := blk_frozen BK283.out 0
                have hfz63_1 := blk_frozen BK283.out 1
                obtain ⟨Ao64, co64, eo64⟩ := Kd.R_slice HO297.out
                subst eo64
                go_wp2_with (first | (go_at_call 11; (with_reducible refine (impl_IsTiming.calls t279 _ _ t280 _ _ t295 true _ ?side1 ?side2 ?side3 ?side4 A40.out).mono ?_); (case side1 => repeat (first | exact (Kd.R_reads' HO_284001.out).2.2 | (with_reducible refine Kd.C_alloc ?_ _) | (with_reducible refine Kd.C_drewN ?_ _) | (with_reducible refine Kd.C_drew ?_))); (case side2 => exact (Kd.R_reads' HO_284001.out).2.1); (case side3 => repeat (first | exact (Kd.R_reads' HO297.out).2.2 | (with_reducible refine Kd.C_alloc ?_ _) | (with_reducible refine Kd.C_drewN ?_ _) | (with_reducible refine Kd.C_drew ?_))); (case side4 => exact (Kd.R_reads' HO297.out).2.1); rintro e w65 ⟨rfl, hb⟩; have n0_ := Aside0.mk (Kd.R_below (by (with_reducible repeat (first | apply Kd.R_alloc | apply Kd.R_drewN | apply Kd.R_drew)); exact HO_7.out) hb); have n1_ := Aside0.mk (Kd.R_below (by (with_reducible repeat (first | apply Kd.R_alloc | apply Kd.R_drewN | apply Kd.R_drew)); exact HO_284001.out) hb); have n2_ := Aside0.mk (Kd.R_below (by (with_reducible repeat (first | apply Kd.R_alloc | apply Kd.R_drewN | apply Kd.R_drew)); exact HO297.out) hb); have n3_ := Aside0.mk (Kd.R_below (by (with_reducible repeat (first | apply Kd.R_alloc | apply Kd.R_drewN | apply Kd.R_drew)); exact HO301.out) hb); have n4_ := Aside0.mk (blk_below (g := gb283) (o := .cells #[.int .i64 t279, .slice Ao11 t280.length co11] 26 (0, 0)) (by (with_reducible repeat (first | refine blk_drewN ?_ _ | refine blk_drew ?_ | refine blk_alloc ?_ _)); exact BK283.out) hb); have n5_ := Aside0.mk (below_step (by repeat (first | (with_reducible first | exact HB.out | apply below_alloc | apply pw_below_drewN | apply below_drew1 | refine below_set ?_ GE283.out) | exact HB.out)) hb); clear HO_7; clear HO_284001; clear HO297; clear HO301; clear BK283; clear HB; have HO_7 := n0_; have HO_284001 := n1_; have HO297 := n2_; have HO301 := n3_; have BK283 := n4_; have HB := n5_; clear n0_ n1_ n2_ n3_ n4_ n5_; (try clear hb); (try clear hb2); (try clear hk); (try clear hi); have p307 : 0 ≤ (t293 : Int) := of_decide_eq_true (by with_reducible assumption); have q307 : t293 < (t295.length : Int) := of_decide_eq_true (by with_reducible assumption); obtain ⟨ad307, e307, hx307_0⟩ := Kd.at_int (Kd.R_reads' HO297.out).2.2 t293 p307 q307; cases e307; replace p307 := eq_true p307; replace q307 := eq_true q307; have hcz66_0 : w65.cell? ⟨gb283, 0, none⟩ = some (.int .i64 t279) := (blk_cell BK283.out 0).trans rfl; have hcz66_1 : w65.cell? ⟨gb283, 1, none⟩ = some (.slice Ao11 t280.length co11) := (blk_cell BK283.out 1).trans rfl; have hfz66_0 := blk_frozen BK283.out 0; have hfz66_1 := blk_frozen BK283.out 1; obtain ⟨Ao67, co67, eo67⟩ := Kd.R_slice HO301.out; subst eo67) | (go_at_call 11; (with_reducible refine (impl_IsTiming.calls t279 _ _ t280 _ _ t299 true _ ?side1 ?side2 ?side3 ?side4 A46.out).mono ?_); (case side1 => repeat (first | exact (Kd.R_reads' HO_284001.out).2.2 | (with_reducible refine Kd.C_alloc ?_ _) | (with_reducible refine Kd.C_drewN ?_ _) | (with_reducible refine Kd.C_drew ?_))); (case side2 => exact (Kd.R_reads' HO_284001.out).2.1); (case side3 => repeat (first | exact (Kd.R_reads' HO301.out).2.2 | (with_reducible refine Kd.C_alloc ?_ _) | (with_reducible refine Kd.C_drewN ?_ _) | (with_reducible refine Kd.C_drew ?_))); (case side4 => exact (Kd.R_reads' HO301.out).2.1); rintro e w68 ⟨rfl, hb⟩; have n0_ := Aside0.mk (Kd.R_below (by (with_reducible repeat (first | apply Kd.R_alloc | apply Kd.R_drewN | apply Kd.R_drew)); exact HO_7.out) hb); have n1_ := Aside0.mk (Kd.R_below (by (with_reducible repeat (first | apply Kd.R_alloc | apply Kd.R_drewN | apply Kd.R_drew)); exact HO_284001.out) hb); have n2_ := Aside0.mk (Kd.R_below (by (with_reducible repeat (first | apply Kd.R_alloc | apply Kd.R_drewN | apply Kd.R_drew)); exact HO297.out) hb); have n3_ := Aside0.mk (Kd.R_below (by (with_reducible repeat (first | apply Kd.R_alloc | apply Kd.R_drewN | apply Kd.R_drew)); exact HO301.out) hb); have n4_ := Aside0.mk (blk_below (g := gb283) (o := .cells #[.int .i64 t279, .slice Ao11 t280.length co11] 26 (0, 0)) (by (with_reducible repeat (first | refine blk_drewN ?_ _ | refine blk_drew ?_ | refine blk_alloc ?_ _)); exact BK283.out) hb); have n5_ := Aside0.mk (below_step (by repeat (first | (with_reducible first | exact HB.out | apply below_alloc | apply pw_below_drewN | apply below_drew1 | refine below_set ?_ GE283.out) | exact HB.out)) hb); clear HO_7; clear HO_284001; clear HO297; clear HO301; clear BK283; clear HB; have HO_7 := n0_; have HO_284001 := n1_; have HO297 := n2_; have HO301 := n3_; have BK283 := n4_; have HB := n5_; clear n0_ n1_ n2_ n3_ n4_ n5_; (try clear hb); (try clear hb2); (try clear hk); (try clear hi); have p309 : 0 ≤ (t293 : Int) := of_decide_eq_true (by with_reducible assumption); have q309 : t293 < (t299.length : Int) := of_decide_eq_true (by with_reducible assumption); obtain ⟨ad309, e309, hx309_0⟩ := Kd.at_int (Kd.R_reads' HO301.out).2.2 t293 p309 q309; cases e309; replace p309 := eq_true p309; replace q309 := eq_true q309))
                repeat (go_quiet (first | (go_at_call 11; (with_reducible refine (impl_IsTiming.calls t279 _ _ t280 _ _ t295 true _ ?side1 ?side2 ?side3 ?side4 A40.out).mono ?_); (case side1 => repeat (first | exact (Kd.R_reads' HO_284001.out).2.2 | (with_reducible refine Kd.C_alloc ?_ _) | (with_reducible refine Kd.C_drewN ?_ _) | (with_reducible refine Kd.C_drew ?_))); (case side2 => exact (Kd.R_reads' HO_284001.out).2.1); (case side3 => repeat (first | exact (Kd.R_reads' HO297.out).2.2 | (with_reducible refine Kd.C_alloc ?_ _) | (with_reducible refine Kd.C_drewN ?_ _) | (with_reducible refine Kd.C_drew ?_))); (case side4 => exact (Kd.R_reads' HO297.out).2.1); rintro e w65 ⟨rfl, hb⟩; have n0_ := Aside0.mk (Kd.R_below (by (with_reducible repeat (first | apply Kd.R_alloc | apply Kd.R_drewN | apply Kd.R_drew)); exact HO_7.out) hb); have n1_ := Aside0.mk (Kd.R_below (by (with_reducible repeat (first | apply Kd.R_alloc | apply Kd.R_drewN | apply Kd.R_drew)); exact HO_284001.out) hb); have n2_ := Aside0.mk (Kd.R_below (by (with_reducible repeat (first | apply Kd.R_alloc | apply Kd.R_drewN | apply Kd.R_drew)); exact HO297.out) hb); have n3_ := Aside0.mk (Kd.R_below (by (with_reducible repeat (first | apply Kd.R_alloc | apply Kd.R_drewN | apply Kd.R_drew)); exact HO301.out) hb); have n4_ := Aside0.mk (blk_below (g := gb283) (o := .cells #[.int .i64 t279, .slice Ao11 t280.length co11] 26 (0, 0)) (by (with_reducible repeat (first | refine blk_drewN ?_ _ | refine blk_drew ?_ | refine blk_alloc ?_ _)); exact BK283.out) hb); have n5_ := Aside0.mk (below_step (by repeat (first | (with_reducible first | exact HB.out | apply below_alloc | apply pw_below_drewN | apply below_drew1 | refine below_set ?_ GE283.out) | exact HB.out)) hb); clear HO_7; clear HO_284001; clear HO297; clear HO301; clear BK283; clear HB; have HO_7 := n0_; have HO_284001 := n1_; have HO297 := n2_; have HO301 := n3_; have BK283 := n4_; have HB := n5_; clear n0_ n1_ n2_ n3_ n4_ n5_; (try clear hb); (try clear hb2); (try clear hk); (try clear hi); have p307 : 0 ≤ (t293 : Int) := of_decide_eq_true (by with_reducible assumption); have q307 : t293 < (t295.length : Int) := of_decide_eq_true (by with_reducible assumption); obtain ⟨ad307, e307, hx307_0⟩ := Kd.at_int (Kd.R_reads' HO297.out).2.2 t293 p307 q307; cases e307; replace p307 := eq_true p307; replace q307 := eq_true q307; have hcz66_0 : w65.cell? ⟨gb283, 0, none⟩ = some (.int .i64 t279) := (blk_cell BK283.out 0).trans rfl; have hcz66_1 : w65.cell? ⟨gb283, 1, none⟩ = some (.slice Ao11 t280.length co11) := (blk_cell BK283.out 1).trans rfl; have hfz66_0 := blk_frozen BK283.out 0; have hfz66_1 := blk_frozen BK283.out 1; obtain ⟨Ao67, co67, eo67⟩ := Kd.R_slice HO301.out; subst eo67) | (go_at_call 11; (with_reducible refine (impl_IsTiming.calls t279 _ _ t280 _ _ t299 true _ ?side1 ?side2 ?side3 ?side4 A46.out).mono ?_); (case side1 => repeat (first | exact (Kd.R_reads' HO_284001.out).2.2 | (with_reducible refine Kd.C_alloc ?_ _) | (with_reducible refine Kd.C_drewN ?_ _) | (with_reducible refine Kd.C_drew ?_))); (case side2 => exact (Kd.R_reads' HO_284001.out).2.1); (case side3 => repeat (first | exact (Kd.R_reads' HO301.out).2.2 | (with_reducible refine Kd.C_alloc ?_ _) | (with_reducible refine Kd.C_drewN ?_ _) | (with_reducible refine Kd.C_drew ?_))); (case side4 => exact (Kd.R_reads' HO301.out).2.1); rintro e w68 ⟨rfl, hb⟩; have n0_ := Aside0.mk (Kd.R_below (by (with_reducible repeat (first | apply Kd.R_alloc | apply Kd.R_drewN | apply Kd.R_drew)); exact HO_7.out) hb); have n1_ := Aside0.mk (Kd.R_below (by (with_reducible repeat (first | apply Kd.R_alloc | apply Kd.R_drewN | apply Kd.R_drew)); exact HO_284001.out) hb); have n2_ := Aside0.mk (Kd.R_below (by (with_reducible repeat (first | apply Kd.R_alloc | apply Kd.R_drewN | apply Kd.R_drew)); exact HO297.out) hb); have n3_ := Aside0.mk (Kd.R_below (by (with_reducible repeat (first | apply Kd.R_alloc | apply Kd.R_drewN | apply Kd.R_drew)); exact HO301.out) hb); have n4_ := Aside0.mk (blk_below (g := gb283) (o := .cells #[.int .i64 t279, .slice Ao11 t280.length co11] 26 (0, 0)) (by (with_reducible repeat (first | refine blk_drewN ?_ _ | refine blk_drew ?_ | refine blk_alloc ?_ _)); exact BK283.out) hb); have n5_ := Aside0.mk (below_step (by repeat (first | (with_reducible first | exact HB.out | apply below_alloc | apply pw_below_drewN | apply below_drew1 | refine below_set ?_ GE283.out) | exact HB.out)) hb); clear HO_7; clear HO_284001; clear HO297; clear HO301; clear BK283; clear HB; have HO_7 := n0_; have HO_284001 := n1_; have HO297 := n2_; have HO301 := n3_; have BK283 := n4_; have HB := n5_; clear n0_ n1_ n2_ n3_ n4_ n5_; (try clear hb); (try clear hb2); (try clear hk); (try clear hi); have p309 : 0 ≤ (t293 : Int) := of_decide_eq_true (by with_reducible assumption); have q309 : t293 < (t299.length : Int) := of_decide_eq_true (by with_reducible assumption); obtain ⟨ad309, e309, hx309_0⟩ := Kd.at_int (Kd.R_reads' HO301.out).2.2 t293 p309 q309; cases e309; replace p309 := eq_true p309; replace q309 := eq_true q309)); try go_wp2_with (first | (go_at_call 11; (with_reducible refine (impl_IsTiming.calls t279 _ _ t280 _ _ t295 true _ ?side1 ?side2 ?side3 ?side4 A40.out).mono ?_); (case side1 => repeat (first | exact (Kd.R_reads' HO_284001.out).2.2 | (with_reducible refine Kd.C_alloc ?_ _) | (with_reducible refine Kd.C_drewN ?_ _) | (with_reducible refine Kd.C_drew ?_))); (case side2 => exact (Kd.R_reads' HO_284001.out).2.1); (case side3 => repeat (first | exact (Kd.R_reads' HO297.out).2.2 | (with_reducible refine Kd.C_alloc ?_ _) | (with_reducible refine Kd.C_drewN ?_ _) | (with_reducible refine Kd.C_drew ?_))); (case side4 => exact (Kd.R_reads' HO297.out).2.1); rintro e w65 ⟨rfl, hb⟩; have n0_ := Aside0.mk (Kd.R_below (by (with_reducible repeat (first | apply Kd.R_alloc | apply Kd.R_drewN | apply Kd.R_drew)); exact HO_7.out) hb); have n1_ := Aside0.mk (Kd.R_below (by (with_reducible repeat (first | apply Kd.R_alloc | apply Kd.R_drewN | apply Kd.R_drew)); exact HO_284001.out) hb); have n2_ := Aside0.mk (Kd.R_below (by (with_reducible repeat (first | apply Kd.R_alloc | apply Kd.R_drewN | apply Kd.R_drew)); exact HO297.out) hb); have n3_ := Aside0.mk (Kd.R_below (by (with_reducible repeat (first | apply Kd.R_alloc | apply Kd.R_drewN | apply Kd.R_drew)); exact HO301.out) hb); have n4_ := Aside0.mk (blk_below (g := gb283) (o := .cells #[.int .i64 t279, .slice Ao11 t280.length co11] 26 (0, 0)) (by (with_reducible repeat (first | refine blk_drewN ?_ _ | refine blk_drew ?_ | refine blk_alloc ?_ _)); exact BK283.out) hb); have n5_ := Aside0.mk (below_step (by repeat (first | (with_reducible first | exact HB.out | apply below_alloc | apply pw_below_drewN | apply below_drew1 | refine below_set ?_ GE283.out) | exact HB.out)) hb); clear HO_7; clear HO_284001; clear HO297; clear HO301; clear BK283; clear HB; have HO_7 := n0_; have HO_284001 := n1_; have HO297 := n2_; have HO301 := n3_; have BK283 := n4_; have HB := n5_; clear n0_ n1_ n2_ n3_ n4_ n5_; (try clear hb); (try clear hb2); (try clear hk); (try clear hi); have p307 : 0 ≤ (t293 : Int) := of_decide_eq_true (by with_reducible assumption); have q307 : t293 < (t295.length : Int) := of_decide_eq_true (by with_reducible assumption); obtain ⟨ad307, e307, hx307_0⟩ := Kd.at_int (Kd.R_reads' HO297.out).2.2 t293 p307 q307; cases e307; replace p307 := eq_true p307; replace q307 := eq_true q307; have hcz66_0 : w65.cell? ⟨gb283, 0, none⟩ = some (.int .i64 t279) := (blk_cell BK283.out 0).trans rfl; have hcz66_1 : w65.cell? ⟨gb283, 1, none⟩ = some (.slice Ao11 t280.length co11) := (blk_cell BK283.out 1).trans rfl; have hfz66_0 := blk_frozen BK283.out 0; have hfz66_1 := blk_frozen BK283.out 1; obtain ⟨Ao67, co67, eo67⟩ := Kd.R_slice HO301.out; subst eo67) | (go_at_call 11; (with_reducible refine (impl_IsTiming.calls t279 _ _ t280 _ _ t299 true _ ?side1 ?side2 ?side3 ?side4 A46.out).mono ?_); (case side1 => repeat (first | exact (Kd.R_reads' HO_284001.out).2.2 | (with_reducible refine Kd.C_alloc ?_ _) | (with_reducible refine Kd.C_drewN ?_ _) | (with_reducible refine Kd.C_drew ?_))); (case side2 => exact (Kd.R_reads' HO_284001.out).2.1); (case side3 => repeat (first | exact (Kd.R_reads' HO301.out).2.2 | (with_reducible refine Kd.C_alloc ?_ _) | (with_reducible refine Kd.C_drewN ?_ _) | (with_reducible refine Kd.C_drew ?_))); (case side4 => exact (Kd.R_reads' HO301.out).2.1); rintro e w68 ⟨rfl, hb⟩; have n0_ := Aside0.mk (Kd.R_below (by (with_reducible repeat (first | apply Kd.R_alloc | apply Kd.R_drewN | apply Kd.R_drew)); exact HO_7.out) hb); have n1_ := Aside0.mk (Kd.R_below (by (with_reducible repeat (first | apply Kd.R_alloc | apply Kd.R_drewN | apply Kd.R_drew)); exact HO_284001.out) hb); have n2_ := Aside0.mk (Kd.R_below (by (with_reducible repeat (first | apply Kd.R_alloc | apply Kd.R_drewN | apply Kd.R_drew)); exact HO297.out) hb); have n3_ := Aside0.mk (Kd.R_below (by (with_reducible repeat (first | apply Kd.R_alloc | apply Kd.R_drewN | apply Kd.R_drew)); exact HO301.out) hb); have n4_ := Aside0.mk (blk_below (g := gb283) (o := .cells #[.int .i64 t279, .slice Ao11 t280.length co11] 26 (0, 0)) (by (with_reducible repeat (first | refine blk_drewN ?_ _ | refine blk_drew ?_ | refine blk_alloc ?_ _)); exact BK283.out) hb); have n5_ := Aside0.mk (below_step (by repeat (first | (with_reducible first | exact HB.out | apply below_alloc | apply pw_below_drewN | apply below_drew1 | refine below_set ?_ GE283.out) | exact HB.out)) hb); clear HO_7; clear HO_284001; clear HO297; clear HO301; clear BK283; clear HB; have HO_7 := n0_; have HO_284001 := n1_; have HO297 := n2_; have HO301 := n3_; have BK283 := n4_; have HB := n5_; clear n0_ n1_ n2_ n3_ n4_ n5_; (try clear hb); (try clear hb2); (try clear hk); (try clear hi); have p309 : 0 ≤ (t293 : Int) := of_decide_eq_true (by with_reducible assumption); have q309 : t293 < (t299.length : Int) := of_decide_eq_true (by with_reducible assumption); obtain ⟨ad309, e309, hx309_0⟩ := Kd.at_int (Kd.R_reads' HO301.out).2.2 t293 p309 q309; cases e309; replace p309 := eq_true p309; replace q309 := eq_true q309)))
                go_meet
                case rel => exact ⟨_, (true), (by first | rfl | (simp; done) | (simp [*]; done)), H', ⟨by have := HK1.out; first | omega | exact Nat.le_refl _⟩, ⟨by (with_reducible repeat (first | apply Kd.R_alloc | apply Kd.R_drewN | apply Kd.R_drew)); exact Kd.R_mono HO_7.out (fun _ hk => ⟨hk.1.2, hk.2⟩)⟩, ⟨by (with_reducible repeat (first | apply Kd.R_alloc | apply Kd.R_drewN | apply Kd.R_drew)); exact Kd.R_mono HO297.out (fun _ hk => ⟨hk.1.2, hk.2⟩)⟩, ⟨by (with_reducible repeat (first | apply Kd.R_alloc | apply Kd.R_drewN | apply Kd.R_drew)); exact Kd.R_mono HO301.out (fun _ hk => ⟨hk.1.2, hk.2⟩)⟩, ⟨by (with_reducible repeat (first | apply Kd.R_alloc | apply Kd.R_drewN | apply Kd.R_drew)); exact HO_284001.out⟩, ⟨by (with_reducible repeat (first | refine blk_drewN ?_ _ | refine blk_drew ?_ | refine blk_alloc ?_ _)); exact BK283.out⟩, ⟨by repeat (first | (with_reducible first | exact HB.out | apply below_alloc | apply pw_below_drewN | apply below_drew1 | refine below_set ?_ GE283.out) | exact HB.out)⟩⟩
              ·rw [if_neg c48] at H
               exact absurd H (by simp)
             ·replace c47 := Bool.eq_false_iff.mpr c47
              subst c47
              have H1 : (laws_FnTimings.j1 k1 t279 t284 t287 t293 t294 t295 true t299 true t303 t304 t305 true) = some r := by rw [if_neg (show ¬ (false = true) by decide)] at H; exact H
              clear H
              have H := H1
              clear H1
              have H' := Aside0.mk H
              clear H
              have hcz69_0 : w38.cell? ⟨gb283, 0, none⟩ = some (.int .i64 t279) := (blk_cell BK283.out 0).trans rfl
              have hcz69_1 : w38.cell? ⟨gb283, 1, none⟩ = some (.slice Ao11 t280.length co11) := (blk_cell BK283.out 1).trans rfl
              have hfz69_0 := blk_frozen BK283.out 0
              have hfz69_1 := blk_frozen BK283.out 1
              obtain ⟨Ao70, co70, eo70⟩ := Kd.R_slice HO297.out
              subst eo70
              go_wp2_with (first | (go_at_call 11; (with_reducible refine (impl_IsTiming.calls t279 _ _ t280 _ _ t295 true _ ?side1 ?side2 ?side3 ?side4 A40.out).mono ?_); (case side1 => repeat (first | exact (Kd.R_reads' HO_284001.out).2.2 | (with_reducible refine Kd.C_alloc ?_ _) | (with_reducible refine Kd.C_drewN ?_ _) | (with_reducible refine Kd.C_drew ?_))); (case side2 => exact (Kd.R_reads' HO_284001.out).2.1); (case side3 => repeat (first | exact (Kd.R_reads' HO297.out).2.2 | (with_reducible refine Kd.C_alloc ?_ _) | (with_reducible refine Kd.C_drewN ?_ _) | (with_reducible refine Kd.C_drew ?_))); (case side4 => exact (Kd.R_reads' HO297.out).2.1); rintro e w71 ⟨rfl, hb⟩; have n0_ := Aside0.mk (Kd.R_below (by (with_reducible repeat (first | apply Kd.R_alloc | apply Kd.R_drewN | apply Kd.R_drew)); exact HO_7.out) hb); have n1_ := Aside0.mk (Kd.R_below (by (with_reducible repeat (first | apply Kd.R_alloc | apply Kd.R_drewN | apply Kd.R_drew)); exact HO_284001.out) hb); have n2_ := Aside0.mk (Kd.R_below (by (with_reducible repeat (first | apply Kd.R_alloc | apply Kd.R_drewN | apply Kd.R_drew)); exact HO297.out) hb); have n3_ := Aside0.mk (Kd.R_below (by (with_reducible repeat (first | apply Kd.R_alloc | apply Kd.R_drewN | apply Kd.R_drew)); exact HO301.out) hb); have n4_ := Aside0.mk (blk_below (g := gb283) (o := .cells #[.int .i64 t279, .slice Ao11 t280.length co11] 26 (0, 0)) (by (with_reducible repeat (first | refine blk_drewN ?_ _ | refine blk_drew ?_ | refine blk_alloc ?_ _)); exact BK283.out) hb); have n5_ := Aside0.mk (below_step (by repeat (first | (with_reducible first | exact HB.out | apply below_alloc | apply pw_below_drewN | apply below_drew1 | refine below_set ?_ GE283.out) | exact HB.out)) hb); clear HO_7; clear HO_284001; clear HO297; clear HO301; clear BK283; clear HB; have HO_7 := n0_; have HO_284001 := n1_; have HO297 := n2_; have HO301 := n3_; have BK283 := n4_; have HB := n5_; clear n0_ n1_ n2_ n3_ n4_ n5_; (try clear hb); (try clear hb2); (try clear hk); (try clear hi); have p307 : 0 ≤ (t293 : Int) := of_decide_eq_true (by with_reducible assumption); have q307 : t293 < (t295.length : Int) := of_decide_eq_true (by with_reducible assumption); obtain ⟨ad307, e307, hx307_0⟩ := Kd.at_int (Kd.R_reads' HO297.out).2.2 t293 p307 q307; cases e307; replace p307 := eq_true p307; replace q307 := eq_true q307; have hcz72_0 : w71.cell? ⟨gb283, 0, none⟩ = some (.int .i64 t279) := (blk_cell BK283.out 0).trans rfl; have hcz72_1 : w71.cell? ⟨gb283, 1, none⟩ = some (.slice Ao11 t280.length co11) := (blk_cell BK283.out 1).trans rfl; have hfz72_0 := blk_frozen BK283.out 0; have hfz72_1 := blk_frozen BK283.out 1; obtain ⟨Ao73, co73, eo73⟩ := Kd.R_slice HO301.out; subst eo73) | (go_at_call 11; (with_reducible refine (impl_IsTiming.calls t279 _ _ t280 _ _ t299 false _ ?side1 ?side2 ?side3 ?side4 A46.out).mono ?_); (case side1 => repeat (first | exact (Kd.R_reads' HO_284001.out).2.2 | (with_reducible refine Kd.C_alloc ?_ _) | (with_reducible refine Kd.C_drewN ?_ _) | (with_reducible refine Kd.C_drew ?_))); (case side2 => exact (Kd.R_reads' HO_284001.out).2.1); (case side3 => repeat (first | exact (Kd.R_reads' HO301.out).2.2 | (with_reducible refine Kd.C_alloc ?_ _) | (with_reducible refine Kd.C_drewN ?_ _) | (with_reducible refine Kd.C_drew ?_))); (case side4 => exact (Kd.R_reads' HO301.out).2.1); rintro e w74 ⟨rfl, hb⟩; have n0_ := Aside0.mk (Kd.R_below (by (with_reducible repeat (first | apply Kd.R_alloc | apply Kd.R_drewN | apply Kd.R_drew)); exact HO_7.out) hb); have n1_ := Aside0.mk (Kd.R_below (by (with_reducible repeat (first | apply Kd.R_alloc | apply Kd.R_drewN | apply Kd.R_drew)); exact HO_284001.out) hb); have n2_ := Aside0.mk (Kd.R_below (by (with_reducible repeat (first | apply Kd.R_alloc | apply Kd.R_drewN | apply Kd.R_drew)); exact HO297.out) hb); have n3_ := Aside0.mk (Kd.R_below (by (with_reducible repeat (first | apply Kd.R_alloc | apply Kd.R_drewN | apply Kd.R_drew)); exact HO301.out) hb); have n4_ := Aside0.mk (blk_below (g := gb283) (o := .cells #[.int .i64 t279, .slice Ao11 t280.length co11] 26 (0, 0)) (by (with_reducible repeat (first | refine blk_drewN ?_ _ | refine blk_drew ?_ | refine blk_alloc ?_ _)); exact BK283.out) hb); have n5_ := Aside0.mk (below_step (by repeat (first | (with_reducible first | exact HB.out | apply below_alloc | apply pw_below_drewN | apply below_drew1 | refine below_set ?_ GE283.out) | exact HB.out)) hb); clear HO_7; clear HO_284001; clear HO297; clear HO301; clear BK283; clear HB; have HO_7 := n0_; have HO_284001 := n1_; have HO297 := n2_; have HO301 := n3_; have BK283 := n4_; have HB := n5_; clear n0_ n1_ n2_ n3_ n4_ n5_; (try clear hb); (try clear hb2); (try clear hk); (try clear hi)))
              repeat (go_quiet (first | (go_at_call 11; (with_reducible refine (impl_IsTiming.calls t279 _ _ t280 _ _ t295 true _ ?side1 ?side2 ?side3 ?side4 A40.out).mono ?_); (case side1 => repeat (first | exact (Kd.R_reads' HO_284001.out).2.2 | (with_reducible refine Kd.C_alloc ?_ _) | (with_reducible refine Kd.C_drewN ?_ _) | (with_reducible refine Kd.C_drew ?_))); (case side2 => exact (Kd.R_reads' HO_284001.out).2.1); (case side3 => repeat (first | exact (Kd.R_reads' HO297.out).2.2 | (with_reducible refine Kd.C_alloc ?_ _) | (with_reducible refine Kd.C_drewN ?_ _) | (with_reducible refine Kd.C_drew ?_))); (case side4 => exact (Kd.R_reads' HO297.out).2.1); rintro e w71 ⟨rfl, hb⟩; have n0_ := Aside0.mk (Kd.R_below (by (with_reducible repeat (first | apply Kd.R_alloc | apply Kd.R_drewN | apply Kd.R_drew)); exact HO_7.out) hb); have n1_ := Aside0.mk (Kd.R_below (by (with_reducible repeat (first | apply Kd.R_alloc | apply Kd.R_drewN | apply Kd.R_drew)); exact HO_284001.out) hb); have n2_ := Aside0.mk (Kd.R_below (by (with_reducible repeat (first | apply Kd.R_alloc | apply Kd.R_drewN | apply Kd.R_drew)); exact HO297.out) hb); have n3_ := Aside0.mk (Kd.R_below (by (with_reducible repeat (first | apply Kd.R_alloc | apply Kd.R_drewN | apply Kd.R_drew)); exact HO301.out) hb); have n4_ := Aside0.mk (blk_below (g := gb283) (o := .cells #[.int .i64 t279, .slice Ao11 t280.length co11] 26 (0, 0)) (by (with_reducible repeat (first | refine blk_drewN ?_ _ | refine blk_drew ?_ | refine blk_alloc ?_ _)); exact BK283.out) hb); have n5_ := Aside0.mk (below_step (by repeat (first | (with_reducible first | exact HB.out | apply below_alloc | apply pw_below_drewN | apply below_drew1 | refine below_set ?_ GE283.out) | exact HB.out)) hb); clear HO_7; clear HO_284001; clear HO297; clear HO301; clear BK283; clear HB; have HO_7 := n0_; have HO_284001 := n1_; have HO297 := n2_; have HO301 := n3_; have BK283 := n4_; have HB := n5_; clear n0_ n1_ n2_ n3_ n4_ n5_; (try clear hb); (try clear hb2); (try clear hk); (try clear hi); have p307 : 0 ≤ (t293 : Int) := of_decide_eq_true (by with_reducible assumption); have q307 : t293 < (t295.length : Int) := of_decide_eq_true (by with_reducible assumption); obtain ⟨ad307, e307, hx307_0⟩ := Kd.at_int (Kd.R_reads' HO297.out).2.2 t293 p307 q307; cases e307; replace p307 := eq_true p307; replace q307 := eq_true q307; have hcz72_0 : w71.cell? ⟨gb283, 0, none⟩ = some (.int .i64 t279) := (blk_cell BK283.out 0).trans rfl; have hcz72_1 : w71.cell? ⟨gb283, 1, none⟩ = some (.slice Ao11 t280.length co11) := (blk_cell BK283.out 1).trans rfl; have hfz72_0 := blk_frozen BK283.out 0; have hfz72_1 := blk_frozen BK283.out 1; obtain ⟨Ao73, co73, eo73⟩ := Kd.R_slice HO301.out; subst eo73) | (go_at_call 11; (with_reducible refine (impl_IsTiming.calls t279 _ _ t280 _ _ t299 false _ ?side1 ?side2 ?side3 ?side4 A46.out).mono ?_); (case side1 => repeat (first | exact (Kd.R_reads' HO_284001.out).2.2 | (with_reducible refine Kd.C_alloc ?_ _) | (with_reducible refine Kd.C_drewN ?_ _) | (with_reducible refine Kd.C_drew ?_))); (case side2 => exact (Kd.R_reads' HO_284001.out).2.1); (case side3 => repeat (first | exact (Kd.R_reads' HO301.out).2.2 | (with_reducible refine Kd.C_alloc ?_ _) | (with_reducible refine Kd.C_drewN ?_ _) | (with_reducible refine Kd.C_drew ?_))); (case side4 => exact (Kd.R_reads' HO301.out).2.1); rintro e w74 ⟨rfl, hb⟩; have n0_ := Aside0.mk (Kd.R_below (by (with_reducible repeat (first | apply Kd.R_alloc | apply Kd.R_drewN | apply Kd.R_drew)); exact HO_7.out) hb); have n1_ := Aside0.mk (Kd.R_below (by (with_reducible repeat (first | apply Kd.R_alloc | apply Kd.R_drewN | apply Kd.R_drew)); exact HO_284001.out) hb); have n2_ := Aside0.mk (Kd.R_below (by (with_reducible repeat (first | apply Kd.R_alloc | apply Kd.R_drewN | apply Kd.R_drew)); exact HO297.out) hb); have n3_ := Aside0.mk (Kd.R_below (by (with_reducible repeat (first | apply Kd.R_alloc | apply Kd.R_drewN | apply Kd.R_drew)); exact HO301.out) hb); have n4_ := Aside0.mk (blk_below (g := gb283) (o := .cells #[.int .i64 t279, .slice Ao11 t280.length co11] 26 (0, 0)) (by (with_reducible repeat (first | refine blk_drewN ?_ _ | refine blk_drew ?_ | refine blk_alloc ?_ _)); exact BK283.out) hb); have n5_ := Aside0.mk (below_step (by repeat (first | (with_reducible first | exact HB.out | apply below_alloc | apply pw_below_drewN | apply below_drew1 | refine below_set ?_ GE283.out) | exact HB.out)) hb); clear HO_7; clear HO_284001; clear HO297; clear HO301; clear BK283; clear HB; have HO_7 := n0_; have HO_284001 := n1_; have HO297 := n2_; have HO301 := n3_; have BK283 := n4_; have HB := n5_; clear n0_ n1_ n2_ n3_ n4_ n5_; (try clear hb); (try clear hb2); (try clear hk); (try clear hi))); try go_wp2_with (first | (go_at_call 11; (with_reducible refine (impl_IsTiming.calls t279 _ _ t280 _ _ t295 true _ ?side1 ?side2 ?side3 ?side4 A40.out).mono ?_); (case side1 => repeat (first | exact (Kd.R_reads' HO_284001.out).2.2 | (with_reducible refine Kd.C_alloc ?_ _) | (with_reducible refine Kd.C_drewN ?_ _) | (with_reducible refine Kd.C_drew ?_))); (case side2 => exact (Kd.R_reads' HO_284001.out).2.1); (case side3 => repeat (first | exact (Kd.R_reads' HO297.out).2.2 | (with_reducible refine Kd.C_alloc ?_ _) | (with_reducible refine Kd.C_drewN ?_ _) | (with_reducible refine Kd.C_drew ?_))); (case side4 => exact (Kd.R_reads' HO297.out).2.1); rintro e w71 ⟨rfl, hb⟩; have n0_ := Aside0.mk (Kd.R_below (by (with_reducible repeat (first | apply Kd.R_alloc | apply Kd.R_drewN | apply Kd.R_drew)); exact HO_7.out) hb); have n1_ := Aside0.mk (Kd.R_below (by (with_reducible repeat (first | apply Kd.R_alloc | apply Kd.R_drewN | apply Kd.R_drew)); exact HO_284001.out) hb); have n2_ := Aside0.mk (Kd.R_below (by (with_reducible repeat (first | apply Kd.R_alloc | apply Kd.R_drewN | apply Kd.R_drew)); exact HO297.out) hb); have n3_ := Aside0.mk (Kd.R_below (by (with_reducible repeat (first | apply Kd.R_alloc | apply Kd.R_drewN | apply Kd.R_drew)); exact HO301.out) hb); have n4_ := Aside0.mk (blk_below (g := gb283) (o := .cells #[.int .i64 t279, .slice Ao11 t280.length co11] 26 (0, 0)) (by (with_reducible repeat (first | refine blk_drewN ?_ _ | refine blk_drew ?_ | refine blk_alloc ?_ _)); exact BK283.out) hb); have n5_ := Aside0.mk (below_step (by repeat (first | (with_reducible first | exact HB.out | apply below_alloc | apply pw_below_drewN | apply below_drew1 | refine below_set ?_ GE283.out) | exact HB.out)) hb); clear HO_7; clear HO_284001; clear HO297; clear HO301; clear BK283; clear HB; have HO_7 := n0_; have HO_284001 := n1_; have HO297 := n2_; have HO301 := n3_; have BK283 := n4_; have HB := n5_; clear n0_ n1_ n2_ n3_ n4_ n5_; (try clear hb); (try clear hb2); (try clear hk); (try clear hi); have p307 : 0 ≤ (t293 : Int) := of_decide_eq_true (by with_reducible assumption); have q307 : t293 < (t295.length : Int) := of_decide_eq_true (by with_reducible assumption); obtain ⟨ad307, e307, hx307_0⟩ := Kd.at_int (Kd.R_reads' HO297.out).2.2 t293 p307 q307; cases e307; replace p307 := eq_true p307; replace q307 := eq_true q307; have hcz72_0 : w71.cell? ⟨gb283, 0, none⟩ = some (.int .i64 t279) := (blk_cell BK283.out 0).trans rfl; have hcz72_1 : w71.cell? ⟨gb283, 1, none⟩ = some (.slice Ao11 t280.length co11) := (blk_cell BK283.out 1).trans rfl; have hfz72_0 := blk_frozen BK283.out 0; have hfz72_1 := blk_frozen BK283.out 1; obtain ⟨Ao73, co73, eo73⟩ := Kd.R_slice HO301.out; subst eo73) | (go_at_call 11; (with_reducible refine (impl_IsTiming.calls t279 _ _ t280 _ _ t299 false _ ?side1 ?side2 ?side3 ?side4 A46.out).mono ?_); (case side1 => repeat (first | exact (Kd.R_reads' HO_284001.out).2.2 | (with_reducible refine Kd.C_alloc ?_ _) | (with_reducible refine Kd.C_drewN ?_ _) | (with_reducible refine Kd.C_drew ?_))); (case side2 => exact (Kd.R_reads' HO_284001.out).2.1); (case side3 => repeat (first | exact (Kd.R_reads' HO301.out).2.2 | (with_reducible refine Kd.C_alloc ?_ _) | (with_reducible refine Kd.C_drewN ?_ _) | (with_reducible refine Kd.C_drew ?_))); (case side4 => exact (Kd.R_reads' HO301.out).2.1); rintro e w74 ⟨rfl, hb⟩; have n0_ := Aside0.mk (Kd.R_below (by (with_reducible repeat (first | apply Kd.R_alloc | apply Kd.R_drewN | apply Kd.R_drew)); exact HO_7.out) hb); have n1_ := Aside0.mk (Kd.R_below (by (with_reducible repeat (first | apply Kd.R_alloc | apply Kd.R_drewN | apply Kd.R_drew)); exact HO_284001.out) hb); have n2_ := Aside0.mk (Kd.R_below (by (with_reducible repeat (first | apply Kd.R_alloc | apply Kd.R_drewN | apply Kd.R_drew)); exact HO297.out) hb); have n3_ := Aside0.mk (Kd.R_below (by (with_reducible repeat (first | apply Kd.R_alloc | apply Kd.R_drewN | apply Kd.R_drew)); exact HO301.out) hb); have n4_ := Aside0.mk (blk_below (g := gb283) (o := .cells #[.int .i64 t279, .slice Ao11 t280.length co11] 26 (0, 0)) (by (with_reducible repeat (first | refine blk_drewN ?_ _ | refine blk_drew ?_ | refine blk_alloc ?_ _)); exact BK283.out) hb); have n5_ := Aside0.mk (below_step (by repeat (first | (with_reducible first | exact HB.out | apply below_alloc | apply pw_below_drewN | apply below_drew1 | refine below_set ?_ GE283.out) | exact HB.out)) hb); clear HO_7; clear HO_284001; clear HO297; clear HO301; clear BK283; clear HB; have HO_7 := n0_; have HO_284001 := n1_; have HO297 := n2_; have HO301 := n3_; have BK283 := n4_; have HB := n5_; clear n0_ n1_ n2_ n3_ n4_ n5_; (try clear hb); (try clear hb2); (try clear hk); (try clear hi))))
              go_meet
              case rel => exact ⟨_, (true), (by first | rfl | (simp; done) | (simp [*]; done)), H', ⟨by have := HK1.out; first | omega | exact Nat.le_refl _⟩, ⟨by (with_reducible repeat (first | apply Kd.R_alloc | apply Kd.R_drewN | apply Kd.R_drew)); exact Kd.R_mono HO_7.out (fun _ hk => ⟨hk.1.2, hk.2⟩)⟩, ⟨by (with_reducible repeat (first | apply Kd.R_alloc | apply Kd.R_drewN | apply Kd.R_drew)); exact Kd.R_mono HO297.out (fun _ hk => ⟨hk.1.2, hk.2⟩)⟩, ⟨by (with_reducible repeat (first | apply Kd.R_alloc | apply Kd.R_drewN | apply Kd.R_drew)); exact Kd.R_mono HO301.out (fun _ hk => ⟨hk.1.2, hk.2⟩)⟩, ⟨by (with_reducible repeat (first | apply Kd.R_alloc | apply Kd.R_drewN | apply Kd.R_drew)); exact HO_284001.out⟩, ⟨by (with_reducible repeat (first | refine blk_drewN ?_ _ | refine blk_drew ?_ | refine blk_alloc ?_ _)); exact BK283.out⟩, ⟨by repeat (first | (with_reducible first | exact HB.out | apply below_alloc | apply pw_below_drewN | apply below_drew1 | refine below_set ?_ GE283.out) | exact HB.out)⟩⟩
            ·replace c45 := Bool.eq_false_iff.mpr c45
             subst c45
             have H1 : (if t305 = true then (laws_FnTimings.j1 k1 t279 t284 t287 t293 t294 t295 true t299 false t303 t304 t305 (decide (t303 > t304))) else (laws_FnTimings.j1 k1 t279 t284 t287 t293 t294 t295 true t299 false t303 t304 t305 false)) = some r := by rw [if_neg (show ¬ (false = true) by decide)] at H; exact H
             clear H
             have H := H1
             clear H1
             by_cases c75 : t305 = true
             ·subst c75
              have H1 : (laws_FnTimings.j1 k1 t279 t284 t287 t293 t294 t295 true t299 false t303 t304 true (decide (t303 > t304))) = some r := by rw [if_pos rfl] at H; exact H
              clear H
              have H := H1
              clear H1
              have H' := Aside0.mk H
              clear H
              have hcz76_0 : w38.cell? ⟨gb283, 0, none⟩ = some (.int .i64 t279) := (blk_cell BK283.out 0).trans rfl
              have hcz76_1 : w38.cell? ⟨gb283, 1, none⟩ = some (.slice Ao11 t280.length co11) := (blk_cell BK283.out 1).trans rfl
              have hfz76_0 := blk_frozen BK283.out 0
              have hfz76_1 := blk_frozen BK283.out 1
              obtain ⟨Ao77, co77, eo77⟩ := Kd.R_slice HO297.out
              subst eo77
              go_wp2_with (first | (go_at_call 11; (with_reducible refine (impl_IsTiming.calls t279 _ _ t280 _ _ t295 true _ ?side1 ?side2 ?side3 ?side4 A40.out).mono ?_); (case side1 => repeat (first | exact (Kd.R_reads' HO_284001.out).2.2 | (with_reducible refine Kd.C_alloc ?_ _) | (with_reducible refine Kd.C_drewN ?_ _) | (with_reducible refine Kd.C_drew ?_))); (case side2 => exact (Kd.R_reads' HO_284001.out).2.1); (case side3 => repeat (first | exact (Kd.R_reads' HO297.out).2.2 | (with_reducible refine Kd.C_alloc ?_ _) | (with_reducible refine Kd.C_drewN ?_ _) | (with_reducible refine Kd.C_drew ?_))); (case side4 => exact (Kd.R_reads' HO297.out).2.1); rintro e w78 ⟨rfl, hb⟩; have n0_ := Aside0.mk (Kd.R_below (by (with_reducible repeat (first | apply Kd.R_alloc | apply Kd.R_drewN | apply Kd.R_drew)); exact HO_7.out) hb); have n1_ := Aside0.mk (Kd.R_below (by (with_reducible repeat (first | apply Kd.R_alloc | apply Kd.R_drewN | apply Kd.R_drew)); exact HO_284001.out) hb); have n2_ := Aside0.mk (Kd.R_below (by (with_reducible repeat (first | apply Kd.R_alloc | apply Kd.R_drewN | apply Kd.R_drew)); exact HO297.out) hb); have n3_ := Aside0.mk (Kd.R_below (by (with_reducible repeat (first | apply Kd.R_alloc | apply Kd.R_drewN | apply Kd.R_drew)); exact HO301.out) hb); have n4_ := Aside0.mk (blk_below (g := gb283) (o := .cells #[.int .i64 t279, .slice Ao11 t280.length co11] 26 (0, 0)) (by (with_reducible repeat (first | refine blk_drewN ?_ _ | refine blk_drew ?_ | refine blk_alloc ?_ _)); exact BK283.out) hb); have n5_ := Aside0.mk (below_step (by repeat (first | (with_reducible first | exact HB.out | apply below_alloc | apply pw_below_drewN | apply below_drew1 | refine below_set ?_ GE283.out) | exact HB.out)) hb); clear HO_7; clear HO_284001; clear HO297; clear HO301; clear BK283; clear HB; have HO_7 := n0_; have HO_284001 := n1_; have HO297 := n2_; have HO301 := n3_; have BK283 := n4_; have HB := n5_; clear n0_ n1_ n2_ n3_ n4_ n5_; (try clear hb); (try clear hb2); (try clear hk); (try clear hi); have p307 : 0 ≤ (t293 : Int) := of_decide_eq_true (by with_reducible assumption); have q307 : t293 < (t295.length : Int) := of_decide_eq_true (by with_reducible assumption); obtain ⟨ad307, e307, hx307_0⟩ := Kd.at_int (Kd.R_reads' HO297.out).2.2 t293 p307 q307; cases e307; replace p307 := eq_true p307; replace q307 := eq_true q307))
              repeat (go_quiet (first | (go_at_call 11; (with_reducible refine (impl_IsTiming.calls t279 _ _ t280 _ _ t295 true _ ?side1 ?side2 ?side3 ?side4 A40.out).mono ?_); (case side1 => repeat (first | exact (Kd.R_reads' HO_284001.out).2.2 | (with_reducible refine Kd.C_alloc ?_ _) | (with_reducible refine Kd.C_drewN ?_ _) | (with_reducible refine Kd.C_drew ?_))); (case side2 => exact (Kd.R_reads' HO_284001.out).2.1); (case side3 => repeat (first | exact (Kd.R_reads' HO297.out).2.2 | (with_reducible refine Kd.C_alloc ?_ _) | (with_reducible refine Kd.C_drewN ?_ _) | (with_reducible refine Kd.C_drew ?_))); (case side4 => exact (Kd.R_reads' HO297.out).2.1); rintro e w78 ⟨rfl, hb⟩; have n0_ := Aside0.mk (Kd.R_below (by (with_reducible repeat (first | apply Kd.R_alloc | apply Kd.R_drewN | apply Kd.R_drew)); exact HO_7.out) hb); have n1_ := Aside0.mk (Kd.R_below (by (with_reducible repeat (first | apply Kd.R_alloc | apply Kd.R_drewN | apply Kd.R_drew)); exact HO_284001.out) hb); have n2_ := Aside0.mk (Kd.R_below (by (with_reducible repeat (first | apply Kd.R_alloc | apply Kd.R_drewN | apply Kd.R_drew)); exact HO297.out) hb); have n3_ := Aside0.mk (Kd.R_below (by (with_reducible repeat (first | apply Kd.R_alloc | apply Kd.R_drewN | apply Kd.R_drew)); exact HO301.out) hb); have n4_ := Aside0.mk (blk_below (g := gb283) (o := .cells #[.int .i64 t279, .slice Ao11 t280.length co11] 26 (0, 0)) (by (with_reducible repeat (first | refine blk_drewN ?_ _ | refine blk_drew ?_ | refine blk_alloc ?_ _)); exact BK283.out) hb); have n5_ := Aside0.mk (below_step (by repeat (first | (with_reducible first | exact HB.out | apply below_alloc | apply pw_below_drewN | apply below_drew1 | refine below_set ?_ GE283.out) | exact HB.out)) hb); clear HO_7; clear HO_284001; clear HO297; clear HO301; clear BK283; clear HB; have HO_7 := n0_; have HO_284001 := n1_; have HO297 := n2_; have HO301 := n3_; have BK283 := n4_; have HB := n5_; clear n0_ n1_ n2_ n3_ n4_ n5_; (try clear hb); (try clear hb2); (try clear hk); (try clear hi); have p307 : 0 ≤ (t293 : Int) := of_decide_eq_true (by with_reducible assumption); have q307 : t293 < (t295.length : Int) := of_decide_eq_true (by with_reducible assumption); obtain ⟨ad307, e307, hx307_0⟩ := Kd.at_int (Kd.R_reads' HO297.out).2.2 t293 p307 q307; cases e307; replace p307 := eq_true p307; replace q307 := eq_true q307)); try go_wp2_with (first | (go_at_call 11; (with_reducible refine (impl_IsTiming.calls t279 _ _ t280 _ _ t295 true _ ?side1 ?side2 ?side3 ?side4 A40.out).mono ?_); (case side1 => repeat (first | exact (Kd.R_reads' HO_284001.out).2.2 | (with_reducible refine Kd.C_alloc ?_ _) | (with_reducible refine Kd.C_drewN ?_ _) | (with_reducible refine Kd.C_drew ?_))); (case side2 => exact (Kd.R_reads' HO_284001.out).2.1); (case side3 => repeat (first | exact (Kd.R_reads' HO297.out).2.2 | (with_reducible refine Kd.C_alloc ?_ _) | (with_reducible refine Kd.C_drewN ?_ _) | (with_reducible refine Kd.C_drew ?_))); (case side4 => exact (Kd.R_reads' HO297.out).2.1); rintro e w78 ⟨rfl, hb⟩; have n0_ := Aside0.mk (Kd.R_below (by (with_reducible repeat (first | apply Kd.R_alloc | apply Kd.R_drewN | apply Kd.R_drew)); exact HO_7.out) hb); have n1_ := Aside0.mk (Kd.R_below (by (with_reducible repeat (first | apply Kd.R_alloc | apply Kd.R_drewN | apply Kd.R_drew)); exact HO_284001.out) hb); have n2_ := Aside0.mk (Kd.R_below (by (with_reducible repeat (first | apply Kd.R_alloc | apply Kd.R_drewN | apply Kd.R_drew)); exact HO297.out) hb); have n3_ := Aside0.mk (Kd.R_below (by (with_reducible repeat (first | apply Kd.R_alloc | apply Kd.R_drewN | apply Kd.R_drew)); exact HO301.out) hb); have n4_ := Aside0.mk (blk_below (g := gb283) (o := .cells #[.int .i64 t279, .slice Ao11 t280.length co11] 26 (0, 0)) (by (with_reducible repeat (first | refine blk_drewN ?_ _ | refine blk_drew ?_ | refine blk_alloc ?_ _)); exact BK283.out) hb); have n5_ := Aside0.mk (below_step (by repeat (first | (with_reducible first | exact HB.out | apply below_alloc | apply pw_below_drewN | apply below_drew1 | refine below_set ?_ GE283.out) | exact HB.out)) hb); clear HO_7; clear HO_284001; clear HO297; clear HO301; clear BK283; clear HB; have HO_7 := n0_; have HO_284001 := n1_; have HO297 := n2_; have HO301 := n3_; have BK283 := n4_; have HB := n5_; clear n0_ n1_ n2_ n3_ n4_ n5_; (try clear hb); (try clear hb2); (try clear hk); (try clear hi); have p307 : 0 ≤ (t293 : Int) := of_decide_eq_true (by with_reducible assumption); have q307 : t293 < (t295.length : Int) := of_decide_eq_true (by with_reducible assumption); obtain ⟨ad307, e307, hx307_0⟩ := Kd.at_int (Kd.R_reads' HO297.out).2.2 t293 p307 q307; cases e307; replace p307 := eq_true p307; replace q307 := eq_true q307)))
              go_meet
              case rel => exact ⟨_, (decide (t303 > t304)), (by first | rfl | (simp; done) | (simp [*]; done)), H', ⟨by have := HK1.out; first | omega | exact Nat.le_refl _⟩, ⟨by (with_reducible repeat (first | apply Kd.R_alloc | apply Kd.R_drewN | apply Kd.R_drew)); exact Kd.R_mono HO_7.out (fun _ hk => ⟨hk.1.2, hk.2⟩)⟩, ⟨by (with_reducible repeat (first | apply Kd.R_alloc | apply Kd.R_drewN | apply Kd.R_drew)); exact Kd.R_mono HO297.out (fun _ hk => ⟨hk.1.2, hk.2⟩)⟩, ⟨by (with_reducible repeat (first | apply Kd.R_alloc | apply Kd.R_drewN | apply Kd.R_drew)); exact Kd.R_mono HO301.out (fun _ hk => ⟨hk.1.2, hk.2⟩)⟩, ⟨by (with_reducible repeat (first | apply Kd.R_alloc | apply Kd.R_drewN | apply Kd.R_drew)); exact HO_284001.out⟩, ⟨by (with_reducible repeat (first | refine blk_drewN ?_ _ | refine blk_drew ?_ | refine blk_alloc ?_ _)); exact BK283.out⟩, ⟨by repeat (first | (with_reducible first | exact HB.out | apply below_alloc | apply pw_below_drewN | apply below_drew1 | refine below_set ?_ GE283.out) | exact HB.out)⟩⟩
             ·replace c75 := Bool.eq_false_iff.mpr c75
              subst c75
              have H1 : (laws_FnTimings.j1 k1 t279 t284 t287 t293 t294 t295 true t299 false t303 t304 false false) = some r := by rw [if_neg (show ¬ (false = true) by decide)] at H; exact H
              clear H
              have H := H1
              clear H1
              have H' := Aside0.mk H
              clear H
              have hcz79_0 : w38.cell? ⟨gb283, 0, none⟩ = some (.int .i64 t279) := (blk_cell BK283.out 0).trans rfl
              have hcz79_1 : w38.cell? ⟨gb283, 1, none⟩ = some (.slice Ao11 t280.length co11) := (blk_cell BK283.out 1).trans rfl
              have hfz79_0 := blk_frozen BK283.out 0
              have hfz79_1 := blk_frozen BK283.out 1
              obtain ⟨Ao80, co80, eo80⟩ := Kd.R_slice HO297.out
              subst eo80
              go_wp2_with (first | (go_at_call 11; (with_reducible refine (impl_IsTiming.calls t279 _ _ t280 _ _ t295 true _ ?side1 ?side2 ?side3 ?side4 A40.out).mono ?_); (case side1 => repeat (first | exact (Kd.R_reads' HO_284001.out).2.2 | (with_reducible refine Kd.C_alloc ?_ _) | (with_reducible refine Kd.C_drewN ?_ _) | (with_reducible refine Kd.C_drew ?_))); (case side2 => exact (Kd.R_reads' HO_284001.out).2.1); (case side3 => repeat (first | exact (Kd.R_reads' HO297.out).2.2 | (with_reducible refine Kd.C_alloc ?_ _) | (with_reducible refine Kd.C_drewN ?_ _) | (with_reducible refine Kd.C_drew ?_))); (case side4 => exact (Kd.R_reads' HO297.out).2.1); rintro e w81 ⟨rfl, hb⟩; have n0_ := Aside0.mk (Kd.R_below (by (with_reducible repeat (first | apply Kd.R_alloc | apply Kd.R_drewN | apply Kd.R_drew)); exact HO_7.out) hb); have n1_ := Aside0.mk (Kd.R_below (by (with_reducible repeat (first | apply Kd.R_alloc | apply Kd.R_drewN | apply Kd.R_drew)); exact HO_284001.out) hb); have n2_ := Aside0.mk (Kd.R_below (by (with_reducible repeat (first | apply Kd.R_alloc | apply Kd.R_drewN | apply Kd.R_drew)); exact HO297.out) hb); have n3_ := Aside0.mk (Kd.R_below (by (with_reducible repeat (first | apply Kd.R_alloc | apply Kd.R_drewN | apply Kd.R_drew)); exact HO301.out) hb); have n4_ := Aside0.mk (blk_below (g := gb283) (o := .cells #[.int .i64 t279, .slice Ao11 t280.length co11] 26 (0, 0)) (by (with_reducible repeat (first | refine blk_drewN ?_ _ | refine blk_drew ?_ | refine blk_alloc ?_ _)); exact BK283.out) hb); have n5_ := Aside0.mk (below_step (by repeat (first | (with_reducible first | exact HB.out | apply below_alloc | apply pw_below_drewN | apply below_drew1 | refine below_set ?_ GE283.out) | exact HB.out)) hb); clear HO_7; clear HO_284001; clear HO297; clear HO301; clear BK283; clear HB; have HO_7 := n0_; have HO_284001 := n1_; have HO297 := n2_; have HO301 := n3_; have BK283 := n4_; have HB := n5_; clear n0_ n1_ n2_ n3_ n4_ n5_; (try clear hb); (try clear hb2); (try clear hk); (try clear hi); have p307 : 0 ≤ (t293 : Int) := of_decide_eq_true (by with_reducible assumption); have q307 : t293 < (t295.length : Int) := of_decide_eq_true (by with_reducible assumption); obtain ⟨ad307, e307, hx307_0⟩ := Kd.at_int (Kd.R_reads' HO297.out).2.2 t293 p307 q307; cases e307; replace p307 := eq_true p307; replace q307 := eq_true q307))
              repeat (go_quiet (first | (go_at_call 11; (with_reducible refine (impl_IsTiming.calls t279 _ _ t280 _ _ t295 true _ ?side1 ?side2 ?side3 ?side4 A40.out).mono ?_); (case side1 => repeat (first | exact (Kd.R_reads' HO_284001.out).2.2 | (with_reducible refine Kd.C_alloc ?_ _) | (with_reducible refine Kd.C_drewN ?_ _) | (with_reducible refine Kd.C_drew ?_))); (case side2 => exact (Kd.R_reads' HO_284001.out).2.1); (case side3 => repeat (first | exact (Kd.R_reads' HO297.out).2.2 | (with_reducible refine Kd.C_alloc ?_ _) | (with_reducible refine Kd.C_drewN ?_ _) | (with_reducible refine Kd.C_drew ?_))); (case side4 => exact (Kd.R_reads' HO297.out).2.1); rintro e w81 ⟨rfl, hb⟩; have n0_ := Aside0.mk (Kd.R_below (by (with_reducible repeat (first | apply Kd.R_alloc | apply Kd.R_drewN | apply Kd.R_drew)); exact HO_7.out) hb); have n1_ := Aside0.mk (Kd.R_below (by (with_reducible repeat (first | apply Kd.R_alloc | apply Kd.R_drewN | apply Kd.R_drew)); exact HO_284001.out) hb); have n2_ := Aside0.mk (Kd.R_below (by (with_reducible repeat (first | apply Kd.R_alloc | apply Kd.R_drewN | apply Kd.R_drew)); exact HO297.out) hb); have n3_ := Aside0.mk (Kd.R_below (by (with_reducible repeat (first | apply Kd.R_alloc | apply Kd.R_drewN | apply Kd.R_drew)); exact HO301.out) hb); have n4_ := Aside0.mk (blk_below (g := gb283) (o := .cells #[.int .i64 t279, .slice Ao11 t280.length co11] 26 (0, 0)) (by (with_reducible repeat (first | refine blk_drewN ?_ _ | refine blk_drew ?_ | refine blk_alloc ?_ _)); exact BK283.out) hb); have n5_ := Aside0.mk (below_step (by repeat (first | (with_reducible first | exact HB.out | apply below_alloc | apply pw_below_drewN | apply below_drew1 | refine below_set ?_ GE283.out) | exact HB.out)) hb); clear HO_7; clear HO_284001; clear HO297; clear HO301; clear BK283; clear HB; have HO_7 := n0_; have HO_284001 := n1_; have HO297 := n2_; have HO301 := n3_; have BK283 := n4_; have HB := n5_; clear n0_ n1_ n2_ n3_ n4_ n5_; (try clear hb); (try clear hb2); (try clear hk); (try clear hi); have p307 : 0 ≤ (t293 : Int) := of_decide_eq_true (by with_reducible assumption); have q307 : t293 < (t295.length : Int) := of_decide_eq_true (by with_reducible assumption); obtain ⟨ad307, e307, hx307_0⟩ := Kd.at_int (Kd.R_reads' HO297.out).2.2 t293 p307 q307; cases e307; replace p307 := eq_true p307; replace q307 := eq_true q307)); try go_wp2_with (first | (go_at_call 11; (with_reducible refine (impl_IsTiming.calls t279 _ _ t280 _ _ t295 true _ ?side1 ?side2 ?side3 ?side4 A40.out).mono ?_); (case side1 => repeat (first | exact (Kd.R_reads' HO_284001.out).2.2 | (with_reducible refine Kd.C_alloc ?_ _) | (with_reducible refine Kd.C_drewN ?_ _) | (with_reducible refine Kd.C_drew ?_))); (case side2 => exact (Kd.R_reads' HO_284001.out).2.1); (case side3 => repeat (first | exact (Kd.R_reads' HO297.out).2.2 | (with_reducible refine Kd.C_alloc ?_ _) | (with_reducible refine Kd.C_drewN ?_ _) | (with_reducible refine Kd.C_drew ?_))); (case side4 => exact (Kd.R_reads' HO297.out).2.1); rintro e w81 ⟨rfl, hb⟩; have n0_ := Aside0.mk (Kd.R_below (by (with_reducible repeat (first | apply Kd.R_alloc | apply Kd.R_drewN | apply Kd.R_drew)); exact HO_7.out) hb); have n1_ := Aside0.mk (Kd.R_below (by (with_reducible repeat (first | apply Kd.R_alloc | apply Kd.R_drewN | apply Kd.R_drew)); exact HO_284001.out) hb); have n2_ := Aside0.mk (Kd.R_below (by (with_reducible repeat (first | apply Kd.R_alloc | apply Kd.R_drewN | apply Kd.R_drew)); exact HO297.out) hb); have n3_ := Aside0.mk (Kd.R_below (by (with_reducible repeat (first | apply Kd.R_alloc | apply Kd.R_drewN | apply Kd.R_drew)); exact HO301.out) hb); have n4_ := Aside0.mk (blk_below (g := gb283) (o := .cells #[.int .i64 t279, .slice Ao11 t280.length co11] 26 (0, 0)) (by (with_reducible repeat (first | refine blk_drewN ?_ _ | refine blk_drew ?_ | refine blk_alloc ?_ _)); exact BK283.out) hb); have n5_ := Aside0.mk (below_step (by repeat (first | (with_reducible first | exact HB.out | apply below_alloc | apply pw_below_drewN | apply below_drew1 | refine below_set ?_ GE283.out) | exact HB.out)) hb); clear HO_7; clear HO_284001; clear HO297; clear HO301; clear BK283; clear HB; have HO_7 := n0_; have HO_284001 := n1_; have HO297 := n2_; have HO301 := n3_; have BK283 := n4_; have HB := n5_; clear n0_ n1_ n2_ n3_ n4_ n5_; (try clear hb); (try clear hb2); (try clear hk); (try clear hi); have p307 : 0 ≤ (t293 : Int) := of_decide_eq_true (by with_reducible assumption); have q307 : t293 < (t295.length : Int) := of_decide_eq_true (by with_reducible assumption); obtain ⟨ad307, e307, hx307_0⟩ := Kd.at_int (Kd.R_reads' HO297.out).2.2 t293 p307 q307; cases e307; replace p307 := eq_true p307; replace q307 := eq_true q307)))
              go_meet
              case rel => exact ⟨_, (false), (by first | rfl | (simp; done) | (simp [*]; done)), H', ⟨by have := HK1.out; first | omega | exact Nat.le_refl _⟩, ⟨by (with_reducible repeat (first | apply Kd.R_alloc | apply Kd.R_drewN | apply Kd.R_drew)); exact Kd.R_mono HO_7.out (fun _ hk => ⟨hk.1.2, hk.2⟩)⟩, ⟨by (with_reducible repeat (first | apply Kd.R_alloc | apply Kd.R_drewN | apply Kd.R_drew)); exact Kd.R_mono HO297.out (fun _ hk => ⟨hk.1.2, hk.2⟩)⟩, ⟨by (with_reducible repeat (first | apply Kd.R_alloc | apply Kd.R_drewN | apply Kd.R_drew)); exact Kd.R_mono HO301.out (fun _ hk => ⟨hk.1.2, hk.2⟩)⟩, ⟨by (with_reducible repeat (first | apply Kd.R_alloc | apply Kd.R_drewN | apply Kd.R_drew)); exact HO_284001.out⟩, ⟨by (with_reducible repeat (first | refine blk_drewN ?_ _ | refine blk_drew ?_ | refine blk_alloc ?_ _)); exact BK283.out⟩, ⟨by repeat (first | (with_reducible first | exact HB.out | apply below_alloc | apply pw_below_drewN | apply below_drew1 | refine below_set ?_ GE283.out) | exact HB.out)⟩⟩
           ·rw [if_neg c44] at H
            have c44b0 : ((rd t295 t293) == 0) = false := beq_eq_false_iff_ne.mpr c44
            have c44b1 : ((rd t295 t293) != 0) = true := bne_iff_ne.mpr c44
            have H' := Aside0.mk H
            clear H
            have hcz82_0 : w38.cell? ⟨gb283, 0, none⟩ = some (.int .i64 t279) := (blk_cell BK283.out 0).trans rfl
            have hcz82_1 : w38.cell? ⟨gb283, 1, none⟩ = some (.slice Ao11 t280.length co11) := (blk_cell BK283.out 1).trans rfl
            have hfz82_0 := blk_frozen BK283.out 0
            have hfz82_1 := blk_frozen BK283.out 1
            obtain ⟨Ao83, co83, eo83⟩ := Kd.R_slice HO297.out
            subst eo83
            go_wp2_with (first | (go_at_call 11; (with_reducible refine (impl_IsTiming.calls t279 _ _ t280 _ _ t295 true _ ?side1 ?side2 ?side3 ?side4 A40.out).mono ?_); (case side1 => repeat (first | exact (Kd.R_reads' HO_284001.out).2.2 | (with_reducible refine Kd.C_alloc ?_ _) | (with_reducible refine Kd.C_drewN ?_ _) | (with_reducible refine Kd.C_drew ?_))); (case side2 => exact (Kd.R_reads' HO_284001.out).2.1); (case side3 => repeat (first | exact (Kd.R_reads' HO297.out).2.2 | (with_reducible refine Kd.C_alloc ?_ _) | (with_reducible refine Kd.C_drewN ?_ _) | (with_reducible refine Kd.C_drew ?_))); (case side4 => exact (Kd.R_reads' HO297.out).2.1); rintro e w84 ⟨rfl, hb⟩; have n0_ := Aside0.mk (Kd.R_below (by (with_reducible repeat (first | apply Kd.R_alloc | apply Kd.R_drewN | apply Kd.R_drew)); exact HO_7.out) hb); have n1_ := Aside0.mk (Kd.R_below (by (with_reducible repeat (first | apply Kd.R_alloc | apply Kd.R_drewN | apply Kd.R_drew)); exact HO_284001.out) hb); have n2_ := Aside0.mk (Kd.R_below (by (with_reducible repeat (first | apply Kd.R_alloc | apply Kd.R_drewN | apply Kd.R_drew)); exact HO297.out) hb); have n3_ := Aside0.mk (Kd.R_below (by (with_reducible repeat (first | apply Kd.R_alloc | apply Kd.R_drewN | apply Kd.R_drew)); exact HO301.out) hb); have n4_ := Aside0.mk (blk_below (g := gb283) (o := .cells #[.int .i64 t279, .slice Ao11 t280.length co11] 26 (0, 0)) (by (with_reducible repeat (first | refine blk_drewN ?_ _ | refine blk_drew ?_ | refine blk_alloc ?_ _)); exact BK283.out) hb); have n5_ := Aside0.mk (below_step (by repeat (first | (with_reducible first | exact HB.out | apply below_alloc | apply pw_below_drewN | apply below_drew1 | refine below_set ?_ GE283.out) | exact HB.out)) hb); clear HO_7; clear HO_284001; clear HO297; clear HO301; clear BK283; clear HB; have HO_7 := n0_; have HO_284001 := n1_; have HO297 := n2_; have HO301 := n3_; have BK283 := n4_; have HB := n5_; clear n0_ n1_ n2_ n3_ n4_ n5_; (try clear hb); (try clear hb2); (try clear hk); (try clear hi); have p307 : 0 ≤ (t293 : Int) := of_decide_eq_true (by with_reducible assumption); have q307 : t293 < (t295.length : Int) := of_decide_eq_true (by with_reducible assumption); obtain ⟨ad307, e307, hx307_0⟩ := Kd.at_int (Kd.R_reads' HO297.out).2.2 t293 p307 q307; cases e307; replace p307 := eq_true p307; replace q307 := eq_true q307))
            repeat (go_quiet (first | (go_at_call 11; (with_reducible refine (impl_IsTiming.calls t279 _ _ t280 _ _ t295 true _ ?side1 ?side2 ?side3 ?side4 A40.out).mono ?_); (case side1 => repeat (first | exact (Kd.R_reads' HO_284001.out).2.2 | (with_reducible refine Kd.C_alloc ?_ _) | (with_reducible refine Kd.C_drewN ?_ _) | (with_reducible refine Kd.C_drew ?_))); (case side2 => exact (Kd.R_reads' HO_284001.out).2.1); (case side3 => repeat (first | exact (Kd.R_reads' HO297.out).2.2 | (with_reducible refine Kd.C_alloc ?_ _) | (with_reducible refine Kd.C_drewN ?_ _) | (with_reducible refine Kd.C_drew ?_))); (case side4 => exact (Kd.R_reads' HO297.out).2.1); rintro e w84 ⟨rfl, hb⟩; have n0_ := Aside0.mk (Kd.R_below (by (with_reducible repeat (first | apply Kd.R_alloc | apply Kd.R_drewN | apply Kd.R_drew)); exact HO_7.out) hb); have n1_ := Aside0.mk (Kd.R_below (by (with_reducible repeat (first | apply Kd.R_alloc | apply Kd.R_drewN | apply Kd.R_drew)); exact HO_284001.out) hb); have n2_ := Aside0.mk (Kd.R_below (by (with_reducible repeat (first | apply Kd.R_alloc | apply Kd.R_drewN | apply Kd.R_drew)); exact HO297.out) hb); have n3_ := Aside0.mk (Kd.R_below (by (with_reducible repeat (first | apply Kd.R_alloc | apply Kd.R_drewN | apply Kd.R_drew)); exact HO301.out) hb); have n4_ := Aside0.mk (blk_below (g := gb283) (o := .cells #[.int .i64 t279, .slice Ao11 t280.length co11] 26 (0, 0)) (by (with_reducible repeat (first | refine blk_drewN ?_ _ | refine blk_drew ?_ | refine blk_alloc ?_ _)); exact BK283.out) hb); have n5_ := Aside0.mk (below_step (by repeat (first | (with_reducible first | exact HB.out | apply below_alloc | apply pw_below_drewN | apply below_drew1 | refine below_set ?_ GE283.out) | exact HB.out)) hb); clear HO_7; clear HO_284001; clear HO297; clear HO301; clear BK283; clear HB; have HO_7 := n0_; have HO_284001 := n1_; have HO297 := n2_; have HO301 := n3_; have BK283 := n4_; have HB := n5_; clear n0_ n1_ n2_ n3_ n4_ n5_; (try clear hb); (try clear hb2); (try clear hk); (try clear hi); have p307 : 0 ≤ (t293 : Int) := of_decide_eq_true (by with_reducible assumption); have q307 : t293 < (t295.length : Int) := of_decide_eq_true (by with_reducible assumption); obtain ⟨ad307, e307, hx307_0⟩ := Kd.at_int (Kd.R_reads' HO297.out).2.2 t293 p307 q307; cases e307; replace p307 := eq_true p307; replace q307 := eq_true q307)); try go_wp2_with (first | (go_at_call 11; (with_reducible refine (impl_IsTiming.calls t279 _ _ t280 _ _ t295 true _ ?side1 ?side2 ?side3 ?side4 A40.out).mono ?_); (case side1 => repeat (first | exact (Kd.R_reads' HO_284001.out).2.2 | (with_reducible refine Kd.C_alloc ?_ _) | (with_reducible refine Kd.C_drewN ?_ _) | (with_reducible refine Kd.C_drew ?_))); (case side2 => exact (Kd.R_reads' HO_284001.out).2.1); (case side3 => repeat (first | exact (Kd.R_reads' HO297.out).2.2 | (with_reducible refine Kd.C_alloc ?_ _) | (with_reducible refine Kd.C_drewN ?_ _) | (with_reducible refine Kd.C_drew ?_))); (case side4 => exact (Kd.R_reads' HO297.out).2.1); rintro e w84 ⟨rfl, hb⟩; have n0_ := Aside0.mk (Kd.R_below (by (with_reducible repeat (first | apply Kd.R_alloc | apply Kd.R_drewN | apply Kd.R_drew)); exact HO_7.out) hb); have n1_ := Aside0.mk (Kd.R_below (by (with_reducible repeat (first | apply Kd.R_alloc | apply Kd.R_drewN | apply Kd.R_drew)); exact HO_284001.out) hb); have n2_ := Aside0.mk (Kd.R_below (by (with_reducible repeat (first | apply Kd.R_alloc | apply Kd.R_drewN | apply Kd.R_drew)); exact HO297.out) hb); have n3_ := Aside0.mk (Kd.R_below (by (with_reducible repeat (first | apply Kd.R_alloc | apply Kd.R_drewN | apply Kd.R_drew)); exact HO301.out) hb); have n4_ := Aside0.mk (blk_below (g := gb283) (o := .cells #[.int .i64 t279, .slice Ao11 t280.length co11] 26 (0, 0)) (by (with_reducible repeat (first | refine blk_drewN ?_ _ | refine blk_drew ?_ | refine blk_alloc ?_ _)); exact BK283.out) hb); have n5_ := Aside0.mk (below_step (by repeat (first | (with_reducible first | exact HB.out | apply below_alloc | apply pw_below_drewN | apply below_drew1 | refine below_set ?_ GE283.out) | exact HB.out)) hb); clear HO_7; clear HO_284001; clear HO297; clear HO301; clear BK283; clear HB; have HO_7 := n0_; have HO_284001 := n1_; have HO297 := n2_; have HO301 := n3_; have BK283 := n4_; have HB := n5_; clear n0_ n1_ n2_ n3_ n4_ n5_; (try clear hb); (try clear hb2); (try clear hk); (try clear hi); have p307 : 0 ≤ (t293 : Int) := of_decide_eq_true (by with_reducible assumption); have q307 : t293 < (t295.length : Int) := of_decide_eq_true (by with_reducible assumption); obtain ⟨ad307, e307, hx307_0⟩ := Kd.at_int (Kd.R_reads' HO297.out).2.2 t293 p307 q307; cases e307; replace p307 := eq_true p307; replace q307 := eq_true q307)))
            go_meet
            case rel => exact ⟨_, (true), (by first | rfl | (simp; done) | (simp [*]; done)), H', ⟨by have := HK1.out; first | omega | exact Nat.le_refl _⟩, ⟨by (with_reducible repeat (first | apply Kd.R_alloc | apply Kd.R_drewN | apply Kd.R_drew)); exact Kd.R_mono HO_7.out (fun _ hk => ⟨hk.1.2, hk.2⟩)⟩, ⟨by (with_reducible repeat (first | apply Kd.R_alloc | apply Kd.R_drewN | apply Kd.R_drew)); exact Kd.R_mono HO297.out (fun _ hk => ⟨hk.1.2, hk.2⟩)⟩, ⟨by (with_reducible repeat (first | apply Kd.R_alloc | apply Kd.R_drewN | apply Kd.R_drew)); exact Kd.R_mono HO301.out (fun _ hk => ⟨hk.1.2, hk.2⟩)⟩, ⟨by (with_reducible repeat (first | apply Kd.R_alloc | apply Kd.R_drewN | apply Kd.R_drew)); exact HO_284001.out⟩, ⟨by (with_reducible repeat (first | refine blk_drewN ?_ _ | refine blk_drew ?_ | refine blk_alloc ?_ _)); exact BK283.out⟩, ⟨by repeat (first | (with_reducible first | exact HB.out | apply below_alloc | apply pw_below_drewN | apply below_drew1 | refine below_set ?_ GE283.out) | exact HB.out)⟩⟩
          ·rw [if_neg c43] at H
           exact absurd H (by simp)
         ·rw [if_neg c42] at H
          exact absurd H (by simp)
        ·replace c41 := Bool.eq_false_iff.mpr c41
         subst c41
         have H1 : (laws_FnTimings.j1 k1 t279 t284 t287 t293 t294 t295 true t299 t302 t303 t304 t305 true) = some r := by rw [if_neg (show ¬ (false = true) by decide)] at H; exact H
         clear H
         have H := H1
         clear H1
         have H' := Aside0.mk H
         clear H
         have hcz85_0 : w38.cell? ⟨gb283, 0, none⟩ = some (.int .i64 t279) := (blk_cell BK283.out 0).trans rfl
         have hcz85_1 : w38.cell? ⟨gb283, 1, none⟩ = some (.slice Ao11 t280.length co11) := (blk_cell BK283.out 1).trans rfl
         have hfz85_0 := blk_frozen BK283.out 0
         have hfz85_1 := blk_frozen BK283.out 1
         obtain ⟨Ao86, co86, eo86⟩ := Kd.R_slice HO297.out
         subst eo86
         go_wp2_with (first | (go_at_call 11; (with_reducible refine (impl_IsTiming.calls t279 _ _ t280 _ _ t295 false _ ?side1 ?side2 ?side3 ?side4 A40.out).mono ?_); (case side1 => repeat (first | exact (Kd.R_reads' HO_284001.out).2.2 | (with_reducible refine Kd.C_alloc ?_ _) | (with_reducible refine Kd.C_drewN ?_ _) | (with_reducible refine Kd.C_drew ?_))); (case side2 => exact (Kd.R_reads' HO_284001.out).2.1); (case side3 => repeat (first | exact (Kd.R_reads' HO297.out).2.2 | (with_reducible refine Kd.C_alloc ?_ _) | (with_reducible refine Kd.C_drewN ?_ _) | (with_reducible refine Kd.C_drew ?_))); (case side4 => exact (Kd.R_reads' HO297.out).2.1); rintro e w87 ⟨rfl, hb⟩; have n0_ := Aside0.mk (Kd.R_below (by (with_reducible repeat (first | apply Kd.R_alloc | apply Kd.R_drewN | apply Kd.R_drew)); exact HO_7.out) hb); have n1_ := Aside0.mk (Kd.R_below (by (with_reducible repeat (first | apply Kd.R_alloc | apply Kd.R_drewN | apply Kd.R_drew)); exact HO_284001.out) hb); have n2_ := Aside0.mk (Kd.R_below (by (with_reducible repeat (first | apply Kd.R_alloc | apply Kd.R_drewN | apply Kd.R_drew)); exact HO297.out) hb); have n3_ := Aside0.mk (Kd.R_below (by (with_reducible repeat (first | apply Kd.R_alloc | apply Kd.R_drewN | apply Kd.R_drew)); exact HO301.out) hb); have n4_ := Aside0.mk (blk_below (g := gb283) (o := .cells #[.int .i64 t279, .slice Ao11 t280.length co11] 26 (0, 0)) (by (with_reducible repeat (first | refine blk_drewN ?_ _ | refine blk_drew ?_ | refine blk_alloc ?_ _)); exact BK283.out) hb); have n5_ := Aside0.mk (below_step (by repeat (first | (with_reducible first | exact HB.out | apply below_alloc | apply pw_below_drewN | apply below_drew1 | refine below_set ?_ GE283.out) | exact HB.out)) hb); clear HO_7; clear HO_284001; clear HO297; clear HO301; clear BK283; clear HB; have HO_7 := n0_; have HO_284001 := n1_; have HO297 := n2_; have HO301 := n3_; have BK283 := n4_; have HB := n5_; clear n0_ n1_ n2_ n3_ n4_ n5_; (try clear hb); (try clear hb2); (try clear hk); (try clear hi)))
         repeat (go_quiet (first | (go_at_call 11; (with_reducible refine (impl_IsTiming.calls t279 _ _ t280 _ _ t295 false _ ?side1 ?side2 ?side3 ?side4 A40.out).mono ?_); (case side1 => repeat (first | exact (Kd.R_reads' HO_284001.out).2.2 | (with_reducible refine Kd.C_alloc ?_ _) | (with_reducible refine Kd.C_drewN ?_ _) | (with_reducible refine Kd.C_drew ?_))); (case side2 => exact (Kd.R_reads' HO_284001.out).2.1); (case side3 => repeat (first | exact (Kd.R_reads' HO297.out).2.2 | (with_reducible refine Kd.C_alloc ?_ _) | (with_reducible refine Kd.C_drewN ?_ _) | (with_reducible refine Kd.C_drew ?_))); (case side4 => exact (Kd.R_reads' HO297.out).2.1); rintro e w87 ⟨rfl, hb⟩; have n0_ := Aside0.mk (Kd.R_below (by (with_reducible repeat (first | apply Kd.R_alloc | apply Kd.R_drewN | apply Kd.R_drew)); exact HO_7.out) hb); have n1_ := Aside0.mk (Kd.R_below (by (with_reducible repeat (first | apply Kd.R_alloc | apply Kd.R_drewN | apply Kd.R_drew)); exact HO_284001.out) hb); have n2_ := Aside0.mk (Kd.R_below (by (with_reducible repeat (first | apply Kd.R_alloc | apply Kd.R_drewN | apply Kd.R_drew)); exact HO297.out) hb); have n3_ := Aside0.mk (Kd.R_below (by (with_reducible repeat (first | apply Kd.R_alloc | apply Kd.R_drewN | apply Kd.R_drew)); exact HO301.out) hb); have n4_ := Aside0.mk (blk_below (g := gb283) (o := .cells #[.int .i64 t279, .slice Ao11 t280.length co11] 26 (0, 0)) (by (with_reducible repeat (first | refine blk_drewN ?_ _ | refine blk_drew ?_ | refine blk_alloc ?_ _)); exact BK283.out) hb); have n5_ := Aside0.mk (below_step (by repeat (first | (with_reducible first | exact HB.out | apply below_alloc | apply pw_below_drewN | apply below_drew1 | refine below_set ?_ GE283.out) | exact HB.out)) hb); clear HO_7; clear HO_284001; clear HO297; clear HO301; clear BK283; clear HB; have HO_7 := n0_; have HO_284001 := n1_; have HO297 := n2_; have HO301 := n3_; have BK283 := n4_; have HB := n5_; clear n0_ n1_ n2_ n3_ n4_ n5_; (try clear hb); (try clear hb2); (try clear hk); (try clear hi))); try go_wp2_with (first | (go_at_call 11; (with_reducible refine (impl_IsTiming.calls t279 _ _ t280 _ _ t295 false _ ?side1 ?side2 ?side3 ?side4 A40.out).mono ?_); (case side1 => repeat (first | exact (Kd.R_reads' HO_284001.out).2.2 | (with_reducible refine Kd.C_alloc ?_ _) | (with_reducible refine Kd.C_drewN ?_ _) | (with_reducible refine Kd.C_drew ?_))); (case side2 => exact (Kd.R_reads' HO_284001.out).2.1); (case side3 => repeat (first | exact (Kd.R_reads' HO297.out).2.2 | (with_reducible refine Kd.C_alloc ?_ _) | (with_reducible refine Kd.C_drewN ?_ _) | (with_reducible refine Kd.C_drew ?_))); (case side4 => exact (Kd.R_reads' HO297.out).2.1); rintro e w87 ⟨rfl, hb⟩; have n0_ := Aside0.mk (Kd.R_below (by (with_reducible repeat (first | apply Kd.R_alloc | apply Kd.R_drewN | apply Kd.R_drew)); exact HO_7.out) hb); have n1_ := Aside0.mk (Kd.R_below (by (with_reducible repeat (first | apply Kd.R_alloc | apply Kd.R_drewN | apply Kd.R_drew)); exact HO_284001.out) hb); have n2_ := Aside0.mk (Kd.R_below (by (with_reducible repeat (first | apply Kd.R_alloc | apply Kd.R_drewN | apply Kd.R_drew)); exact HO297.out) hb); have n3_ := Aside0.mk (Kd.R_below (by (with_reducible repeat (first | apply Kd.R_alloc | apply Kd.R_drewN | apply Kd.R_drew)); exact HO301.out) hb); have n4_ := Aside0.mk (blk_below (g := gb283) (o := .cells #[.int .i64 t279, .slice Ao11 t280.length co11] 26 (0, 0)) (by (with_reducible repeat (first | refine blk_drewN ?_ _ | refine blk_drew ?_ | refine blk_alloc ?_ _)); exact BK283.out) hb); have n5_ := Aside0.mk (below_step (by repeat (first | (with_reducible first | exact HB.out | apply below_alloc | apply pw_below_drewN | apply below_drew1 | refine below_set ?_ GE283.out) | exact HB.out)) hb); clear HO_7; clear HO_284001; clear HO297; clear HO301; clear BK283; clear HB; have HO_7 := n0_; have HO_284001 := n1_; have HO297 := n2_; have HO301 := n3_; have BK283 := n4_; have HB := n5_; clear n0_ n1_ n2_ n3_ n4_ n5_; (try clear hb); (try clear hb2); (try clear hk); (try clear hi))))
         go_meet
         case rel => exact ⟨_, (true), (by first | rfl | (simp; done) | (simp [*]; done)), H', ⟨by have := HK1.out; first | omega | exact Nat.le_refl _⟩, ⟨by (with_reducible repeat (first | apply Kd.R_alloc | apply Kd.R_drewN | apply Kd.R_drew)); exact Kd.R_mono HO_7.out (fun _ hk => ⟨hk.1.2, hk.2⟩)⟩, ⟨by (with_reducible repeat (first | apply Kd.R_alloc | apply Kd.R_drewN | apply Kd.R_drew)); exact Kd.R_mono HO297.out (fun _ hk => ⟨hk.1.2, hk.2⟩)⟩, ⟨by (with_reducible repeat (first | apply Kd.R_alloc | apply Kd.R_drewN | apply Kd.R_drew)); exact Kd.R_mono HO301.out (fun _ hk => ⟨hk.1.2, hk.2⟩)⟩, ⟨by (with_reducible repeat (first | apply Kd.R_alloc | apply Kd.R_drewN | apply Kd.R_drew)); exact HO_284001.out⟩, ⟨by (with_reducible repeat (first | refine blk_drewN ?_ _ | refine blk_drew ?_ | refine blk_alloc ?_ _)); exact BK283.out⟩, ⟨by repeat (first | (with_reducible first | exact HB.out | apply below_alloc | apply pw_below_drewN | apply below_drew1 | refine below_set ?_ GE283.out) | exact HB.out)⟩⟩
       ·replace c39 := Bool.eq_false_iff.mpr c39
        subst c39
        have H1 : (if t302 = true then ((impl_IsTiming.f t279 t280 t299).bind fun t310 => (if t310 = true then (if 0 ≤ t293 then (if t293 < (t299.length : Int) then (if (rd t299 t293) = 0 then (if t305 = true then (laws_FnTimings.j1 k1 t279 t284 t287 t293 t294 t295 false t299 t302 t303 t304 t305 (decide (t303 > t304))) else (laws_FnTimings.j1 k1 t279 t284 t287 t293 t294 t295 false t299 t302 t303 t304 t305 false)) else (laws_FnTimings.j1 k1 t279 t284 t287 t293 t294 t295 false t299 t302 t303 t304 t305 true)) else (none)) else (none)) else (laws_FnTimings.j1 k1 t279 t284 t287 t293 t294 t295 false t299 t302 t303 t304 t305 true))) else (if t305 = true then (laws_FnTimings.j1 k1 t279 t284 t287 t293 t294 t295 false t299 t302 t303 t304 t305 (decide (t303 > t304))) else (laws_FnTimings.j1 k1 t279 t284 t287 t293 t294 t295 false t299 t302 t303 t304 t305 false))) = some r := by rw [if_neg (show ¬ (false = true) by decide)] at H; exact H
        clear H
        have H := H1
        clear H1
        by_cases c88 : t302 = true
        ·subst c88
         have H1 : ((impl_IsTiming.f t279 t280 t299).bind fun t310 => (if t310 = true then (if 0 ≤ t293 then (if t293 < (t299.length : Int) then (if (rd t299 t293) = 0 then (if t305 = true then (laws_FnTimings.j1 k1 t279 t284 t287 t293 t294 t295 false t299 true t303 t304 t305 (decide (t303 > t304))) else (laws_FnTimings.j1 k1 t279 t284 t287 t293 t294 t295 false t299 true t303 t304 t305 false)) else (laws_FnTimings.j1 k1 t279 t284 t287 t293 t294 t295 false t299 true t303 t304 t305 true)) else (none)) else (none)) else (laws_FnTimings.j1 k1 t279 t284 t287 t293 t294 t295 false t299 true t303 t304 t305 true))) = some r := by rw [if_pos rfl] at H; exact H
         clear H
         have H := H1
         clear H1
         replace H := Option.bind_eq_some_iff.mp H
         obtain ⟨t310, A890, H⟩ := H
         replace H : (if t310 = true then (if 0 ≤ t293 then (if t293 < (t299.length : Int) then (if (rd t299 t293) = 0 then (if t305 = true then (laws_FnTimings.j1 k1 t279 t284 t287 t293 t294 t295 false t299 true t303 t304 t305 (decide (t303 > t304))) else (laws_FnTimings.j1 k1 t279 t284 t287 t293 t294 t295 false t299 true t303 t304 t305 false)) else (laws_FnTimings.j1 k1 t279 t284 t287 t293 t294 t295 false t299 true t303 t304 t305 true)) else (none)) else (none)) else (laws_FnTimings.j1 k1 t279 t284 t287 t293 t294 t295 false t299 true t303 t304 t305 true)) = some r := H
         have A89 := Aside0.mk A890
         clear A890
         by_cases c90 : t310 = true
         ·subst c90
          have H1 : (if 0 ≤ t293 then (if t293 < (t299.length : Int) then (if (rd t299 t293) = 0 then (if t305 = true then (laws_FnTimings.j1 k1 t279 t284 t287 t293 t294 t295 false t299 true t303 t304 t305 (decide (t303 > t304))) else (laws_FnTimings.j1 k1 t279 t284 t287 t293 t294 t295 false t299 true t303 t304 t305 false)) else (laws_FnTimings.j1 k1 t279 t284 t287 t293 t294 t295 false t299 true t303 t304 t305 true)) else (none)) else (none)) = some r := by rw [if_pos rfl] at H; exact H
          clear H
          have H := H1
          clear H1
          by_cases c91 : 0 ≤ t293
          ·rw [if_pos c91] at H
           have c91b0 : decide (0 ≤ t293) = true := decide_eq_true c91
           clear c91
           by_cases c92 : t293 < (t299.length : Int)
           ·rw [if_pos c92] at H
            have c92b0 : decide (t293 < (t299.length : Int)) = true := decide_eq_true c92
            clear c92
            by_cases c93 : (rd t299 t293) = 0
            ·rw [if_pos c93] at H
             have c93b0 : ((rd t299 t293) == 0) = true := beq_iff_eq.mpr c93
             have c93b1 : ((rd t299 t293) != 0) = false := bne_eq_false_iff_eq.mpr c93
             clear c93
             by_cases c94 : t305 = true
             ·subst c94
              have H1 : (laws_FnTimings.j1 k1 t279 t284 t287 t293 t294 t295 false t299 true t303 t304 true (decide (t303 > t304))) = some r := by rw [if_pos rfl] at H; exact H
              clear H
              have H := H1
              clear H1
              have H' := Aside0.mk H
              clear H
              have hcz95_0 : w38.cell? ⟨gb283, 0, none⟩ = some (.int .i64 t279) := (blk_cell BK283.out 0).trans rfl
              have hcz95_1 : w38.cell? ⟨gb283, 1, none⟩ = some (.slice Ao11 t280.length co11) := (blk_cell BK283.out 1).trans rfl
              have hfz95_0 := blk_frozen BK283.out 0
              have hfz95_1 := blk_frozen BK283.out 1
              obtain ⟨Ao96, co96, eo96⟩ := Kd.R_slice HO301.out
              subst eo96
              go_wp2_with (first | (go_at_call 11; (with_reducible refine (impl_IsTiming.calls t279 _ _ t280 _ _ t299 true _ ?side1 ?side2 ?side3 ?side4 A89.out).mono ?_); (case side1 => repeat (first | exact (Kd.R_reads' HO_284001.out).2.2 | (with_reducible refine Kd.C_alloc ?_ _) | (with_reducible refine Kd.C_drewN ?_ _) | (with_reducible refine Kd.C_drew ?_))); (case side2 => exact (Kd.R_reads' HO_284001.out).2.1); (case side3 => repeat (first | exact (Kd.R_reads' HO301.out).2.2 | (with_reducible refine Kd.C_alloc ?_ _) | (with_reducible refine Kd.C_drewN ?_ _) | (with_reducible refine Kd.C_drew ?_))); (case side4 => exact (Kd.R_reads' HO301.out).2.1); rintro e w97 ⟨rfl, hb⟩; have n0_ := Aside0.mk (Kd.R_below (by (with_reducible repeat (first | apply Kd.R_alloc | apply Kd.R_drewN | apply Kd.R_drew)); exact HO_7.out) hb); have n1_ := Aside0.mk (Kd.R_below (by (with_reducible repeat (first | apply Kd.R_alloc | apply Kd.R_drewN | apply Kd.R_drew)); exact HO_284001.out) hb); have n2_ := Aside0.mk (Kd.R_below (by (with_reducible repeat (first | apply Kd.R_alloc | apply Kd.R_drewN | apply Kd.R_drew)); exact HO297.out) hb); have n3_ := Aside0.mk (Kd.R_below (by (with_reducible repeat (first | apply Kd.R_alloc | apply Kd.R_drewN | apply Kd.R_drew)); exact HO301.out) hb); have n4_ := Aside0.mk (blk_below (g := gb283) (o := .cells #[.int .i64 t279, .slice Ao11 t280.length co11] 26 (0, 0)) (by (with_reducible repeat (first | refine blk_drewN ?_ _ | refine blk_drew ?_ | refine blk_alloc ?_ _)); exact BK283.out) hb); have n5_ := Aside0.mk (below_step (by repeat (first | (with_reducible first | exact HB.out | apply below_alloc | apply pw_below_drewN | apply below_drew1 | refine below_set ?_ GE283.out) | exact HB.out)) hb); clear HO_7; clear HO_284001; clear HO297; clear HO301; clear BK283; clear HB; have HO_7 := n0_; have HO_284001 := n1_; have HO297 := n2_; have HO301 := n3_; have BK283 := n4_; have HB := n5_; clear n0_ n1_ n2_ n3_ n4_ n5_; (try clear hb); (try clear hb2); (try clear hk); (try clear hi); have p311 : 0 ≤ (t293 : Int) := of_decide_eq_true (by with_reducible assumption); have q311 : t293 < (t299.length : Int) := of_decide_eq_true (by with_reducible assumption); obtain ⟨ad311, e311, hx311_0⟩ := Kd.at_int (Kd.R_reads' HO301.out).2.2 t293 p311 q311; cases e311; replace p311 := eq_true p311; replace q311 := eq_true q311))
              repeat (go_quiet (first | (go_at_call 11; (with_reducible refine (impl_IsTiming.calls t279 _ _ t280 _ _ t299 true _ ?side1 ?side2 ?side3 ?side4 A89.out).mono ?_); (case side1 => repeat (first | exact (Kd.R_reads' HO_284001.out).2.2 | (with_reducible refine Kd.C_alloc ?_ _) | (with_reducible refine Kd.C_drewN ?_ _) | (with_reducible refine Kd.C_drew ?_))); (case side2 => exact (Kd.R_reads' HO_284001.out).2.1); (case side3 => repeat (first | exact (Kd.R_reads' HO301.out).2.2 | (with_reducible refine Kd.C_alloc ?_ _) | (with_reducible refine Kd.C_drewN ?_ _) | (with_reducible refine Kd.C_drew ?_))); (case side4 => exact (Kd.R_reads' HO301.out).2.1); rintro e w97 ⟨rfl, hb⟩; have n0_ := Aside0.mk (Kd.R_below (by (with_reducible repeat (first | apply Kd.R_alloc | apply Kd.R_drewN | apply Kd.R_drew)); exact HO_7.out) hb); have n1_ := Aside0.mk (Kd.R_below (by (with_reducible repeat (first | apply Kd.R_alloc | apply Kd.R_drewN | apply Kd.R_drew)); exact HO_284001.out) hb); have n2_ := Aside0.mk (Kd.R_below (by (with_reducible repeat (first | apply Kd.R_alloc | apply Kd.R_drewN | apply Kd.R_drew)); exact HO297.out) hb); have n3_ := Aside0.mk (Kd.R_below (by (with_reducible repeat (first | apply Kd.R_alloc | apply Kd.R_drewN | apply Kd.R_drew)); exact HO301.out) hb); have n4_ := Aside0.mk (blk_below (g := gb283) (o := .cells #[.int .i64 t279, .slice Ao11 t280.length co11] 26 (0, 0)) (by (with_reducible repeat (first | refine blk_drewN ?_ _ | refine blk_drew ?_ | refine blk_alloc ?_ _)); exact BK283.out) hb); have n5_ := Aside0.mk (below_step (by repeat (first | (with_reducible first | exact HB.out | apply below_alloc | apply pw_below_drewN | apply below_drew1 | refine below_set ?_ GE283.out) | exact HB.out)) hb); clear HO_7; clear HO_284001; clear HO297; clear HO301; clear BK283; clear HB; have HO_7 := n0_; have HO_284001 := n1_; have HO297 := n2_; have HO301 := n3_; have BK283 := n4_; have HB := n5_; clear n0_ n1_ n2_ n3_ n4_ n5_; (try clear hb); (try clear hb2); (try clear hk); (try clear hi); have p311 : 0 ≤ (t293 : Int) := of_decide_eq_true (by with_reducible assumption); have q311 : t293 < (t299.length : Int) := of_decide_eq_true (by with_reducible assumption); obtain ⟨ad311, e311, hx311_0⟩ := Kd.at_int (Kd.R_reads' HO301.out).2.2 t293 p311 q311; cases e311; replace p311 := eq_true p311; replace q311 := eq_true q311)); try go_wp2_with (first | (go_at_call 11; (with_reducible refine (impl_IsTiming.calls t279 _ _ t280 _ _ t299 true _ ?side1 ?side2 ?side3 ?side4 A89.out).mono ?_); (case side1 => repeat (first | exact (Kd.R_reads' HO_284001.out).2.2 | (with_reducible refine Kd.C_alloc ?_ _) | (with_reducible refine Kd.C_drewN ?_ _) | (with_reducible refine Kd.C_drew ?_))); (case side2 => exact (Kd.R_reads' HO_284001.out).2.1); (case side3 => repeat (first | exact (Kd.R_reads' HO301.out).2.2 | (with_reducible refine Kd.C_alloc ?_ _) | (with_reducible refine Kd.C_drewN ?_ _) | (with_reducible refine Kd.C_drew ?_))); (case side4 => exact (Kd.R_reads' HO301.out).2.1); rintro e w97 ⟨rfl, hb⟩; have n0_ := Aside0.mk (Kd.R_below (by (with_reducible repeat (first | apply Kd.R_alloc | apply Kd.R_drewN | apply Kd.R_drew)); exact HO_7.out) hb); have n1_ := Aside0.mk (Kd.R_below (by (with_reducible repeat (first | apply Kd.R_alloc | apply Kd.R_drewN | apply Kd.R_drew)); exact HO_284001.out) hb); have n2_ := Aside0.mk (Kd.R_below (by (with_reducible repeat (first | apply Kd.R_alloc | apply Kd.R_drewN | apply Kd.R_drew)); exact HO297.out) hb); have n3_ := Aside0.mk (Kd.R_below (by (with_reducible repeat (first | apply Kd.R_alloc | apply Kd.R_drewN | apply Kd.R_drew)); exact HO301.out) hb); have n4_ := Aside0.mk (blk_below (g := gb283) (o := .cells #[.int .i64 t279, .slice Ao11 t280.length co11] 26 (0, 0)) (by (with_reducible repeat (first | refine blk_drewN ?_ _ | refine blk_drew ?_ | refine blk_alloc ?_ _)); exact BK283.out) hb); have n5_ := Aside0.mk (below_step (by repeat (first | (with_reducible first | exact HB.out | apply below_alloc | apply pw_below_drewN | apply below_drew1 | refine below_set ?_ GE283.out) | exact HB.out)) hb); clear HO_7; clear HO_284001; clear HO297; clear HO301; clear BK283; clear HB; have HO_7 := n0_; have HO_284001 := n1_; have HO297 := n2_; have HO301 := n3_; have BK283 := n4_; have HB := n5_; clear n0_ n1_ n2_ n3_ n4_ n5_; (try clear hb); (try clear hb2); (try clear hk); (try clear hi); have p311 : 0 ≤ (t293 : Int) := of_decide_eq_true (by with_reducible assumption); have q311 : t293 < (t299.length : Int) := of_decide_eq_true (by with_reducible assumption); obtain ⟨ad311, e311, hx311_0⟩ := Kd.at_int (Kd.R_reads' HO301.out).2.2 t293 p311 q311; cases e311; replace p311 := eq_true p311; replace q311 := eq_true q311)))
              go_meet
              case rel => exact ⟨_, (decide (t303 > t304)), (by first | rfl | (simp; done) | (simp [*]; done)), H', ⟨by have := HK1.out; first | omega | exact Nat.le_refl _⟩, ⟨by (with_reducible repeat (first | apply Kd.R_alloc | apply Kd.R_drewN | apply Kd.R_drew)); exact Kd.R_mono HO_7.out (fun _ hk => ⟨hk.1.2, hk.2⟩)⟩, ⟨by (with_reducible repeat (first | apply Kd.R_alloc | apply Kd.R_drewN | apply Kd.R_drew)); exact Kd.R_mono HO297.out (fun _ hk => ⟨hk.1.2, hk.2⟩)⟩, ⟨by (with_reducible repeat (first | apply Kd.R_alloc | apply Kd.R_drewN | apply Kd.R_drew)); exact Kd.R_mono HO301.out (fun _ hk => ⟨hk.1.2, hk.2⟩)⟩, ⟨by (with_reducible repeat (first | apply Kd.R_alloc | apply Kd.R_drewN | apply Kd.R_drew)); exact HO_284001.out⟩, ⟨by (with_reducible repeat (first | refine blk_drewN ?_ _ | refine blk_drew ?_ | refine blk_alloc ?_ _)); exact BK283.out⟩, ⟨by repeat (first | (with_reducible first | exact HB.out | apply below_alloc | apply pw_below_drewN | apply below_drew1 | refine below_set ?_ GE283.out) | exact HB.out)⟩⟩
             ·replace c94 := Bool.eq_false_iff.mpr c94
              subst c94
              have H1 : (laws_FnTimings.j1 k1 t279 t284 t287 t293 t294 t295 false t299 true t303 t304 false false) = some r := by rw [if_neg (show ¬ (false = true) by decide)] at H; exact H
              clear H
              have H := H1
              clear H1
              have H' := Aside0.mk H
              clear H
              have hcz98_0 : w38.cell? ⟨gb283, 0, none⟩ = some (.int .i64 t279) := (blk_cell BK283.out 0).trans rfl
              have hcz98_1 : w38.cell? ⟨gb283, 1, none⟩ = some (.slice Ao11 t280.length co11) := (blk_cell BK283.out 1).trans rfl
              have hfz98_0 := blk_frozen BK283.out 0
              have hfz98_1 := blk_frozen BK283.out 1
              obtain ⟨Ao99, co99, eo99⟩ := Kd.R_slice HO301.out
              subst eo99
              go_wp2_with (first | (go_at_call 11; (with_reducible refine (impl_IsTiming.calls t279 _ _ t280 _ _ t299 true _ ?side1 ?side2 ?side3 ?side4 A89.out).mono ?_); (case side1 => repeat (first | exact (Kd.R_reads' HO_284001.out).2.2 | (with_reducible refine Kd.C_alloc ?_ _) | (with_reducible refine Kd.C_drewN ?_ _) | (with_reducible refine Kd.C_drew ?_))); (case side2 => exact (Kd.R_reads' HO_284001.out).2.1); (case side3 => repeat (first | exact (Kd.R_reads' HO301.out).2.2 | (with_reducible refine Kd.C_alloc ?_ _) | (with_reducible refine Kd.C_drewN ?_ _) | (with_reducible refine Kd.C_drew ?_))); (case side4 => exact (Kd.R_reads' HO301.out).2.1); rintro e w100 ⟨rfl, hb⟩; have n0_ := Aside0.mk (Kd.R_below (by (with_reducible repeat (first | apply Kd.R_alloc | apply Kd.R_drewN | apply Kd.R_drew)); exact HO_7.out) hb); have n1_ := Aside0.mk (Kd.R_below (by (with_reducible repeat (first | apply Kd.R_alloc | apply Kd.R_drewN | apply Kd.R_drew)); exact HO_284001.out) hb); have n2_ := Aside0.mk (Kd.R_below (by (with_reducible repeat (first | apply Kd.R_alloc | apply Kd.R_drewN | apply Kd.R_drew)); exact HO297.out) hb); have n3_ := Aside0.mk (Kd.R_below (by (with_reducible repeat (first | apply Kd.R_alloc | apply Kd.R_drewN | apply Kd.R_drew)); exact HO301.out) hb); have n4_ := Aside0.mk (blk_below (g := gb283) (o := .cells #[.int .i64 t279, .slice Ao11 t280.length co11] 26 (0, 0)) (by (with_reducible repeat (first | refine blk_drewN ?_ _ | refine blk_drew ?_ | refine blk_alloc ?_ _)); exact BK283.out) hb); have n5_ := Aside0.mk (below_step (by repeat (first | (with_reducible first | exact HB.out | apply below_alloc | apply pw_below_drewN | apply below_drew1 | refine below_set ?_ GE283.out) | exact HB.out)) hb); clear HO_7; clear HO_284001; clear HO297; clear HO301; clear BK283; clear HB; have HO_7 := n0_; have HO_284001 := n1_; have HO297 := n2_; have HO301 := n3_; have BK283 := n4_; have HB := n5_; clear n0_ n1_ n2_ n3_ n4_ n5_; (try clear hb); (try clear hb2); (try clear hk); (try clear hi); have p311 : 0 ≤ (t293 : Int) := of_decide_eq_true (by with_reducible assumption); have q311 : t293 < (t299.length : Int) := of_decide_eq_true (by with_reducible assumption); obtain ⟨ad311, e311, hx311_0⟩ := Kd.at_int (Kd.R_reads' HO301.out).2.2 t293 p311 q311; cases e311; replace p311 := eq_true p311; replace q311 := eq_true q311))
              repeat (go_quiet (first | (go_at_call 11; (with_reducible refine (impl_IsTiming.calls t279 _ _ t280 _ _ t299 true _ ?side1 ?side2 ?side3 ?side4 A89.out).mono ?_); (case side1 => repeat (first | exact (Kd.R_reads' HO_284001.out).2.2 | (with_reducible refine Kd.C_alloc ?_ _) | (with_reducible refine Kd.C_drewN ?_ _) | (with_reducible refine Kd.C_drew ?_))); (case side2 => exact (Kd.R_reads' HO_284001.out).2.1); (case side3 => repeat (first | exact (Kd.R_reads' HO301.out).2.2 | (with_reducible refine Kd.C_alloc ?_ _) | (with_reducible refine Kd.C_drewN ?_ _) | (with_reducible refine Kd.C_drew ?_))); (case side4 => exact (Kd.R_reads' HO301.out).2.1); rintro e w100 ⟨rfl, hb⟩; have n0_ := Aside0.mk (Kd.R_below (by (with_reducible repeat (first | apply Kd.R_alloc | apply Kd.R_drewN | apply Kd.R_drew)); exact HO_7.out) hb); have n1_ := Aside0.mk (Kd.R_below (by (with_reducible repeat (first | apply Kd.R_alloc | apply Kd.R_drewN | apply Kd.R_drew)); exact HO_284001.out) hb); have n2_ := Aside0.mk (Kd.R_below (by (with_reducible repeat (first | apply Kd.R_alloc | apply Kd.R_drewN | apply Kd.R_drew)); exact HO297.out) hb); have n3_ := Aside0.mk (Kd.R_below (by (with_reducible repeat (first | apply Kd.R_alloc | apply Kd.R_drewN | apply Kd.R_drew)); exact HO301.out) hb); have n4_ := Aside0.mk (blk_below (g := gb283) (o := .cells #[.int .i64 t279, .slice Ao11 t280.length co11] 26 (0, 0)) (by (with_reducible repeat (first | refine blk_drewN ?_ _ | refine blk_drew ?_ | refine blk_alloc ?_ _)); exact BK283.out) hb); have n5_ := Aside0.mk (below_step (by repeat (first | (with_reducible first | exact HB.out | apply below_alloc | apply pw_below_drewN | apply below_drew1 | refine below_set ?_ GE283.out) | exact HB.out)) hb); clear HO_7; clear HO_284001; clear HO297; clear HO301; clear BK283; clear HB; have HO_7 := n0_; have HO_284001 := n1_; have HO297 := n2_; have HO301 := n3_; have BK283 := n4_; have HB := n5_; clear n0_ n1_ n2_ n3_ n4_ n5_; (try clear hb); (try clear hb2); (try clear hk); (try clear hi); have p311 : 0 ≤ (t293 : Int) := of_decide_eq_true (by with_reducible assumption); have q311 : t293 < (t299.length : Int) := of_decide_eq_true (by with_reducible assumption); obtain ⟨ad311, e311, hx311_0⟩ := Kd.at_int (Kd.R_reads' HO301.out).2.2 t293 p311 q311; cases e311; replace p311 := eq_true p311; replace q311 := eq_true q311)); try go_wp2_with (first | (go_at_call 11; (with_reducible refine (impl_IsTiming.calls t279 _ _ t280 _ _ t299 true _ ?side1 ?side2 ?side3 ?side4 A89.out).mono ?_); (case side1 => repeat (first | exact (Kd.R_reads' HO_284001.out).2.2 | (with_reducible refine Kd.C_alloc ?_ _) | (with_reducible refine Kd.C_drewN ?_ _) | (with_reducible refine Kd.C_drew ?_))); (case side2 => exact (Kd.R_reads' HO_284001.out).2.1); (case side3 => repeat (first | exact (Kd.R_reads' HO301.out).2.2 | (with_reducible refine Kd.C_alloc ?_ _) | (with_reducible refine Kd.C_drewN ?_ _) | (with_reducible refine Kd.C_drew ?_))); (case side4 => exact (Kd.R_reads' HO301.out).2.1); rintro e w100 ⟨rfl, hb⟩; have n0_ := Aside0.mk (Kd.R_below (by (with_reducible repeat (first | apply Kd.R_alloc | apply Kd.R_drewN | apply Kd.R_drew)); exact HO_7.out) hb); have n1_ := Aside0.mk (Kd.R_below (by (with_reducible repeat (first | apply Kd.R_alloc | apply Kd.R_drewN | apply Kd.R_drew)); exact HO_284001.out) hb); have n2_ := Aside0.mk (Kd.R_below (by (with_reducible repeat (first | apply Kd.R_alloc | apply Kd.R_drewN | apply Kd.R_drew)); exact HO297.out) hb); have n3_ := Aside0.mk (Kd.R_below (by (with_reducible repeat (first | apply Kd.R_alloc | apply Kd.R_drewN | apply Kd.R_drew)); exact HO301.out) hb); have n4_ := Aside0.mk (blk_below (g := gb283) (o := .cells #[.int .i64 t279, .slice Ao11 t280.length co11] 26 (0, 0)) (by (with_reducible repeat (first | refine blk_drewN ?_ _ | refine blk_drew ?_ | refine blk_alloc ?_ _)); exact BK283.out) hb); have n5_ := Aside0.mk (below_step (by repeat (first | (with_reducible first | exact HB.out | apply below_alloc | apply pw_below_drewN | apply below_drew1 | refine below_set ?_ GE283.out) | exact HB.out)) hb); clear HO_7; clear HO_284001; clear HO297; clear HO301; clear BK283; clear HB; have HO_7 := n0_; have HO_284001 := n1_; have HO297 := n2_; have HO301 := n3_; have BK283 := n4_; have HB := n5_; clear n0_ n1_ n2_ n3_ n4_ n5_; (try clear hb); (try clear hb2); (try clear hk); (try clear hi); have p311 : 0 ≤ (t293 : Int) := of_decide_eq_true (by with_reducible assumption); have q311 : t293 < (t299.length : Int) := of_decide_eq_true (by with_reducible assumption); obtain ⟨ad311, e311, hx311_0⟩ := Kd.at_int (Kd.R_reads' HO301.out).2.2 t293 p311 q311; cases e311; replace p311 := eq_true p311; replace q311 := eq_true q311)))
              go_meet
              case rel => exact ⟨_, (false), (by first | rfl | (simp; done) | (simp [*]; done)), H', ⟨by have := HK1.out; first | omega | exact Nat.le_refl _⟩, ⟨by (with_reducible repeat (first | apply Kd.R_alloc | apply Kd.R_drewN | apply Kd.R_drew)); exact Kd.R_mono HO_7.out (fun _ hk => ⟨hk.1.2, hk.2⟩)⟩, ⟨by (with_reducible repeat (first | apply Kd.R_alloc | apply Kd.R_drewN | apply Kd.R_drew)); exact Kd.R_mono HO297.out (fun _ hk => ⟨hk.1.2, hk.2⟩)⟩, ⟨by (with_reducible repeat (first | apply Kd.R_alloc | apply Kd.R_drewN | apply Kd.R_drew)); exact Kd.R_mono HO301.out (fun _ hk => ⟨hk.1.2, hk.2⟩)⟩, ⟨by (with_reducible repeat (first | apply Kd.R_alloc | apply Kd.R_drewN | apply Kd.R_drew)); exact HO_284001.out⟩, ⟨by (with_reducible repeat (first | refine blk_drewN ?_ _ | refine blk_drew ?_ | refine blk_alloc ?_ _)); exact BK283.out⟩, ⟨by repeat (first | (with_reducible first | exact HB.out | apply below_alloc | apply pw_below_drewN | apply below_drew1 | refine below_set ?_ GE283.out) | exact HB.out)⟩⟩
            ·rw [if_neg c93] at H
             have c93b0 : ((rd t299 t293) == 0) = false := beq_eq_false_iff_ne.mpr c93
             have c93b1 : ((rd t299 t293) != 0) = true := bne_iff_ne.mpr c93
             have H' := Aside0.mk H
             clear H
             have hcz101_0 : w38.cell? ⟨gb283, 0, none⟩ = some (.int .i64 t279) := (blk_cell BK283.out 0).trans rfl
             have hcz101_1 : w38.cell? ⟨gb283, 1, none⟩ = some (.slice Ao11 t280.length co11) := (blk_cell BK283.out 1).trans rfl
             have hfz101_0 := blk_frozen BK283.out 0
             have hfz101_1 := blk_frozen BK283.out 1
             obtain ⟨Ao102, co102, eo102⟩ := Kd.R_slice HO301.out
             subst eo102
             go_wp2_with (first | (go_at_call 11; (with_reducible refine (impl_IsTiming.calls t279 _ _ t280 _ _ t299 true _ ?side1 ?side2 ?side3 ?side4 A89.out).mono ?_); (case side1 => repeat (first | exact (Kd.R_reads' HO_284001.out).2.2 | (with_reducible refine Kd.C_alloc ?_ _) | (with_reducible refine Kd.C_drewN ?_ _) | (with_reducible refine Kd.C_drew ?_))); (case side2 => exact (Kd.R_reads' HO_284001.out).2.1); (case side3 => repeat (first | exact (Kd.R_reads' HO301.out).2.2 | (with_reducible refine Kd.C_alloc ?_ _) | (with_reducible refine Kd.C_drewN ?_ _) | (with_reducible refine Kd.C_drew ?_))); (case side4 => exact (Kd.R_reads' HO301.out).2.1); rintro e w103 ⟨rfl, hb⟩; have n0_ := Aside0.mk (Kd.R_below (by (with_reducible repeat (first | apply Kd.R_alloc | apply Kd.R_drewN | apply Kd.R_drew)); exact HO_7.out) hb); have n1_ := Aside0.mk (Kd.R_below (by (with_reducible repeat (first | apply Kd.R_alloc | apply Kd.R_drewN | apply Kd.R_drew)); exact HO_284001.out) hb); have n2_ := Aside0.mk (Kd.R_below (by (with_reducible repeat (first | apply Kd.R_alloc | apply Kd.R_drewN | apply Kd.R_drew)); exact HO297.out) hb); have n3_ := Aside0.mk (Kd.R_below (by (with_reducible repeat (first | apply Kd.R_alloc | apply Kd.R_drewN | apply Kd.R_drew)); exact HO301.out) hb); have n4_ := Aside0.mk (blk_below (g := gb283) (o := .cells #[.int .i64 t279, .slice Ao11 t280.length co11] 26 (0, 0)) (by (with_reducible repeat (first | refine blk_drewN ?_ _ | refine blk_drew ?_ | refine blk_alloc ?_ _)); exact BK283.out) hb); have n5_ := Aside0.mk (below_step (by repeat (first | (with_reducible first | exact HB.out | apply below_alloc | apply pw_below_drewN | apply below_drew1 | refine below_set ?_ GE283.out) | exact HB.out)) hb); clear HO_7; clear HO_284001; clear HO297; clear HO301; clear BK283; clear HB; have HO_7 := n0_; have HO_284001 := n1_; have HO297 := n2_; have HO301 := n3_; have BK283 := n4_; have HB := n5_; clear n0_ n1_ n2_ n3_ n4_ n5_; (try clear hb); (try clear hb2); (try clear hk); (try clear hi); have p311 : 0 ≤ (t293 : Int) := of_decide_eq_true (by with_reducible assumption); have q311 : t293 < (t299.length : Int) := of_decide_eq_true (by with_reducible assumption); obtain ⟨ad311, e311, hx311_0⟩ := Kd.at_int (Kd.R_reads' HO301.out).2.2 t293 p311 q311; cases e311; replace p311 := eq_true p311; replace q311 := eq_true q311))
             repeat (go_quiet (first | (go_at_call 11; (with_reducible refine (impl_IsTiming.calls t279 _ _ t280 _ _ t299 true _ ?side1 ?side2 ?side3 ?side4 A89.out).mono ?_); (case side1 => repeat (first | exact (Kd.R_reads' HO_284001.out).2.2 | (with_reducible refine Kd.C_alloc ?_ _) | (with_reducible refine Kd.C_drewN ?_ _) | (with_reducible refine Kd.C_drew ?_))); (case side2 => exact (Kd.R_reads' HO_284001.out).2.1); (case side3 => repeat (first | exact (Kd.R_reads' HO301.out).2.2 | (with_reducible refine Kd.C_alloc ?_ _) | (with_reducible refine Kd.C_drewN ?_ _) | (with_reducible refine Kd.C_drew ?_))); (case side4 => exact (Kd.R_reads' HO301.out).2.1); rintro e w103 ⟨rfl, hb⟩; have n0_ := Aside0.mk (Kd.R_below (by (with_reducible repeat (first | apply Kd.R_alloc | apply Kd.R_drewN | apply Kd.R_drew)); exact HO_7.out) hb); have n1_ := Aside0.mk (Kd.R_below (by (with_reducible repeat (first | apply Kd.R_alloc | apply Kd.R_drewN | apply Kd.R_drew)); exact HO_284001.out) hb); have n2_ := Aside0.mk (Kd.R_below (by (with_reducible repeat (first | apply Kd.R_alloc | apply Kd.R_drewN | apply Kd.R_drew)); exact HO297.out) hb); have n3_ := Aside0.mk (Kd.R_below (by (with_reducible repeat (first | apply Kd.R_alloc | apply Kd.R_drewN | apply Kd.R_drew)); exact HO301.out) hb); have n4_ := Aside0.mk (blk_below (g := gb283) (o := .cells #[.int .i64 t279, .slice Ao11 t280.length co11] 26 (0, 0)) (by (with_reducible repeat (first | refine blk_drewN ?_ _ | refine blk_drew ?_ | refine blk_alloc ?_ _)); exact BK283.out) hb); have n5_ := Aside0.mk (below_step (by repeat (first | (with_reducible first | exact HB.out | apply below_alloc | apply pw_below_drewN | apply below_drew1 | refine below_set ?_ GE283.out) | exact HB.out)) hb); clear HO_7; clear HO_284001; clear HO297; clear HO301; clear BK283; clear HB; have HO_7 := n0_; have HO_284001 := n1_; have HO297 := n2_; have HO301 := n3_; have BK283 := n4_; have HB := n5_; clear n0_ n1_ n2_ n3_ n4_ n5_; (try clear hb); (try clear hb2); (try clear hk); (try clear hi); have p311 : 0 ≤ (t293 : Int) := of_decide_eq_true (by with_reducible assumption); have q311 : t293 < (t299.length : Int) := of_decide_eq_true (by with_reducible assumption); obtain ⟨ad311, e311, hx311_0⟩ := Kd.at_int (Kd.R_reads' HO301.out).2.2 t293 p311 q311; cases e311; replace p311 := eq_true p311; replace q311 := eq_true q311)); try go_wp2_with (first | (go_at_call 11; (with_reducible refine (impl_IsTiming.calls t279 _ _ t280 _ _ t299 true _ ?side1 ?side2 ?side3 ?side4 A89.out).mono ?_); (case side1 => repeat (first | exact (Kd.R_reads' HO_284001.out).2.2 | (with_reducible refine Kd.C_alloc ?_ _) | (with_reducible refine Kd.C_drewN ?_ _) | (with_reducible refine Kd.C_drew ?_))); (case side2 => exact (Kd.R_reads' HO_284001.out).2.1); (case side3 => repeat (first | exact (Kd.R_reads' HO301.out).2.2 | (with_reducible refine Kd.C_alloc ?_ _) | (with_reducible refine Kd.C_drewN ?_ _) | (with_reducible refine Kd.C_drew ?_))); (case side4 => exact (Kd.R_reads' HO301.out).2.1); rintro e w103 ⟨rfl, hb⟩; have n0_ := Aside0.mk (Kd.R_below (by (with_reducible repeat (first | apply Kd.R_alloc | apply Kd.R_drewN | apply Kd.R_drew)); exact HO_7.out) hb); have n1_ := Aside0.mk (Kd.R_below (by (with_reducible repeat (first | apply Kd.R_alloc | apply Kd.R_drewN | apply Kd.R_drew)); exact HO_284001.out) hb); have n2_ := Aside0.mk (Kd.R_below (by (with_reducible repeat (first | apply Kd.R_alloc | apply Kd.R_drewN | apply Kd.R_drew)); exact HO297.out) hb); have n3_ := Aside0.mk (Kd.R_below (by (with_reducible repeat (first | apply Kd.R_alloc | apply Kd.R_drewN | apply Kd.R_drew)); exact HO301.out) hb); have n4_ := Aside0.mk (blk_below (g := gb283) (o := .cells #[.int .i64 t279, .slice Ao11 t280.length co11] 26 (0, 0)) (by (with_reducible repeat (first | refine blk_drewN ?_ _ | refine blk_drew ?_ | refine blk_alloc ?_ _)); exact BK283.out) hb); have n5_ := Aside0.mk (below_step (by repeat (first | (with_reducible first | exact HB.out | apply below_alloc | apply pw_below_drewN | apply below_drew1 | refine below_set ?_ GE283.out) | exact HB.out)) hb); clear HO_7; clear HO_284001; clear HO297; clear HO301; clear BK283; clear HB; have HO_7 := n0_; have HO_284001 := n1_; have HO297 := n2_; have HO301 := n3_; have BK283 := n4_; have HB := n5_; clear n0_ n1_ n2_ n3_ n4_ n5_; (try clear hb); (try clear hb2); (try clear hk); (try clear hi); have p311 : 0 ≤ (t293 : Int) := of_decide_eq_true (by with_reducible assumption); have q311 : t293 < (t299.length : Int) := of_decide_eq_true (by with_reducible assumption); obtain ⟨ad311, e311, hx311_0⟩ := Kd.at_int (Kd.R_reads' HO301.out).2.2 t293 p311 q311; cases e311; replace p311 := eq_true p311; replace q311 := eq_true q311)))
             go_meet
             case rel => exact ⟨_, (true), (by first | rfl | (simp; done) | (simp [*]; done)), H', ⟨by have := HK1.out; first | omega | exact Nat.le_refl _⟩, ⟨by (with_reducible repeat (first | apply Kd.R_alloc | apply Kd.R_drewN | apply Kd.R_drew)); exact Kd.R_mono HO_7.out (fun _ hk => ⟨hk.1.2, hk.2⟩)⟩, ⟨by (with_reducible repeat (first | apply Kd.R_alloc | apply Kd.R_drewN | apply Kd.R_drew)); exact Kd.R_mono HO297.out (fun _ hk => ⟨hk.1.2, hk.2⟩)⟩, ⟨by (with_reducible repeat (first | apply Kd.R_alloc | apply Kd.R_drewN | apply Kd.R_drew)); exact Kd.R_mono HO301.out (fun _ hk => ⟨hk.1.2, hk.2⟩)⟩, ⟨by (with_reducible repeat (first | apply Kd.R_alloc | apply Kd.R_drewN | apply Kd.R_drew)); exact HO_284001.out⟩, ⟨by (with_reducible repeat (first | refine blk_drewN ?_ _ | refine blk_drew ?_ | refine blk_alloc ?_ _)); exact BK283.out⟩, ⟨by repeat (first | (with_reducible first | exact HB.out | apply below_alloc | apply pw_below_drewN | apply below_drew1 | refine below_set ?_ GE283.out) | exact HB.out)⟩⟩
           ·rw [if_neg c92] at H
            exact absurd H (by simp)
          ·rw [if_neg c91] at H
           exact absurd H (by simp)
         ·replace c90 := Bool.eq_false_iff.mpr c90
          subst c90
          have H1 : (laws_FnTimings.j1 k1 t279 t284 t287 t293 t294 t295 false t299 true t303 t304 t305 true) = some r := by rw [if_neg (show ¬ (false = true) by decide)] at H; exact H
          clear H
          have H := H1
          clear H1
          have H' := Aside0.mk H
          clear H
          have hcz104_0 : w38.cell? ⟨gb283, 0, none⟩ = some (.int .i64 t279) := (blk_cell BK283.out 0).trans rfl
          have hcz104_1 : w38.cell? ⟨gb283, 1, none⟩ = some (.slice Ao11 t280.length co11) := (blk_cell BK283.out 1).trans rfl
          have hfz104_0 := blk_frozen BK283.out 0
          have hfz104_1 := blk_frozen BK283.out 1
          obtain ⟨Ao105, co105, eo105⟩ := Kd.R_slice HO301.out
          subst eo105
          go_wp2_with (first | (go_at_call 11; (with_reducible refine (impl_IsTiming.calls t279 _ _ t280 _ _ t299 false _ ?side1 ?side2 ?side3 ?side4 A89.out).mono ?_); (case side1 => repeat (first | exact (Kd.R_reads' HO_284001.out).2.2 | (with_reducible refine Kd.C_alloc ?_ _) | (with_reducible refine Kd.C_drewN ?_ _) | (with_reducible refine Kd.C_drew ?_))); (case side2 => exact (Kd.R_reads' HO_284001.out).2.1); (case side3 => repeat (first | exact (Kd.R_reads' HO301.out).2.2 | (with_reducible refine Kd.C_alloc ?_ _) | (with_reducible refine Kd.C_drewN ?_ _) | (with_reducible refine Kd.C_drew ?_))); (case side4 => exact (Kd.R_reads' HO301.out).2.1); rintro e w106 ⟨rfl, hb⟩; have n0_ := Aside0.mk (Kd.R_below (by (with_reducible repeat (first | apply Kd.R_alloc | apply Kd.R_drewN | apply Kd.R_drew)); exact HO_7.out) hb); have n1_ := Aside0.mk (Kd.R_below (by (with_reducible repeat (first | apply Kd.R_alloc | apply Kd.R_drewN | apply Kd.R_drew)); exact HO_284001.out) hb); have n2_ := Aside0.mk (Kd.R_below (by (with_reducible repeat (first | apply Kd.R_alloc | apply Kd.R_drewN | apply Kd.R_drew)); exact HO297.out) hb); have n3_ := Aside0.mk (Kd.R_below (by (with_reducible repeat (first | apply Kd.R_alloc | apply Kd.R_drewN | apply Kd.R_drew)); exact HO301.out) hb); have n4_ := Aside0.mk (blk_below (g := gb283) (o := .cells #[.int .i64 t279, .slice Ao11 t280.length co11] 26 (0, 0)) (by (with_reducible repeat (first | refine blk_drewN ?_ _ | refine blk_drew ?_ | refine blk_alloc ?_ _)); exact BK283.out) hb); have n5_ := Aside0.mk (below_step (by repeat (first | (with_reducible first | exact HB.out | apply below_alloc | apply pw_below_drewN | apply below_drew1 | refine below_set ?_ GE283.out) | exact HB.out)) hb); clear HO_7; clear HO_284001; clear HO297; clear HO301; clear BK283; clear HB; have HO_7 := n0_; have HO_284001 := n1_; have HO297 := n2_; have HO301 := n3_; have BK283 := n4_; have HB := n5_; clear n0_ n1_ n2_ n3_ n4_ n5_; (try clear hb); (try clear hb2); (try clear hk); (try clear hi)))
          repeat (go_quiet (first | (go_at_call 11; (with_reducible refine (impl_IsTiming.calls t279 _ _ t280 _ _ t299 false _ ?side1 ?side2 ?side3 ?side4 A89.out).mono ?_); (case side1 => repeat (first | exact (Kd.R_reads' HO_284001.out).2.2 | (with_reducible refine Kd.C_alloc ?_ _) | (with_reducible refine Kd.C_drewN ?_ _) | (with_reducible refine Kd.C_drew ?_))); (case side2 => exact (Kd.R_reads' HO_284001.out).2.1); (case side3 => repeat (first | exact (Kd.R_reads' HO301.out).2.2 | (with_reducible refine Kd.C_alloc ?_ _) | (with_reducible refine Kd.C_drewN ?_ _) | (with_reducible refine Kd.C_drew ?_))); (case side4 => exact (Kd.R_reads' HO301.out).2.1); rintro e w106 ⟨rfl, hb⟩; have n0_ := Aside0.mk (Kd.R_below (by (with_reducible repeat (first | apply Kd.R_alloc | apply Kd.R_drewN | apply Kd.R_drew)); exact HO_7.out) hb); have n1_ := Aside0.mk (Kd.R_below (by (with_reducible repeat (first | apply Kd.R_alloc | apply Kd.R_drewN | apply Kd.R_drew)); exact HO_284001.out) hb); have n2_ := Aside0.mk (Kd.R_below (by (with_reducible repeat (first | apply Kd.R_alloc | apply Kd.R_drewN | apply Kd.R_drew)); exact HO297.out) hb); have n3_ := Aside0.mk (Kd.R_below (by (with_reducible repeat (first | apply Kd.R_alloc | apply Kd.R_drewN | apply Kd.R_drew)); exact HO301.out) hb); have n4_ := Aside0.mk (blk_below (g := gb283) (o := .cells #[.int .i64 t279, .slice Ao11 t280.length co11] 26 (0, 0)) (by (with_reducible repeat (first | refine blk_drewN ?_ _ | refine blk_drew ?_ | refine blk_alloc ?_ _)); exact BK283.out) hb); have n5_ := Aside0.mk (below_step (by repeat (first | (with_reducible first | exact HB.out | apply below_alloc | apply pw_below_drewN | apply below_drew1 | refine below_set ?_ GE283.out) | exact HB.out)) hb); clear HO_7; clear HO_284001; clear HO297; clear HO301; clear BK283; clear HB; have HO_7 := n0_; have HO_284001 := n1_; have HO297 := n2_; have HO301 := n3_; have BK283 := n4_; have HB := n5_; clear n0_ n1_ n2_ n3_ n4_ n5_; (try clear hb); (try clear hb2); (try clear hk); (try clear hi))); try go_wp2_with (first | (go_at_call 11; (with_reducible refine (impl_IsTiming.calls t279 _ _ t280 _ _ t299 false _ ?side1 ?side2 ?side3 ?side4 A89.out).mono ?_); (case side1 => repeat (first | exact (Kd.R_reads' HO_284001.out).2.2 | (with_reducible refine Kd.C_alloc ?_ _) | (with_reducible refine Kd.C_drewN ?_ _) | (with_reducible refine Kd.C_drew ?_))); (case side2 => exact (Kd.R_reads' HO_284001.out).2.1); (case side3 => repeat (first | exact (Kd.R_reads' HO301.out).2.2 | (with_reducible refine Kd.C_alloc ?_ _) | (with_reducible refine Kd.C_drewN ?_ _) | (with_reducible refine Kd.C_drew ?_))); (case side4 => exact (Kd.R_reads' HO301.out).2.1); rintro e w106 ⟨rfl, hb⟩; have n0_ := Aside0.mk (Kd.R_below (by (with_reducible repeat (first | apply Kd.R_alloc | apply Kd.R_drewN | apply Kd.R_drew)); exact HO_7.out) hb); have n1_ := Aside0.mk (Kd.R_below (by (with_reducible repeat (first | apply Kd.R_alloc | apply Kd.R_drewN | apply Kd.R_drew)); exact HO_284001.out) hb); have n2_ := Aside0.mk (Kd.R_below (by (with_reducible repeat (first | apply Kd.R_alloc | apply Kd.R_drewN | apply Kd.R_drew)); exact HO297.out) hb); have n3_ := Aside0.mk (Kd.R_below (by (with_reducible repeat (first | apply Kd.R_alloc | apply Kd.R_drewN | apply Kd.R_drew)); exact HO301.out) hb); have n4_ := Aside0.mk (blk_below (g := gb283) (o := .cells #[.int .i64 t279, .slice Ao11 t280.length co11] 26 (0, 0)) (by (with_reducible repeat (first | refine blk_drewN ?_ _ | refine blk_drew ?_ | refine blk_alloc ?_ _)); exact BK283.out) hb); have n5_ := Aside0.mk (below_step (by repeat (first | (with_reducible first | exact HB.out | apply below_alloc | apply pw_below_drewN | apply below_drew1 | refine below_set ?_ GE283.out) | exact HB.out)) hb); clear HO_7; clear HO_284001; clear HO297; clear HO301; clear BK283; clear HB; have HO_7 := n0_; have HO_284001 := n1_; have HO297 := n2_; have HO301 := n3_; have BK283 := n4_; have HB := n5_; clear n0_ n1_ n2_ n3_ n4_ n5_; (try clear hb); (try clear hb2); (try clear hk); (try clear hi))))
          go_meet
          case rel => exact ⟨_, (true), (by first | rfl | (simp; done) | (simp [*]; done)), H', ⟨by have := HK1.out; first | omega | exact Nat.le_refl _⟩, ⟨by (with_reducible repeat (first | apply Kd.R_alloc | apply Kd.R_drewN | apply Kd.R_drew)); exact Kd.R_mono HO_7.out (fun _ hk => ⟨hk.1.2, hk.2⟩)⟩, ⟨by (with_reducible repeat (first | apply Kd.R_alloc | apply Kd.R_drewN | apply Kd.R_drew)); exact Kd.R_mono HO297.out (fun _ hk => ⟨hk.1.2, hk.2⟩)⟩, ⟨by (with_reducible repeat (first | apply Kd.R_alloc | apply Kd.R_drewN | apply Kd.R_drew)); exact Kd.R_mono HO301.out (fun _ hk => ⟨hk.1.2, hk.2⟩)⟩, ⟨by (with_reducible repeat (first | apply Kd.R_alloc | apply Kd.R_drewN | apply Kd.R_drew)); exact HO_284001.out⟩, ⟨by (with_reducible repeat (first | refine blk_drewN ?_ _ | refine blk_drew ?_ | refine blk_alloc ?_ _)); exact BK283.out⟩, ⟨by repeat (first | (with_reducible first | exact HB.out | apply below_alloc | apply pw_below_drewN | apply below_drew1 | refine below_set ?_ GE283.out) | exact HB.out)⟩⟩
        ·replace c88 := Bool.eq_false_iff.mpr c88
         subst c88
         have H1 : (if t305 = true then (laws_FnTimings.j1 k1 t279 t284 t287 t293 t294 t295 false t299 false t303 t304 t305 (decide (t303 > t304))) else (laws_FnTimings.j1 k1 t279 t284 t287 t293 t294 t295 false t299 false t303 t304 t305 false)) = some r := by rw [if_neg (show ¬ (false = true) by decide)] at H; exact H
         clear H
         have H := H1
         clear H1
         by_cases c107 : t305 = true
         ·subst c107
          have H1 : (laws_FnTimings.j1 k1 t279 t284 t287 t293 t294 t295 false t299 false t303 t304 true (decide (t303 > t304))) = some r := by rw [if_pos rfl] at H; exact H
          clear H
          have H := H1
          clear H1
          have H' := Aside0.mk H
          clear H
          go_wp2
          repeat (go_quiet (fail); try go_wp2)
          go_meet
          case rel => exact ⟨_, (decide (t303 > t304)), (by first | rfl | (simp; done) | (simp [*]; done)), H', ⟨by have := HK1.out; first | omega | exact Nat.le_refl _⟩, ⟨by (with_reducible repeat (first | apply Kd.R_alloc | apply Kd.R_drewN | apply Kd.R_drew)); exact Kd.R_mono HO_7.out (fun _ hk => ⟨hk.1.2, hk.2⟩)⟩, ⟨by (with_reducible repeat (first | apply Kd.R_alloc | apply Kd.R_drewN | apply Kd.R_drew)); exact Kd.R_mono HO297.out (fun _ hk => ⟨hk.1.2, hk.2⟩)⟩, ⟨by (with_reducible repeat (first | apply Kd.R_alloc | apply Kd.R_drewN | apply Kd.R_drew)); exact Kd.R_mono HO301.out (fun _ hk => ⟨hk.1.2, hk.2⟩)⟩, ⟨by (with_reducible repeat (first | apply Kd.R_alloc | apply Kd.R_drewN | apply Kd.R_drew)); exact HO_284001.out⟩, ⟨by (with_reducible repeat (first | refine blk_drewN ?_ _ | refine blk_drew ?_ | refine blk_alloc ?_ _)); exact BK283.out⟩, ⟨by repeat (first | (with_reducible first | exact HB.out | apply below_alloc | apply pw_below_drewN | apply below_drew1 | refine below_set ?_ GE283.out) | exact HB.out)⟩⟩
         ·replace c107 := Bool.eq_false_iff.mpr c107
          subst c107
          have H1 : (laws_FnTimings.j1 k1 t279 t284 t287 t293 t294 t295 false t299 false t303 t304 false false) = some r := by rw [if_neg (show ¬ (false = true) by decide)] at H; exact H
          clear H
          have H := H1
          clear H1
          have H' := Aside0.mk H
          clear H
          go_wp2
          repeat (go_quiet (fail); try go_wp2)
          go_meet
          case rel => exact ⟨_, (false), (by first | rfl | (simp; done) | (simp [*]; done)), H', ⟨by have := HK1.out; first | omega | exact Nat.le_refl _⟩, ⟨by (with_reducible repeat (first | apply Kd.R_alloc | apply Kd.R_drewN | apply Kd.R_drew)); exact Kd.R_mono HO_7.out (fun _ hk => ⟨hk.1.2, hk.2⟩)⟩, ⟨by (with_reducible repeat (first | apply Kd.R_alloc | apply Kd.R_drewN | apply Kd.R_drew)); exact Kd.R_mono HO297.out (fun _ hk => ⟨hk.1.2, hk.2⟩)⟩, ⟨by (with_reducible repeat (first | apply Kd.R_alloc | apply Kd.R_drewN | apply Kd.R_drew)); exact Kd.R_mono HO301.out (fun _ hk => ⟨hk.1.2, hk.2⟩)⟩, ⟨by (with_reducible repeat (first | apply Kd.R_alloc | apply Kd.R_drewN | apply Kd.R_drew)); exact HO_284001.out⟩, ⟨by (with_reducible repeat (first | refine blk_drewN ?_ _ | refine blk_drew ?_ | refine blk_alloc ?_ _)); exact BK283.out⟩, ⟨by repeat (first | (with_reducible first | exact HB.out | apply below_alloc | apply pw_below_drewN | apply below_drew1 | refine below_set ?_ GE283.out) | exact HB.out)⟩⟩
      case rest => as_aux_lemma =>
       clear HC32
       try clear c1
       try clear c2
       try clear p2
       try clear q2
       try clear hx2
       try clear c3
       try clear p3
       try clear q3
       try clear hx3
       try clear c4
       try clear c5
       try clear p6
       try clear c7
       try clear c8
       try clear c9
       try clear c10
       try clear c16
       try clear c16b0
       try clear c17
       try clear c18
       try clear c18b0
       try clear c19
       try clear c19b0
       try clear c20
       try clear c20b0
       try clear c21
       try clear c21b0
       try clear c22
       try clear c22b0
       try clear c25
       try clear c25b0
       try clear c25b1
       try clear c25b2
       try clear p28
       try clear q28
       try clear hx28
       try clear p29
       try clear q29
       try clear hx29
       try clear p30
       try clear q30
       try clear hx30
       try clear p31
       try clear q31
       try clear hx31
       try clear c39
       try clear c41
       try clear c42
       try clear c42b0
       try clear c43
       try clear c43b0
       try clear c44
       try clear c44b0
       try clear c44b1
       try clear c45
       try clear c47
       try clear c48
       try clear c48b0
       try clear c49
       try clear c49b0
       try clear c49b1
       try clear c50
       try clear p64
       try clear c75
       try clear c88
       try clear c90
       try clear c91
       try clear c91b0
       try clear c92
       try clear c92b0
       try clear c93
       try clear c93b0
       try clear c93b1
       try clear c94
       try clear c107
       try clear hcz101_0
       try clear hcz101_1
       try clear hcz104_0
       try clear hcz104_1
       try clear hcz10_0
       try clear hcz10_1
       try clear hcz13_0
       try clear hcz13_1
       try clear hcz23_0
       try clear hcz23_1
       try clear hcz24_0
       try clear hcz24_1
       try clear hcz26_0
       try clear hcz26_1
       try clear hcz33_0
       try clear hcz33_1
       try clear hcz35_0
       try clear hcz35_1
       try clear hcz37_0
       try clear hcz37_1
       try clear hcz51_0
       try clear hcz51_1
       try clear hcz54_0
       try clear hcz54_1
       try clear hcz57_0
       try clear hcz57_1
       try clear hcz60_0
       try clear hcz60_1
       try clear hcz63_0
       try clear hcz63_1
       try clear hcz66_0
       try clear hcz66_1
       try clear hcz69_0
       try clear hcz69_1
       try clear hcz72_0
       try clear hcz72_1
       try clear hcz76_0
       try clear hcz76_1
       try clear hcz79_0
       try clear hcz79_1
       try clear hcz82_0
       try clear hcz82_1
       try clear hcz85_0
       try clear hcz85_1
       try clear hcz95_0
       try clear hcz95_1
       try clear hcz98_0
       try clear hcz98_1
       try clear hfz101_0
       try clear hfz101_1
       try clear hfz104_0
       try clear hfz104_1
       try clear hfz10_0
       try clear hfz10_1
       try clear hfz13_0
       try clear hfz13_1
       try clear hfz23_0
       try clear hfz23_1
       try clear hfz24_0
       try clear hfz24_1
       try clear hfz26_0
       try clear hfz26_1
       try clear hfz33_0
       try clear hfz33_1
       try clear hfz35_0
       try clear hfz35_1
       try clear hfz37_0
       try clear hfz37_1
       try clear hfz51_0
       try clear hfz51_1
       try clear hfz54_0
       try clear hfz54_1
       try clear hfz57_0
       try clear hfz57_1
       try clear hfz60_0
       try clear hfz60_1
       try clear hfz63_0
       try clear hfz63_1
       try clear hfz66_0
       try clear hfz66_1
       try clear hfz69_0
       try clear hfz69_1
       try clear hfz72_0
       try clear hfz72_1
       try clear hfz76_0
       try clear hfz76_1
       try clear hfz79_0
       try clear hfz79_1
       try clear hfz82_0
       try clear hfz82_1
       try clear hfz85_0
       try clear hfz85_1
       try clear hfz95_0
       try clear hfz95_1
       try clear hfz98_0
       try clear hfz98_1
       try clear hx288_0
       try clear hx288_1
       try clear hx288_2
       try clear hx289_0
       try clear hx290_0
       try clear hx290_1
       try clear hx290_2
       try clear hx291_0
       try clear hx292_0
       try clear hx292_1
       try clear hx292_2
       try clear hx307_0
       try clear hx309_0
       try clear hx311_0
       try clear p2
       try clear p288
       try clear p289
       try clear p290
       try clear p291
       try clear p292
       try clear p307
       try clear p309
       try clear p311
       try clear q288
       try clear q289
       try clear q290
       try clear q291
       try clear q292
       try clear q307
       try clear q309
       try clear q311
       obtain ⟨kq, x138_31, rfl, HA, HJ31, HO_7, HO_13, HO_15, HO_284001, BK283, HB⟩ := hcut
       cases kq with
       | zero => exact absurd HA.out (by simp [laws_FnTimings.j1])
       | succ kj31 =>
        have H := HA.out
        clear HA
        simp only [laws_FnTimings.j1] at H
        by_cases c108 : x138_31 = true
        ·subst c108
         have H1 : (some false) = some r := by rw [if_pos rfl] at H; exact H
         clear H
         have H := H1
         clear H1
         obtain rfl := Option.some.inj H
         go_wp2
         repeat (go_quiet (fail); try go_wp2)
         go_ret
         exact ⟨by first | rfl | (simp [errW_none, errW_some] <;> rfl) | (simp [*, errW_none, errW_some] <;> rfl), by repeat (first | (with_reducible first | exact HB.out | apply below_alloc | apply pw_below_drewN | apply below_drew1 | refine below_set ?_ GE283.out) | exact HB.out)⟩
        ·replace c108 := Bool.eq_false_iff.mpr c108
         subst c108
         have H1 : (if t287 = true then (laws_FnTimings.l1 kj31 t279 t284 t293 t294 t295 t298 t299 t302 t303 t304 t305 0) else (some true)) = some r := by rw [if_neg (show ¬ (false = true) by decide)] at H; exact H
         clear H
         have H := H1
         clear H1
         by_cases c109 : t287 = true
         ·subst c109
          have H1 : (laws_FnTimings.l1 kj31 t279 t284 t293 t294 t295 t298 t299 t302 t303 t304 t305 0) = some r := by rw [if_pos rfl] at H; exact H
          clear H
          have H := H1
          clear H1
          have H' := Aside0.mk H
          clear H
          go_wp2
          repeat (go_quiet (fail); try go_wp2)
          go_loopg [20] kj31 (fun kq v20 w' => ∃ (x20_3 : Int), v20 = .int .i64 x20_3 ∧ Aside0 (laws_FnTimings.l1 kq t279 t284 t293 t294 t295 t298 t299 t302 t303 t304 t305 x20_3 = some r) ∧ Aside0 (kq ≤ kj31) ∧ Aside0 (Kd.R (Kd.int .i64) 2 w' w.heap.size (fun k_ => some k_ ≠ (v296 : Value).ownBlock ∧ some k_ ≠ (v300 : Value).ownBlock) (.slice Ao14 t284.length co14) t284) ∧ Aside0 (Kd.R (Kd.int .i64) 2 w' w.heap.size (fun k_ => some k_ ≠ ((.slice Ao14 t284.length co14) : Value).ownBlock ∧ some k_ ≠ (v300 : Value).ownBlock) v296 t295) ∧ Aside0 (Kd.R (Kd.int .i64) 2 w' w.heap.size (fun k_ => some k_ ≠ ((.slice Ao14 t284.length co14) : Value).ownBlock ∧ some k_ ≠ (v296 : Value).ownBlock) v300 t299) ∧ Aside0 (Kd.R k32 32 w' w.heap.size (fun _ => True) (.slice Ao11 t280.length co11) t280) ∧ Aside0 (w'.heap[gb283]? = some (.cells #[.int .i64 t279, (.slice Ao11 t280.length co11)] 26 (0, 0))) ∧ Aside0 (Below w.heap.size w w'))
          case atStart => exact ⟨(0), (by first | rfl | (simp; done) | (simp [*]; done)), H', ⟨Nat.le_refl _⟩, ⟨by (with_reducible repeat (first | apply Kd.R_alloc | apply Kd.R_drewN | apply Kd.R_drew)); exact HO_7.out⟩, ⟨by (with_reducible repeat (first | apply Kd.R_alloc | apply Kd.R_drewN | apply Kd.R_drew)); exact HO_13.out⟩, ⟨by (with_reducible repeat (first | apply Kd.R_alloc | apply Kd.R_drewN | apply Kd.R_drew)); exact HO_15.out⟩, ⟨by (with_reducible repeat (first | apply Kd.R_alloc | apply Kd.R_drewN | apply Kd.R_drew)); exact HO_284001.out⟩, ⟨by (with_reducible repeat (first | refine blk_drewN ?_ _ | refine blk_drew ?_ | refine blk_alloc ?_ _)); exact BK283.out⟩, ⟨by repeat (first | (with_reducible first | exact HB.out | apply below_alloc | apply pw_below_drewN | apply below_drew1 | refine below_set ?_ GE283.out) | exact HB.out)⟩⟩
          case round =>
           clear H'
           try clear c1
           try clear c2
           try clear p2
           try clear q2
           try clear hx2
           try clear c3
           try clear p3
           try clear q3
           try clear hx3
           try clear c4
           try clear c5
           try clear p6
           try clear c7
           try clear c8
           try clear c9
           try clear c10
           try clear c16
           try clear c16b0
           try clear c17
           try clear c18
           try clear c18b0
           try clear c19
           try clear c19b0
           try clear c20
           try clear c20b0
           try clear c21
           try clear c21b0
           try clear c22
           try clear c22b0
           try clear c25
           try clear c25b0
           try clear c25b1
           try clear c25b2
           try clear p28
           try clear q28
           try clear hx28
           try clear p29
           try clear q29
           try clear hx29
           try clear p30
           try clear q30
           try clear hx30
           try clear p31
           try clear q31
           try clear hx31
           try clear c39
           try clear c41
           try clear c42
           try clear c42b0
           try clear c43
           try clear c43b0
           try clear c44
           try clear c44b0
           try clear c44b1
           try clear c45
           try clear c47
           try clear c48
           try clear c48b0
           try clear c49
           try clear c49b0
           try clear c49b1
           try clear c50
           try clear p64
           try clear c75
           try clear c88
           try clear c90
           try clear c91
           try clear c91b0
           try clear c92
           try clear c92b0
           try clear c93
           try clear c93b0
           try clear c93b1
           try clear c94
           try clear c107
           try clear c108
           try clear c109
           try clear hcz101_0
           try clear hcz101_1
           try clear hcz104_0
           try clear hcz104_1
           try clear hcz10_0
           try clear hcz10_1
           try clear hcz13_0
           try clear hcz13_1
           try clear hcz23_0
           try clear hcz23_1
           try clear hcz24_0
           try clear hcz24_1
           try clear hcz26_0
           try clear hcz26_1
           try clear hcz33_0
           try clear hcz33_1
           try clear hcz35_0
           try clear hcz35_1
           try clear hcz37_0
           try clear hcz37_1
           try clear hcz51_0
           try clear hcz51_1
           try clear hcz54_0
           try clear hcz54_1
           try clear hcz57_0
           try clear hcz57_1
           try clear hcz60_0
           try clear hcz60_1
           try clear hcz63_0
           try clear hcz63_1
           try clear hcz66_0
           try clear hcz66_1
           try clear hcz69_0
           try clear hcz69_1
           try clear hcz72_0
           try clear hcz72_1
           try clear hcz76_0
           try clear hcz76_1
           try clear hcz79_0
           try clear hcz79_1
           try clear hcz82_0
           try clear hcz82_1
           try clear hcz85_0
           try clear hcz85_1
           try clear hcz95_0
           try clear hcz95_1
           try clear hcz98_0
           try clear hcz98_1
           try clear hfz101_0
           try clear hfz101_1
           try clear hfz104_0
           try clear hfz104_1
           try clear hfz10_0
           try clear hfz10_1
           try clear hfz13_0
           try clear hfz13_1
           try clear hfz23_0
           try clear hfz23_1
           try clear hfz24_0
           try clear hfz24_1
           try clear hfz26_0
           try clear hfz26_1
           try clear hfz33_0
           try clear hfz33_1
           try clear hfz35_0
           try clear hfz35_1
           try clear hfz37_0
           try clear hfz37_1
           try clear hfz51_0
           try clear hfz51_1
           try clear hfz54_0
           try clear hfz54_1
           try clear hfz57_0
           try clear hfz57_1
           try clear hfz60_0
           try clear hfz60_1
           try clear hfz63_0
           try clear hfz63_1
           try clear hfz66_0
           try clear hfz66_1
           try clear hfz69_0
           try clear hfz69_1
           try clear hfz72_0
           try clear hfz72_1
           try clear hfz76_0
           try clear hfz76_1
           try clear hfz79_0
           try clear hfz79_1
           try clear hfz82_0
           try clear hfz82_1
           try clear hfz85_0
           try clear hfz85_1
           try clear hfz95_0
           try clear hfz95_1
           try clear hfz98_0
           try clear hfz98_1
           try clear hx288_0
           try clear hx288_1
           try clear hx288_2
           try clear hx289_0
           try clear hx290_0
           try clear hx290_1
           try clear hx290_2
           try clear hx291_0
           try clear hx292_0
           try clear hx292_1
           try clear hx292_2
           try clear hx307_0
           try clear hx309_0
           try clear hx311_0
           try clear p2
           try clear p28
           try clear p288
           try clear p289
           try clear p29
           try clear p290
           try clear p291
           try clear p292
           try clear p3
           try clear p30
           try clear p307
           try clear p309
           try clear p31
           try clear p311
           try clear p6
           try clear p64
           try clear q2
           try clear q28
           try clear q288
           try clear q289
           try clear q29
           try clear q290
           try clear q291
           try clear q292
           try clear q3
           try clear q30
           try clear q307
           try clear q309
           try clear q31
           try clear q311
           obtain ⟨x20_3, rfl, HA, HK3, HO_7, HO_13, HO_15, HO_284001, BK283, HB⟩ := hrel
           cases gk with
           | zero => exact absurd HA.out (by simp [laws_FnTimings.l1])
           | succ k3 =>
            have H := HA.out
            clear HA
            simp only [laws_FnTimings.l1] at H
            by_cases c110 : x20_3 < t279
            ·rw [if_pos c110] at H
             have c110b0 : decide (x20_3 < t279) = true := decide_eq_true c110
             clear c110
             by_cases c111 : 0 ≤ x20_3
             ·rw [if_pos c111] at H
              have c111b0 : decide (0 ≤ x20_3) = true := decide_eq_true c111
              clear c111
              by_cases c112 : x20_3 < (t284.length : Int)
              ·rw [if_pos c112] at H
               have c112b0 : decide (x20_3 < (t284.length : Int)) = true := decide_eq_true c112
               clear c112
               by_cases c113 : 0 ≤ t293
               ·rw [if_pos c113] at H
                have c113b0 : decide (0 ≤ t293) = true := decide_eq_true c113
                clear c113
                by_cases c114 : t293 < (t284.length : Int)
                ·rw [if_pos c114] at H
                 have c114b0 : decide (t293 < (t284.length : Int)) = true := decide_eq_true c114
                 clear c114
                 by_cases c115 : t298 = true
                 ·subst c115
                  have H1 : (if x20_3 < (t295.length : Int) then (if (wrap64 ((rd t284 x20_3) - (rd t284 t293))) < (rd t295 x20_3) then (some false) else (if t302 = true then (if x20_3 < (t299.length : Int) then (if (wrap64 ((rd t284 x20_3) - (rd t284 t293))) > (rd t299 x20_3) then (some false) else (laws_FnTimings.l1 k3 t279 t284 t293 t294 t295 true t299 t302 t303 t304 t305 (wrap64 (x20_3 + 1)))) else (none)) else (laws_FnTimings.l1 k3 t279 t284 t293 t294 t295 true t299 t302 t303 t304 t305 (wrap64 (x20_3 + 1))))) else (none)) = some r := by rw [if_pos rfl] at H; exact H
                  clear H
                  have H := H1
                  clear H1
                  by_cases c116 : x20_3 < (t295.length : Int)
                  ·rw [if_pos c116] at H
                   have c116b0 : decide (x20_3 < (t295.length : Int)) = true := decide_eq_true c116
                   clear c116
                   by_cases c117 : (wrap64 ((rd t284 x20_3) - (rd t284 t293))) < (rd t295 x20_3)
                   ·rw [if_pos c117] at H
                    have c117b0 : decide ((wrap64 ((rd t284 x20_3) - (rd t284 t293))) < (rd t295 x20_3)) = true := decide_eq_true c117
                    clear c117
                    obtain rfl := Option.some.inj H
                    have p312 : 0 ≤ (x20_3 : Int) := of_decide_eq_true (by with_reducible assumption)
                    have q312 : x20_3 < (t284.length : Int) := of_decide_eq_true (by with_reducible assumption)
                    obtain ⟨ad312, e312, hx312_0⟩ := Kd.at_int (Kd.R_reads' HO_7.out).2.2 x20_3 p312 q312
                    cases e312
                    replace p312 := eq_true p312
                    replace q312 := eq_true q312
                    have p313 : 0 ≤ (t293 : Int) := of_decide_eq_true (by with_reducible assumption)
                    have q313 : t293 < (t284.length : Int) := of_decide_eq_true (by with_reducible assumption)
                    obtain ⟨ad313, e313, hx313_0⟩ := Kd.at_int (Kd.R_reads' HO_7.out).2.2 t293 p313 q313
                    obtain rfl : ad312 = ad313 := (by injection e313)
                    replace p313 := eq_true p313
                    replace q313 := eq_true q313
                    obtain ⟨Ao118, co118, eo118⟩ := Kd.R_slice HO_13.out
                    subst eo118
                    have p314 : 0 ≤ (x20_3 : Int) := of_decide_eq_true (by with_reducible assumption)
                    have q314 : x20_3 < (t295.length : Int) := of_decide_eq_true (by with_reducible assumption)
                    obtain ⟨ad314, e314, hx314_0⟩ := Kd.at_int (Kd.R_reads' HO_13.out).2.2 x20_3 p314 q314
                    cases e314
                    replace p314 := eq_true p314
                    replace q314 := eq_true q314
                    go_wp2
                    repeat (go_quiet (fail); try go_wp2)
                    go_ret
                    exact ⟨by first | rfl | (simp [errW_none, errW_some] <;> rfl) | (simp [*, errW_none, errW_some] <;> rfl), by repeat (first | (with_reducible first | exact HB.out | apply below_alloc | apply pw_below_drewN | apply below_drew1 | refine below_set ?_ GE283.out) | exact HB.out)⟩
                   ·rw [if_neg c117] at H
                    have c117b0 : decide ((wrap64 ((rd t284 x20_3) - (rd t284 t293))) < (rd t295 x20_3)) = false := decide_eq_false c117
                    clear c117
                    by_cases c119 : t302 = true
                    ·subst c119
                     have H1 : (if x20_3 < (t299.length : Int) then (if (wrap64 ((rd t284 x20_3) - (rd t284 t293))) > (rd t299 x20_3) then (some false) else (laws_FnTimings.l1 k3 t279 t284 t293 t294 t295 true t299 true t303 t304 t305 (wrap64 (x20_3 + 1)))) else (none)) = some r := by rw [if_pos rfl] at H; exact H
                     clear H
                     have H := H1
                     clear H1
                     by_cases c120 : x20_3 < (t299.length : Int)
                     ·rw [if_pos c120] at H
                      have c120b0 : decide (x20_3 < (t299.length : Int)) = true := decide_eq_true c120
                      clear c120
                      by_cases c121 : (wrap64 ((rd t284 x20_3) - (rd t284 t293))) > (rd t299 x20_3)
                      ·rw [if_pos c121] at H
                       have c121b0 : decide ((rd t299 x20_3) < (wrap64 ((rd t284 x20_3) - (rd t284 t293)))) = true := decide_eq_true c121
                       clear c121
                       obtain rfl := Option.some.inj H
                       have p312 : 0 ≤ (x20_3 : Int) := of_decide_eq_true (by with_reducible assumption)
                       have q312 : x20_3 < (t284.length : Int) := of_decide_eq_true (by with_reducible assumption)
                       obtain ⟨ad312, e312, hx312_0⟩ := Kd.at_int (Kd.R_reads' HO_7.out).2.2 x20_3 p312 q312
                       cases e312
                       replace p312 := eq_true p312
                       replace q312 := eq_true q312
                       have p313 : 0 ≤ (t293 : Int) := of_decide_eq_true (by with_reducible assumption)
                       have q313 : t293 < (t284.length : Int) := of_decide_eq_true (by with_reducible assumption)
                       obtain ⟨ad313, e313, hx313_0⟩ := Kd.at_int (Kd.R_reads' HO_7.out).2.2 t293 p313 q313
                       obtain rfl : ad312 = ad313 := (by injection e313)
                       replace p313 := eq_true p313
                       replace q313 := eq_true q313
                       obtain ⟨Ao122, co122, eo122⟩ := Kd.R_slice HO_13.out
                       subst eo122
                       have p314 : 0 ≤ (x20_3 : Int) := of_decide_eq_true (by with_reducible assumption)
                       have q314 : x20_3 < (t295.length : Int) := of_decide_eq_true (by with_reducible assumption)
                       obtain ⟨ad314, e314, hx314_0⟩ := Kd.at_int (Kd.R_reads' HO_13.out).2.2 x20_3 p314 q314
                       cases e314
                       replace p314 := eq_true p314
                       replace q314 := eq_true q314
                       obtain ⟨Ao123, co123, eo123⟩ := Kd.R_slice HO_15.out
                       subst eo123
                       have p315 : 0 ≤ (x20_3 : Int) := of_decide_eq_true (by with_reducible assumption)
                       have q315 : x20_3 < (t299.length : Int) := of_decide_eq_true (by with_reducible assumption)
                       obtain ⟨ad315, e315, hx315_0⟩ := Kd.at_int (Kd.R_reads' HO_15.out).2.2 x20_3 p315 q315
                       cases e315
                       replace p315 := eq_true p315
                       replace q315 := eq_true q315
                       go_wp2
                       repeat (go_quiet (fail); try go_wp2)
                       go_ret
                       exact ⟨by first | rfl | (simp [errW_none, errW_some] <;> rfl) | (simp [*, errW_none, errW_some] <;> rfl), by repeat (first | (with_reducible first | exact HB.out | apply below_alloc | apply pw_below_drewN | apply below_drew1 | refine below_set ?_ GE283.out) | exact HB.out)⟩
                      ·rw [if_neg c121] at H
                       have c121b0 : decide ((rd t299 x20_3) < (wrap64 ((rd t284 x20_3) - (rd t284 t293)))) = false := decide_eq_false c121
                       clear c121
                       have H' := Aside0.mk H
                       clear H
                       have p312 : 0 ≤ (x20_3 : Int) := of_decide_eq_true (by with_reducible assumption)
                       have q312 : x20_3 < (t284.length : Int) := of_decide_eq_true (by with_reducible assumption)
                       obtain ⟨ad312, e312, hx312_0⟩ := Kd.at_int (Kd.R_reads' HO_7.out).2.2 x20_3 p312 q312
                       cases e312
                       replace p312 := eq_true p312
                       replace q312 := eq_true q312
                       have p313 : 0 ≤ (t293 : Int) := of_decide_eq_true (by with_reducible assumption)
                       have q313 : t293 < (t284.length : Int) := of_decide_eq_true (by with_reducible assumption)
                       obtain ⟨ad313, e313, hx313_0⟩ := Kd.at_int (Kd.R_reads' HO_7.out).2.2 t293 p313 q313
                       obtain rfl : ad312 = ad313 := (by injection e313)
                       replace p313 := eq_true p313
                       replace q313 := eq_true q313
                       obtain ⟨Ao124, co124, eo124⟩ := Kd.R_slice HO_13.out
                       subst eo124
                       have p314 : 0 ≤ (x20_3 : Int) := of_decide_eq_true (by with_reducible assumption)
                       have q314 : x20_3 < (t295.length : Int) := of_decide_eq_true (by with_reducible assumption)
                       obtain ⟨ad314, e314, hx314_0⟩ := Kd.at_int (Kd.R_reads' HO_13.out).2.2 x20_3 p314 q314
                       cases e314
                       replace p314 := eq_true p314
                       replace q314 := eq_true q314
                       obtain ⟨Ao125, co125, eo125⟩ := Kd.R_slice HO_15.out
                       subst eo125
                       have p315 : 0 ≤ (x20_3 : Int) := of_decide_eq_true (by with_reducible assumption)
                       have q315 : x20_3 < (t299.length : Int) := of_decide_eq_true (by with_reducible assumption)
                       obtain ⟨ad315, e315, hx315_0⟩ := Kd.at_int (Kd.R_reads' HO_15.out).2.2 x20_3 p315 q315
                       cases e315
                       replace p315 := eq_true p315
                       replace q315 := eq_true q315
                       go_wp2
                       repeat (go_quiet (fail); try go_wp2)
                       go_roundg k3
                       case measure => have := HK1.out; have := HJ31.out; have := HK3.out; omega
                       case rel => exact ⟨(wrap64 (x20_3 + 1)), (by first | rfl | (simp; done) | (simp [*]; done)), H', ⟨by have := HK1.out; have := HJ31.out; have := HK3.out; omega⟩, ⟨by (with_reducible repeat (first | apply Kd.R_alloc | apply Kd.R_drewN | apply Kd.R_drew)); exact HO_7.out⟩, ⟨by (with_reducible repeat (first | apply Kd.R_alloc | apply Kd.R_drewN | apply Kd.R_drew)); exact HO_13.out⟩, ⟨by (with_reducible repeat (first | apply Kd.R_alloc | apply Kd.R_drewN | apply Kd.R_drew)); exact HO_15.out⟩, ⟨by (with_reducible repeat (first | apply Kd.R_alloc | apply Kd.R_drewN | apply Kd.R_drew)); exact HO_284001.out⟩, ⟨by (with_reducible repeat (first | refine blk_drewN ?_ _ | refine blk_drew ?_ | refine blk_alloc ?_ _)); exact BK283.out⟩, ⟨by repeat (first | (with_reducible first | exact HB.out | apply below_alloc | apply pw_below_drewN | apply below_drew1 | refine below_set ?_ GE283.out) | exact HB.out)⟩⟩
                     ·rw [if_neg c120] at H
                      exact absurd H (by simp)
                    ·replace c119 := Bool.eq_false_iff.mpr c119
                     subst c119
                     have H1 : (laws_FnTimings.l1 k3 t279 t284 t293 t294 t295 true t299 false t303 t304 t305 (wrap64 (x20_3 + 1))) = some r := by rw [if_neg (show ¬ (false = true) by decide)] at H; exact H
                     clear H
                     have H := H1
                     clear H1
                     have H' := Aside0.mk H
                     clear H
                     have p312 : 0 ≤ (x20_3 : Int) := of_decide_eq_true (by with_reducible assumption)
                     have q312 : x20_3 < (t284.length : Int) := of_decide_eq_true (by with_reducible assumption)
                     obtain ⟨ad312, e312, hx312_0⟩ := Kd.at_int (Kd.R_reads' HO_7.out).2.2 x20_3 p312 q312
                     cases e312
                     replace p312 := eq_true p312
                     replace q312 := eq_true q312
                     have p313 : 0 ≤ (t293 : Int) := of_decide_eq_true (by with_reducible assumption)
                     have q313 : t293 < (t284.length : Int) := of_decide_eq_true (by with_reducible assumption)
                     obtain ⟨ad313, e313, hx313_0⟩ := Kd.at_int (Kd.R_reads' HO_7.out).2.2 t293 p313 q313
                     obtain rfl : ad312 = ad313 := (by injection e313)
                     replace p313 := eq_true p313
                     replace q313 := eq_true q313
                     obtain ⟨Ao126, co126, eo126⟩ := Kd.R_slice HO_13.out
                     subst eo126
                     have p314 : 0 ≤ (x20_3 : Int) := of_decide_eq_true (by with_reducible assumption)
                     have q314 : x20_3 < (t295.length : Int) := of_decide_eq_true (by with_reducible assumption)
                     obtain ⟨ad314, e314, hx314_0⟩ := Kd.at_int (Kd.R_reads' HO_13.out).2.2 x20_3 p314 q314
                     cases e314
                     replace p314 := eq_true p314
                     replace q314 := eq_true q314
                     go_wp2
                     repeat (go_quiet (fail); try go_wp2)
                     go_roundg k3
                     case measure => have := HK1.out; have := HJ31.out; have := HK3.out; omega
                     case rel => exact ⟨(wrap64 (x20_3 + 1)), (by first | rfl | (simp; done) | (simp [*]; done)), H', ⟨by have := HK1.out; have := HJ31.out; have := HK3.out; omega⟩, ⟨by (with_reducible repeat (first | apply Kd.R_alloc | apply Kd.R_drewN | apply Kd.R_drew)); exact HO_7.out⟩, ⟨by (with_reducible repeat (first | apply Kd.R_alloc | apply Kd.R_drewN | apply Kd.R_drew)); exact HO_13.out⟩, ⟨by (with_reducible repeat (first | apply Kd.R_alloc | apply Kd.R_drewN | apply Kd.R_drew)); exact HO_15.out⟩, ⟨by (with_reducible repeat (first | apply Kd.R_alloc | apply Kd.R_drewN | apply Kd.R_drew)); exact HO_284001.out⟩, ⟨by (with_reducible repeat (first | refine blk_drewN ?_ _ | refine blk_drew ?_ | refine blk_alloc ?_ _)); exact BK283.out⟩, ⟨by repeat (first | (with_reducible first | exact HB.out | apply below_alloc | apply pw_below_drewN | apply below_drew1 | refine below_set ?_ GE283.out) | exact HB.out)⟩⟩
                  ·rw [if_neg c116] at H
                   exact absurd H (by simp)
                 ·replace c115 := Bool.eq_false_iff.mpr c115
                  subst c115
                  have H1 : (if t302 = true then (if x20_3 < (t299.length : Int) then (if (wrap64 ((rd t284 x20_3) - (rd t284 t293))) > (rd t299 x20_3) then (some false) else (laws_FnTimings.l1 k3 t279 t284 t293 t294 t295 false t299 t302 t303 t304 t305 (wrap64 (x20_3 + 1)))) else (none)) else (laws_FnTimings.l1 k3 t279 t284 t293 t294 t295 false t299 t302 t303 t304 t305 (wrap64 (x20_3 + 1)))) = some r := by rw [if_neg (show ¬ (false = true) by decide)] at H; exact H
                  clear H
                  have H := H1
                  clear H1
                  by_cases c127 : t302 = true
                  ·subst c127
                   have H1 : (if x20_3 < (t299.length : Int) then (if (wrap64 ((rd t284 x20_3) - (rd t284 t293))) > (rd t299 x20_3) then (some false) else (laws_FnTimings.l1 k3 t279 t284 t293 t294 t295 false t299 true t303 t304 t305 (wrap64 (x20_3 + 1)))) else (none)) = some r := by rw [if_pos rfl] at H; exact H
                   clear H
                   have H := H1
                   clear H1
                   by_cases c128 : x20_3 < (t299.length : Int)
                   ·rw [if_pos c128] at H
                    have c128b0 : decide (x20_3 < (t299.length : Int)) = true := decide_eq_true c128
                    clear c128
                    by_cases c129 : (wrap64 ((rd t284 x20_3) - (rd t284 t293))) > (rd t299 x20_3)
                    ·rw [if_pos c129] at H
                     have c129b0 : decide ((rd t299 x20_3) < (wrap64 ((rd t284 x20_3) - (rd t284 t293)))) = true := decide_eq_true c129
                     clear c129
                     obtain rfl := Option.some.inj H
                     have p312 : 0 ≤ (x20_3 : Int) := of_decide_eq_true (by with_reducible assumption)
                     have q312 : x20_3 < (t284.length : Int) := of_decide_eq_true (by with_reducible assumption)
                     obtain ⟨ad312, e312, hx312_0⟩ := Kd.at_int (Kd.R_reads' HO_7.out).2.2 x20_3 p312 q312
                     cases e312
                     replace p312 := eq_true p312
                     replace q312 := eq_true q312
                     have p313 : 0 ≤ (t293 : Int) := of_decide_eq_true (by with_reducible assumption)
                     have q313 : t293 < (t284.length : Int) := of_decide_eq_true (by with_reducible assumption)
                     obtain ⟨ad313, e313, hx313_0⟩ := Kd.at_int (Kd.R_reads' HO_7.out).2.2 t293 p313 q313
                     obtain rfl : ad312 = ad313 := (by injection e313)
                     replace p313 := eq_true p313
                     replace q313 := eq_true q313
                     obtain ⟨Ao130, co130, eo130⟩ := Kd.R_slice HO_15.out
                     subst eo130
                     have p316 : 0 ≤ (x20_3 : Int) := of_decide_eq_true (by with_reducible assumption)
                     have q316 : x20_3 < (t299.length : Int) := of_decide_eq_true (by with_reducible assumption)
                     obtain ⟨ad316, e316, hx316_0⟩ := Kd.at_int (Kd.R_reads' HO_15.out).2.2 x20_3 p316 q316
                     cases e316
                     replace p316 := eq_true p316
                     replace q316 := eq_true q316
                     go_wp2
                     repeat (go_quiet (fail); try go_wp2)
                     go_ret
                     exact ⟨by first | rfl | (simp [errW_none, errW_some] <;> rfl) | (simp [*, errW_none, errW_some] <;> rfl), by repeat (first | (with_reducible first | exact HB.out | apply below_alloc | apply pw_below_drewN | apply below_drew1 | refine below_set ?_ GE283.out) | exact HB.out)⟩
                    ·rw [if_neg c129] at H
                     have c129b0 : decide ((rd t299 x20_3) < (wrap64 ((rd t284 x20_3) - (rd t284 t293)))) = false := decide_eq_false c129
                     clear c129
                     have H' := Aside0.mk H
                     clear H
                     have p312 : 0 ≤ (x20_3 : Int) := of_decide_eq_true (by with_reducible assumption)
                     have q312 : x20_3 < (t284.length : Int) := of_decide_eq_true (by with_reducible assumption)
                     obtain ⟨ad312, e312, hx312_0⟩ := Kd.at_int (Kd.R_reads' HO_7.out).2.2 x20_3 p312 q312
                     cases e312
                     replace p312 := eq_true p312
                     replace q312 := eq_true q312
                     have p313 : 0 ≤ (t293 : Int) := of_decide_eq_true (by with_reducible assumption)
                     have q313 : t293 < (t284.length : Int) := of_decide_eq_true (by with_reducible assumption)
                     obtain ⟨ad313, e313, hx313_0⟩ := Kd.at_int (Kd.R_reads' HO_7.out).2.2 t293 p313 q313
                     obtain rfl : ad312 = ad313 := (by injection e313)
                     replace p313 := eq_true p313
                     replace q313 := eq_true q313
                     obtain ⟨Ao131, co131, eo131⟩ := Kd.R_slice HO_15.out
                     subst eo131
                     have p316 : 0 ≤ (x20_3 : Int) := of_decide_eq_true (by with_reducible assumption)
                     have q316 : x20_3 < (t299.length : Int) := of_decide_eq_true (by with_reducible assumption)
                     obtain ⟨ad316, e316, hx316_0⟩ := Kd.at_int (Kd.R_reads' HO_15.out).2.2 x20_3 p316 q316
                     cases e316
                     replace p316 := eq_true p316
                     replace q316 := eq_true q316
                     go_wp2
                     repeat (go_quiet (fail); try go_wp2)
                     go_roundg k3
                     case measure => have := HK1.out; have := HJ31.out; have := HK3.out; omega
                     case rel => exact ⟨(wrap64 (x20_3 + 1)), (by first | rfl | (simp; done) | (simp [*]; done)), H', ⟨by have := HK1.out; have := HJ31.out; have := HK3.out; omega⟩, ⟨by (with_reducible repeat (first | apply Kd.R_alloc | apply Kd.R_drewN | apply Kd.R_drew)); exact HO_7.out⟩, ⟨by (with_reducible repeat (first | apply Kd.R_alloc | apply Kd.R_drewN | apply Kd.R_drew)); exact HO_13.out⟩, ⟨by (with_reducible repeat (first | apply Kd.R_alloc | apply Kd.R_drewN | apply Kd.R_drew)); exact HO_15.out⟩, ⟨by (with_reducible repeat (first | apply Kd.R_alloc | apply Kd.R_drewN | apply Kd.R_drew)); exact HO_284001.out⟩, ⟨by (with_reducible repeat (first | refine blk_drewN ?_ _ | refine blk_drew ?_ | refine blk_alloc ?_ _)); exact BK283.out⟩, ⟨by repeat (first | (with_reducible first | exact HB.out | apply below_alloc | apply pw_below_drewN | apply below_drew1 | refine below_set ?_ GE283.out) | exact HB.out)⟩⟩
                   ·rw [if_neg c128] at H
                    exact absurd H (by simp)
                  ·replace c127 := Bool.eq_false_iff.mpr c127
                   subst c127
                   have H1 : (laws_FnTimings.l1 k3 t279 t284 t293 t294 t295 false t299 false t303 t304 t305 (wrap64 (x20_3 + 1))) = some r := by rw [if_neg (show ¬ (false = true) by decide)] at H; exact H
                   clear H
                   have H := H1
                   clear H1
                   have H' := Aside0.mk H
                   clear H
                   have p312 : 0 ≤ (x20_3 : Int) := of_decide_eq_true (by with_reducible assumption)
                   have q312 : x20_3 < (t284.length : Int) := of_decide_eq_true (by with_reducible assumption)
                   obtain ⟨ad312, e312, hx312_0⟩ := Kd.at_int (Kd.R_reads' HO_7.out).2.2 x20_3 p312 q312
                   cases e312
                   replace p312 := eq_true p312
                   replace q312 := eq_true q312
                   have p313 : 0 ≤ (t293 : Int) := of_decide_eq_true (by with_reducible assumption)
                   have q313 : t293 < (t284.length : Int) := of_decide_eq_true (by with_reducible assumption)
                   obtain ⟨ad313, e313, hx313_0⟩ := Kd.at_int (Kd.R_reads' HO_7.out).2.2 t293 p313 q313
                   obtain rfl : ad312 = ad313 := (by injection e313)
                   replace p313 := eq_true p313
                   replace q313 := eq_true q313
                   go_wp2
                   repeat (go_quiet (fail); try go_wp2)
                   go_roundg k3
                   case measure => have := HK1.out; have := HJ31.out; have := HK3.out; omega
                   case rel => exact ⟨(wrap64 (x20_3 + 1)), (by first | rfl | (simp; done) | (simp [*]; done)), H', ⟨by have := HK1.out; have := HJ31.out; have := HK3.out; omega⟩, ⟨by (with_reducible repeat (first | apply Kd.R_alloc | apply Kd.R_drewN | apply Kd.R_drew)); exact HO_7.out⟩, ⟨by (with_reducible repeat (first | apply Kd.R_alloc | apply Kd.R_drewN | apply Kd.R_drew)); exact HO_13.out⟩, ⟨by (with_reducible repeat (first | apply Kd.R_alloc | apply Kd.R_drewN | apply Kd.R_drew)); exact HO_15.out⟩, ⟨by (with_reducible repeat (first | apply Kd.R_alloc | apply Kd.R_drewN | apply Kd.R_drew)); exact HO_284001.out⟩, ⟨by (with_reducible repeat (first | refine blk_drewN ?_ _ | refine blk_drew ?_ | refine blk_alloc ?_ _)); exact BK283.out⟩, ⟨by repeat (first | (with_reducible first | exact HB.out | apply below_alloc | apply pw_below_drewN | apply below_drew1 | refine below_set ?_ GE283.out) | exact HB.out)⟩⟩
                ·rw [if_neg c114] at H
                 exact absurd H (by simp)
               ·rw [if_neg c113] at H
                exact absurd H (by simp)
              ·rw [if_neg c112] at H
               exact absurd H (by simp)
             ·rw [if_neg c111] at H
              exact absurd H (by simp)
            ·rw [if_neg c110] at H
             have c110b0 : decide (x20_3 < t279) = false := decide_eq_false c110
             clear c110
             by_cases c132 : 0 ≤ t294
             ·rw [if_pos c132] at H
              have c132b0 : decide (0 ≤ t294) = true := decide_eq_true c132
              clear c132
              by_cases c133 : t294 < (t284.length : Int)
              ·rw [if_pos c133] at H
               have c133b0 : decide (t294 < (t284.length : Int)) = true := decide_eq_true c133
               clear c133
               by_cases c134 : 0 ≤ t293
               ·rw [if_pos c134] at H
                have c134b0 : decide (0 ≤ t293) = true := decide_eq_true c134
                clear c134
                by_cases c135 : t293 < (t284.length : Int)
                ·rw [if_pos c135] at H
                 have c135b0 : decide (t293 < (t284.length : Int)) = true := decide_eq_true c135
                 clear c135
                 by_cases c136 : t305 = true
                 ·subst c136
                  have H1 : (if (wrap64 ((rd t284 t294) - (rd t284 t293))) ≥ t303 then (some (decide ((wrap64 ((rd t284 t294) - (rd t284 t293))) ≤ t304))) else (some false)) = some r := by rw [if_pos rfl] at H; exact H
                  clear H
                  have H := H1
                  clear H1
                  by_cases c137 : (wrap64 ((rd t284 t294) - (rd t284 t293))) ≥ t303
                  ·rw [if_pos c137] at H
                   have c137b0 : decide (t303 ≤ (wrap64 ((rd t284 t294) - (rd t284 t293)))) = true := decide_eq_true c137
                   clear c137
                   obtain rfl := Option.some.inj H
                   have p317 : 0 ≤ (t294 : Int) := of_decide_eq_true (by with_reducible assumption)
                   have q317 : t294 < (t284.length : Int) := of_decide_eq_true (by with_reducible assumption)
                   obtain ⟨ad317, e317, hx317_0⟩ := Kd.at_int (Kd.R_reads' HO_7.out).2.2 t294 p317 q317
                   cases e317
                   replace p317 := eq_true p317
                   replace q317 := eq_true q317
                   have p318 : 0 ≤ (t293 : Int) := of_decide_eq_true (by with_reducible assumption)
                   have q318 : t293 < (t284.length : Int) := of_decide_eq_true (by with_reducible assumption)
                   obtain ⟨ad318, e318, hx318_0⟩ := Kd.at_int (Kd.R_reads' HO_7.out).2.2 t293 p318 q318
                   obtain rfl : ad317 = ad318 := (by injection e318)
                   replace p318 := eq_true p318
                   replace q318 := eq_true q318
                   go_wp2
                   repeat (go_quiet (fail); try go_wp2)
                   go_ret
                   exact ⟨by first | rfl | (simp [errW_none, errW_some] <;> rfl) | (simp [*, errW_none, errW_some] <;> rfl), by repeat (first | (with_reducible first | exact HB.out | apply below_alloc | apply pw_below_drewN | apply below_drew1 | refine below_set ?_ GE283.out) | exact HB.out)⟩
                  ·rw [if_neg c137] at H
                   have c137b0 : decide (t303 ≤ (wrap64 ((rd t284 t294) - (rd t284 t293)))) = false := decide_eq_false c137
                   clear c137
                   obtain rfl := Option.some.inj H
                   have p317 : 0 ≤ (t294 : Int) := of_decide_eq_true (by with_reducible assumption)
                   have q317 : t294 < (t284.length : Int) := of_decide_eq_true (by with_reducible assumption)
                   obtain ⟨ad317, e317, hx317_0⟩ := Kd.at_int (Kd.R_reads' HO_7.out).2.2 t294 p317 q317
                   cases e317
                   replace p317 := eq_true p317
                   replace q317 := eq_true q317
                   have p318 : 0 ≤ (t293 : Int) := of_decide_eq_true (by with_reducible assumption)
                   have q318 : t293 < (t284.length : Int) := of_decide_eq_true (by with_reducible assumption)
                   obtain ⟨ad318, e318, hx318_0⟩ := Kd.at_int (Kd.R_reads' HO_7.out).2.2 t293 p318 q318
                   obtain rfl : ad317 = ad318 := (by injection e318)
                   replace p318 := eq_true p318
                   replace q318 := eq_true q318
                   go_wp2
                   repeat (go_quiet (fail); try go_wp2)
                   go_ret
                   exact ⟨by first | rfl | (simp [errW_none, errW_some] <;> rfl) | (simp [*, errW_none, errW_some] <;> rfl), by repeat (first | (with_reducible first | exact HB.out | apply below_alloc | apply pw_below_drewN | apply below_drew1 | refine below_set ?_ GE283.out) | exact HB.out)⟩
                 ·replace c136 := Bool.eq_false_iff.mpr c136
                  subst c136
                  have H1 : (some true) = some r := by rw [if_neg (show ¬ (false = true) by decide)] at H; exact H
                  clear H
                  have H := H1
                  clear H1
                  obtain rfl := Option.some.inj H
                  have p317 : 0 ≤ (t294 : Int) := of_decide_eq_true (by with_reducible assumption)
                  have q317 : t294 < (t284.length : Int) := of_decide_eq_true (by with_reducible assumption)
                  obtain ⟨ad317, e317, hx317_0⟩ := Kd.at_int (Kd.R_reads' HO_7.out).2.2 t294 p317 q317
                  cases e317
                  replace p317 := eq_true p317
                  replace q317 := eq_true q317
                  have p318 : 0 ≤ (t293 : Int) := of_decide_eq_true (by with_reducible assumption)
                  have q318 : t293 < (t284.length : Int) := of_decide_eq_true (by with_reducible assumption)
                  obtain ⟨ad318, e318, hx318_0⟩ := Kd.at_int (Kd.R_reads' HO_7.out).2.2 t293 p318 q318
                  obtain rfl : ad317 = ad318 := (by injection e318)
                  replace p318 := eq_true p318
                  replace q318 := eq_true q318
                  go_wp2
                  repeat (go_quiet (fail); try go_wp2)
                  go_ret
                  exact ⟨by first | rfl | (simp [errW_none, errW_some] <;> rfl) | (simp [*, errW_none, errW_some] <;> rfl), by repeat (first | (with_reducible first | exact HB.out | apply below_alloc | apply pw_below_drewN | apply below_drew1 | refine below_set ?_ GE283.out) | exact HB.out)⟩
                ·rw [if_neg c135] at H
                 exact absurd H (by simp)
               ·rw [if_neg c134] at H
                exact absurd H (by simp)
              ·rw [if_neg c133] at H
               exact absurd H (by simp)
             ·rw [if_neg c132] at H
              exact absurd H (by simp)
         ·replace c109 := Bool.eq_false_iff.mpr c109
          subst c109
          have H1 : (some true) = some r := by rw [if_neg (show ¬ (false = true) by decide)] at H; exact H
          clear H
          have H := H1
          clear H1
          obtain rfl := Option.some.inj H
          go_wp2
          repeat (go_quiet (fail); try go_wp2)
          go_ret
          exact ⟨by first | rfl | (simp [errW_none, errW_some] <;> rfl) | (simp [*, errW_none, errW_some] <;> rfl), by repeat (first | (with_reducible first | exact HB.out | apply below_alloc | apply pw_below_drewN | apply below_drew1 | refine below_set ?_ GE283.out) | exact HB.out)⟩

/-- THE ONE PURE STATEMENT of laws_FnTimings: yours. -/
def laws_FnTimings.Pure : Prop := ∀ (l0 : List Int) (l1 : List Int), l0.length ≤ maxLen → l0.length * 1 ≤ 140737488351232 → (∀ x ∈ l0, (Lit.int .u8 x).wf = true) → l1.length ≤ maxLen → l1.length * 1 ≤ 140737488351232 → (∀ x ∈ l1, (Lit.int .u8 x).wf = true) → ∃ k, laws_FnTimings.f k l0 l1 = some true
theorem laws_FnTimings.walk (P : laws_FnTimings.Pure) (a0 : Option Addr) (len0 cap0 : Nat) (z0 : List Int) (a1 : Option Addr) (len1 cap1 : Nat) (z1 : List Int) (w : World) (w0 : (a0 = none ∧ len0 = 0 ∧ cap0 = 0 ∧ z0 = []) ∨ ∃ x, a0 = some x ∧ len0 ≤ cap0 ∧ cap0 ≤ maxLen ∧ z0.length = cap0 ∧ (∀ i, i < z0.length → w.cell? (x.add i) = some (.int .u8 (z0.getD i 0))) ∧ ∀ n ∈ z0, (Lit.int .u8 n).wf = true) (y0 : len0 * 1 ≤ 140737488351232) (w1 : (a1 = none ∧ len1 = 0 ∧ cap1 = 0 ∧ z1 = []) ∨ ∃ x, a1 = some x ∧ len1 ≤ cap1 ∧ cap1 ≤ maxLen ∧ z1.length = cap1 ∧ (∀ i, i < z1.length → w.cell? (x.add i) = some (.int .u8 (z1.getD i 0))) ∧ ∀ n ∈ z1, (Lit.int .u8 n).wf = true) (y1 : len1 * 1 ≤ 140737488351232) :
  Calls Try.prog 3 #[.slice a0 len0 cap0, .slice a1 len1 cap1] w fun e w' => e = .returned (.bool true) ∧ Below w.heap.size w w' := by
 obtain ⟨l0, rfl, hr0, hm0, hw0, hc0⟩ := ReadsInt.ofRowC w0
 obtain ⟨l1, rfl, hr1, hm1, hw1, hc1⟩ := ReadsInt.ofRowC w1
 obtain ⟨k, h⟩ := P l0 l1 hm0 y0 hw0 hm1 y1 hw1
 refine (laws_FnTimings.calls k _ _ l0 _ _ l1 true w (Kd.C_of_reads (d := (0 : Int)) (h1 := fun _ => rfl) hr0) hc0 (Kd.C_of_reads (d := (0 : Int)) (h1 := fun _ => rfl) hr1) hc1 h).mono ?_
 rintro e w' ⟨rfl, hd⟩
 exact ⟨rfl, hd⟩

end Go.Proofs.Ytahjcmmgdcedpaa.Pa
