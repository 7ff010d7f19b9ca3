-- Written for this claim by a program of this session.
import Derived.Test.YtbkofbcmhddbfaaPCoreP3
import Derived.Test.YtbkofbcmhddbfaaPCoreP4
import Derived.Test.YtbkofbcmhddbfaaPPax0
import Derived.Test.YtbkofbcmhddbfaaPCoreP1
import Derived.Laws.CopyOwn
import Derived.Deep.RegionLaw
import Derived.IntWalk
import Derived.RangeFuncNested
import Derived.RangeFuncBound
import Derived.RangeFuncCalls
import Derived.RangeFuncLeaves
import Derived.RangeFuncBox
import Derived.Shelf.Abstract
import Derived.Shelf.RegionOpen
import Derived.WalkKit
import Derived.OwnWalkIn
import Derived.TacticsInMore
import Derived.LoopNIn
import Derived.LoopIn
import Derived.OrdersIn
/- The reference's longest path: what its loops compute. -/
namespace Go.Proofs.Ytbkofbcmhddbfaa.Pure
open Go.RowKit Go.Proofs.Ytbkofbcmhddbfaa.Pa Go.Proofs.YtbkofbcmhddbfaaW.PrintWords Go.Proofs.YtbkofbcmhddbfaaW.PrintLast Go.Proofs.YtbkofbcmhddbfaaW.PrintMore
set_option linter.unusedVariables false
set_option linter.unusedSimpArgs false

section
variable {n : Int} {gates : List S36} {data : List Int} {a goal a3 a4 a5 a6 : Int}
end
end Go.Proofs.Ytbkofbcmhddbfaa.Pure

namespace Go.Proofs.Ytbkofbcmhddbfaa.Pa
open Go.RowKit Go.Proofs.YtbkofbcmhddbfaaW.PrintWords Go.Proofs.YtbkofbcmhddbfaaW.PrintLast Go.Proofs.YtbkofbcmhddbfaaW.PrintMore
attribute [local go_sem] max2_int min2_int max_two min_two max_three min_three max_four min_four   -- for this text's walks alone
set_option linter.unusedVariables false
set_option linter.unusedSimpArgs false

/-! ### impl_PathDelays: function 8 -/
def impl_PathDelays.l0 : Nat → Int → Int → List (S54) → Int → Int → Option (Int × Int × Bool)
 | 0, _, _, _, _, _ => none
 | k + 1, x1, x2, x15, x16, x17 => if x17 < x16 then (if 0 ≤ x17 then (if x17 < (x15.length : Int) then (if ((rd_T54 x15 x17).f0) = x1 then (if ((rd_T54 x15 x17).f1) = x2 then (some ((rd_T54 x15 x17).f2, (rd_T54 x15 x17).f3, true)) else (impl_PathDelays.l0 k x1 x2 x15 x16 (wrap64 (x17 + 1)))) else (impl_PathDelays.l0 k x1 x2 x15 x16 (wrap64 (x17 + 1)))) else (none)) else (none)) else (some (0, 0, false))
def impl_PathDelays.f (k : Nat) (a0_0 : Int) (l0_1 : List (S36)) (l0_2 : List Int) (a0_3 : Int) (a0_4 : Int) (a0_5 : Int) (a0_6 : Int) (a1 : Int) (a2 : Int) : Option (Int × Int × Bool) := (impl_ValidCircuit.f a0_0 l0_1 l0_2 a0_3 a0_4 a0_5 a0_6).bind fun t250 => (if t250 = true then ((impl_Circuit_links.f k a0_0 l0_1 l0_2 a0_3 a0_4 a0_5 a0_6).bind fun t251 => (impl_PathDelays.l0 k a1 a2 t251 (t251.length : Int) 0)) else (some (0, 0, false)))
set_option maxHeartbeats 8000000 in
set_option maxRecDepth 100000 in
theorem impl_PathDelays.calls (k : Nat) (a0_0 : Int) (A0_1 : Option Addr) (c0_1 : Nat) (l0_1 : List (S36)) (A0_2 : Option Addr) (c0_2 : Nat) (l0_2 : List Int) (a0_3 : Int) (a0_4 : Int) (a0_5 : Int) (a0_6 : Int) (a1 : Int) (a2 : Int) (r1 : Int) (r2 : Int) (r3 : Bool) (w : World) (hr0_1 : Kd.C k36 w A0_1 l0_1.length l0_1) (hc0_1 : l0_1.length ≤ c0_1) (hr0_2 : Kd.C (Kd.int .i64) w A0_2 l0_2.length l0_2) (hc0_2 : l0_2.length ≤ c0_2) (h : impl_PathDelays.f k a0_0 l0_1 l0_2 a0_3 a0_4 a0_5 a0_6 a1 a2 = some (r1, r2, r3)) :
  Calls Try.prog 8 #[.agg #[.int .i64 a0_0, .slice A0_1 l0_1.length c0_1, .slice A0_2 l0_2.length c0_2, .int .i64 a0_3, .int .i64 a0_4, .int .i64 a0_5, .int .i64 a0_6], .int .i64 a1, .int .i64 a2] w fun e w' => e = .returned (.tuple #[.int .i64 r1, .int .i64 r2, .bool r3]) ∧ Below w.heap.size w w' := by
 have hu27 := Try.underlying27
 have hu54 := Try.underlying54
 have HR0_1 := Aside0.mk hr0_1
 have HC0_1 := Aside0.mk hc0_1
 clear hr0_1 hc0_1
 have HR0_2 := Aside0.mk hr0_2
 have HC0_2 := Aside0.mk hc0_2
 clear hr0_2 hc0_2
 have HB := Aside0.mk (Below.refl w.heap.size w)
 have H : ((impl_ValidCircuit.f a0_0 l0_1 l0_2 a0_3 a0_4 a0_5 a0_6).bind fun t250 => (if t250 = true then ((impl_Circuit_links.f k a0_0 l0_1 l0_2 a0_3 a0_4 a0_5 a0_6).bind fun t251 => (impl_PathDelays.l0 k a1 a2 t251 (t251.length : Int) 0)) else (some (0, 0, false)))) = some (r1, r2, r3) := h
 clear h
 replace H := Option.bind_eq_some_iff.mp H
 obtain ⟨t250, A40, H⟩ := H
 try dsimp only at H
 have A4 := Aside0.mk A40
 clear A40
 by_cases c5 : t250 = true
 ·subst c5
  rw [if_pos rfl] at H
  replace H := Option.bind_eq_some_iff.mp H
  obtain ⟨t251, A60, H⟩ := H
  try dsimp only at H
  have A6 := Aside0.mk A60
  clear A60
  have H' := Aside0.mk H
  clear H
  go_enter Try.func8, Try.ntmps8
  go_wp2_with (first | ((with_reducible refine gate_dst (N := 3) rfl ?_); refine box_event ?hg (N := 3) ?hd (cs := #[.int .i64 a0_0, .slice A0_1 l0_1.length c0_1, .slice A0_2 l0_2.length c0_2, .int .i64 a0_3, .int .i64 a0_4, .int .i64 a0_5, .int .i64 a0_6]) (t := 27) ?hr ?_; (case hd => rfl); (case hg => rfl); (case hr => first | (go_simp; done) | (go_simp; rfl)); intro gb249 hg w7 hbox hb; have n0_ := Aside0.mk (below_step (by with_reducible repeat (first | exact HB.out | apply below_alloc | apply pw_below_drewN | apply below_drew1)) hb); have n1_ := Aside0.mk (hbox); have n2_ := Aside0.mk ((by rw [hg]; exact (below_size (by with_reducible repeat (first | exact HB.out | apply below_alloc | apply pw_below_drewN | apply below_drew1))) : w.heap.size ≤ gb249)); have n3_ := Aside0.mk ((by rw [hg]; exact (below_size (by with_reducible repeat (first | exact HB.out | apply below_alloc | apply pw_below_drewN | apply below_drew1))) : w.heap.size ≤ gb249)); clear HB; have HB := n0_; have BK249 := n1_; have GW249 := n2_; have GE249 := n3_; clear n0_ n1_ n2_ n3_; clear hb hbox hg; have hcz8_0 : w7.cell? ⟨gb249, 0, none⟩ = some (.int .i64 a0_0) := (blk_cell BK249.out 0).trans rfl; have hcz8_1 : w7.cell? ⟨gb249, 1, none⟩ = some (.slice A0_1 l0_1.length c0_1) := (blk_cell BK249.out 1).trans rfl; have hcz8_2 : w7.cell? ⟨gb249, 2, none⟩ = some (.slice A0_2 l0_2.length c0_2) := (blk_cell BK249.out 2).trans rfl; have hcz8_3 : w7.cell? ⟨gb249, 3, none⟩ = some (.int .i64 a0_3) := (blk_cell BK249.out 3).trans rfl; have hcz8_4 : w7.cell? ⟨gb249, 4, none⟩ = some (.int .i64 a0_4) := (blk_cell BK249.out 4).trans rfl; have hcz8_5 : w7.cell? ⟨gb249, 5, none⟩ = some (.int .i64 a0_5) := (blk_cell BK249.out 5).trans rfl; have hcz8_6 : w7.cell? ⟨gb249, 6, none⟩ = some (.int .i64 a0_6) := (blk_cell BK249.out 6).trans rfl; have hfz8_0 := blk_frozen BK249.out 0; have hfz8_1 := blk_frozen BK249.out 1; have hfz8_2 := blk_frozen BK249.out 2; have hfz8_3 := blk_frozen BK249.out 3; have hfz8_4 := blk_frozen BK249.out 4; have hfz8_5 := blk_frozen BK249.out 5; have hfz8_6 := blk_frozen BK249.out 6) | (go_at_call 10; (with_reducible refine (impl_ValidCircuit.calls a0_0 _ _ l0_1 _ _ l0_2 a0_3 a0_4 a0_5 a0_6 true _ ?side1 ?side2 ?side3 ?side4 A4.out).mono ?_); (case side1 => repeat (first | exact (Kd.C_below HR0_1.out HB.out) | (with_reducible refine Kd.C_alloc ?_ _) | (with_reducible refine Kd.C_drewN ?_ _) | (with_reducible refine Kd.C_drew ?_))); (case side2 => exact HC0_1.out); (case side3 => repeat (first | exact (Kd.C_below HR0_2.out HB.out) | (with_reducible refine Kd.C_alloc ?_ _) | (with_reducible refine Kd.C_drewN ?_ _) | (with_reducible refine Kd.C_drew ?_))); (case side4 => exact HC0_2.out); rintro e w9 ⟨rfl, hb⟩; have n0_ := Aside0.mk (blk_below (g := gb249) (by (with_reducible repeat (first | refine blk_drewN ?_ _ | refine blk_drew ?_ | refine blk_alloc ?_ _)); exact BK249.out) hb); have n1_ := Aside0.mk (below_step (by with_reducible repeat (first | exact HB.out | apply below_alloc | apply pw_below_drewN | apply below_drew1 | refine below_set ?_ GE249.out)) hb); clear BK249; clear HB; have BK249 := n0_; have HB := n1_; clear n0_ n1_; (try clear hb); (try clear hb2); (try clear hk); (try clear hi); have hcz10_0 : w9.cell? ⟨gb249, 0, none⟩ = some (.int .i64 a0_0) := (blk_cell BK249.out 0).trans rfl; have hcz10_1 : w9.cell? ⟨gb249, 1, none⟩ = some (.slice A0_1 l0_1.length c0_1) := (blk_cell BK249.out 1).trans rfl; have hcz10_2 : w9.cell? ⟨gb249, 2, none⟩ = some (.slice A0_2 l0_2.length c0_2) := (blk_cell BK249.out 2).trans rfl; have hcz10_3 : w9.cell? ⟨gb249, 3, none⟩ = some (.int .i64 a0_3) := (blk_cell BK249.out 3).trans rfl; have hcz10_4 : w9.cell? ⟨gb249, 4, none⟩ = some (.int .i64 a0_4) := (blk_cell BK249.out 4).trans rfl; have hcz10_5 : w9.cell? ⟨gb249, 5, none⟩ = some (.int .i64 a0_5) := (blk_cell BK249.out 5).trans rfl; have hcz10_6 : w9.cell? ⟨gb249, 6, none⟩ = some (.int .i64 a0_6) := (blk_cell BK249.out 6).trans rfl; have hfz10_0 := blk_frozen BK249.out 0; have hfz10_1 := blk_frozen BK249.out 1; have hfz10_2 := blk_frozen BK249.out 2; have hfz10_3 := blk_frozen BK249.out 3; have hfz10_4 := blk_frozen BK249.out 4; have hfz10_5 := blk_frozen BK249.out 5; have hfz10_6 := blk_frozen BK249.out 6) | (go_at_call 22; (with_reducible refine (impl_Circuit_links.calls k a0_0 _ _ l0_1 _ _ l0_2 a0_3 a0_4 a0_5 a0_6 t251 _ ?side1 ?side2 ?side3 ?side4 A6.out).mono ?_); (case side1 => repeat (first | exact (Kd.C_below HR0_1.out HB.out) | (with_reducible refine Kd.C_alloc ?_ _) | (with_reducible refine Kd.C_drewN ?_ _) | (with_reducible refine Kd.C_drew ?_))); (case side2 => exact HC0_1.out); (case side3 => repeat (first | exact (Kd.C_below HR0_2.out HB.out) | (with_reducible refine Kd.C_alloc ?_ _) | (with_reducible refine Kd.C_drewN ?_ _) | (with_reducible refine Kd.C_drew ?_))); (case side4 => exact HC0_2.out); rintro e w11 ⟨v252, rfl, ho0, hb⟩; have n0_ := Aside0.mk (Kd.R_lower ho0 (below_size (by with_reducible repeat (first | exact HB.out | apply below_alloc | apply pw_below_drewN | apply below_drew1 | refine below_set ?_ GE249.out)))); have n1_ := Aside0.mk (blk_below (g := gb249) (by (with_reducible repeat (first | refine blk_drewN ?_ _ | refine blk_drew ?_ | refine blk_alloc ?_ _)); exact BK249.out) hb); have n2_ := Aside0.mk (below_step (by with_reducible repeat (first | exact HB.out | apply below_alloc | apply pw_below_drewN | apply below_drew1 | refine below_set ?_ GE249.out)) hb); clear BK249; clear HB; have HO253 := n0_; have BK249 := n1_; have HB := n2_; clear n0_ n1_ n2_; (try clear hb); (try clear hb2); (try clear hk); (try clear hi); (try clear ho0); obtain ⟨Ao12, co12, eo12⟩ := Kd.R_slice HO253.out; subst eo12))
  repeat (go_quiet (first | (go_at_call 10; (with_reducible refine (impl_ValidCircuit.calls a0_0 _ _ l0_1 _ _ l0_2 a0_3 a0_4 a0_5 a0_6 true _ ?side1 ?side2 ?side3 ?side4 A4.out).mono ?_); (case side1 => repeat (first | exact (Kd.C_below HR0_1.out HB.out) | (with_reducible refine Kd.C_alloc ?_ _) | (with_reducible refine Kd.C_drewN ?_ _) | (with_reducible refine Kd.C_drew ?_))); (case side2 => exact HC0_1.out); (case side3 => repeat (first | exact (Kd.C_below HR0_2.out HB.out) | (with_reducible refine Kd.C_alloc ?_ _) | (with_reducible refine Kd.C_drewN ?_ _) | (with_reducible refine Kd.C_drew ?_))); (case side4 => exact HC0_2.out); rintro e w9 ⟨rfl, hb⟩; have n0_ := Aside0.mk (blk_below (g := gb249) (by (with_reducible repeat (first | refine blk_drewN ?_ _ | refine blk_drew ?_ | refine blk_alloc ?_ _)); exact BK249.out) hb); have n1_ := Aside0.mk (below_step (by with_reducible repeat (first | exact HB.out | apply below_alloc | apply pw_below_drewN | apply below_drew1 | refine below_set ?_ GE249.out)) hb); clear BK249; clear HB; have BK249 := n0_; have HB := n1_; clear n0_ n1_; (try clear hb); (try clear hb2); (try clear hk); (try clear hi); have hcz10_0 : w9.cell? ⟨gb249, 0, none⟩ = some (.int .i64 a0_0) := (blk_cell BK249.out 0).trans rfl; have hcz10_1 : w9.cell? ⟨gb249, 1, none⟩ = some (.slice A0_1 l0_1.length c0_1) := (blk_cell BK249.out 1).trans rfl; have hcz10_2 : w9.cell? ⟨gb249, 2, none⟩ = some (.slice A0_2 l0_2.length c0_2) := (blk_cell BK249.out 2).trans rfl; have hcz10_3 : w9.cell? ⟨gb249, 3, none⟩ = some (.int .i64 a0_3) := (blk_cell BK249.out 3).trans rfl; have hcz10_4 : w9.cell? ⟨gb249, 4, none⟩ = some (.int .i64 a0_4) := (blk_cell BK249.out 4).trans rfl; have hcz10_5 : w9.cell? ⟨gb249, 5, none⟩ = some (.int .i64 a0_5) := (blk_cell BK249.out 5).trans rfl; have hcz10_6 : w9.cell? ⟨gb249, 6, none⟩ = some (.int .i64 a0_6) := (blk_cell BK249.out 6).trans rfl; have hfz10_0 := blk_frozen BK249.out 0; have hfz10_1 := blk_frozen BK249.out 1; have hfz10_2 := blk_frozen BK249.out 2; have hfz10_3 := blk_frozen BK249.out 3; have hfz10_4 := blk_frozen BK249.out 4; have hfz10_5 := blk_frozen BK249.out 5; have hfz10_6 := blk_frozen BK249.out 6) | (go_at_call 22; (with_reducible refine (impl_Circuit_links.calls k a0_0 _ _ l0_1 _ _ l0_2 a0_3 a0_4 a0_5 a0_6 t251 _ ?side1 ?side2 ?side3 ?side4 A6.out).mono ?_); (case side1 => repeat (first | exact (Kd.C_below HR0_1.out HB.out) | (with_reducible refine Kd.C_alloc ?_ _) | (with_reducible refine Kd.C_drewN ?_ _) | (with_reducible refine Kd.C_drew ?_))); (case side2 => exact HC0_1.out); (case side3 => repeat (first | exact (Kd.C_below HR0_2.out HB.out) | (with_reducible refine Kd.C_alloc ?_ _) | (with_reducible refine Kd.C_drewN ?_ _) | (with_reducible refine Kd.C_drew ?_))); (case side4 => exact HC0_2.out); rintro e w11 ⟨v252, rfl, ho0, hb⟩; have n0_ := Aside0.mk (Kd.R_lower ho0 (below_size (by with_reducible repeat (first | exact HB.out | apply below_alloc | apply pw_below_drewN | apply below_drew1 | refine below_set ?_ GE249.out)))); have n1_ := Aside0.mk (blk_below (g := gb249) (by (with_reducible repeat (first | refine blk_drewN ?_ _ | refine blk_drew ?_ | refine blk_alloc ?_ _)); exact BK249.out) hb); have n2_ := Aside0.mk (below_step (by with_reducible repeat (first | exact HB.out | apply below_alloc | apply pw_below_drewN | apply below_drew1 | refine below_set ?_ GE249.out)) hb); clear BK249; clear HB; have HO253 := n0_; have BK249 := n1_; have HB := n2_; clear n0_ n1_ n2_; (try clear hb); (try clear hb2); (try clear hk); (try clear hi); (try clear ho0); obtain ⟨Ao12, co12, eo12⟩ := Kd.R_slice HO253.out; subst eo12)); try go_wp2_with (first | ((with_reducible refine gate_dst (N := 3) rfl ?_); refine box_event ?hg (N := 3) ?hd (cs := #[.int .i64 a0_0, .slice A0_1 l0_1.length c0_1, .slice A0_2 l0_2.length c0_2, .int .i64 a0_3, .int .i64 a0_4, .int .i64 a0_5, .int .i64 a0_6]) (t := 27) ?hr ?_; (case hd => rfl); (case hg => rfl); (case hr => first | (go_simp; done) | (go_simp; rfl)); intro gb249 hg w7 hbox hb; have n0_ := Aside0.mk (below_step (by with_reducible repeat (first | exact HB.out | apply below_alloc | apply pw_below_drewN | apply below_drew1)) hb); have n1_ := Aside0.mk (hbox); have n2_ := Aside0.mk ((by rw [hg]; exact (below_size (by with_reducible repeat (first | exact HB.out | apply below_alloc | apply pw_below_drewN | apply below_drew1))) : w.heap.size ≤ gb249)); have n3_ := Aside0.mk ((by rw [hg]; exact (below_size (by with_reducible repeat (first | exact HB.out | apply below_alloc | apply pw_below_drewN | apply below_drew1))) : w.heap.size ≤ gb249)); clear HB; have HB := n0_; have BK249 := n1_; have GW249 := n2_; have GE249 := n3_; clear n0_ n1_ n2_ n3_; clear hb hbox hg; have hcz8_0 : w7.cell? ⟨gb249, 0, none⟩ = some (.int .i64 a0_0) := (blk_cell BK249.out 0).trans rfl; have hcz8_1 : w7.cell? ⟨gb249, 1, none⟩ = some (.slice A0_1 l0_1.length c0_1) := (blk_cell BK249.out 1).trans rfl; have hcz8_2 : w7.cell? ⟨gb249, 2, none⟩ = some (.slice A0_2 l0_2.length c0_2) := (blk_cell BK249.out 2).trans rfl; have hcz8_3 : w7.cell? ⟨gb249, 3, none⟩ = some (.int .i64 a0_3) := (blk_cell BK249.out 3).trans rfl; have hcz8_4 : w7.cell? ⟨gb249, 4, none⟩ = some (.int .i64 a0_4) := (blk_cell BK249.out 4).trans rfl; have hcz8_5 : w7.cell? ⟨gb249, 5, none⟩ = some (.int .i64 a0_5) := (blk_cell BK249.out 5).trans rfl; have hcz8_6 : w7.cell? ⟨gb249, 6, none⟩ = some (.int .i64 a0_6) := (blk_cell BK249.out 6).trans rfl; have hfz8_0 := blk_frozen BK249.out 0; have hfz8_1 := blk_frozen BK249.out 1; have hfz8_2 := blk_frozen BK249.out 2; have hfz8_3 := blk_frozen BK249.out 3; have hfz8_4 := blk_frozen BK249.out 4; have hfz8_5 := blk_frozen BK249.out 5; have hfz8_6 := blk_frozen BK249.out 6) | (go_at_call 10; (with_reducible refine (impl_ValidCircuit.calls a0_0 _ _ l0_1 _ _ l0_2 a0_3 a0_4 a0_5 a0_6 true _ ?side1 ?side2 ?side3 ?side4 A4.out).mono ?_); (case side1 => repeat (first | exact (Kd.C_below HR0_1.out HB.out) | (with_reducible refine Kd.C_alloc ?_ _) | (with_reducible refine Kd.C_drewN ?_ _) | (with_reducible refine Kd.C_drew ?_))); (case side2 => exact HC0_1.out); (case side3 => repeat (first | exact (Kd.C_below HR0_2.out HB.out) | (with_reducible refine Kd.C_alloc ?_ _) | (with_reducible refine Kd.C_drewN ?_ _) | (with_reducible refine Kd.C_drew ?_))); (case side4 => exact HC0_2.out); rintro e w9 ⟨rfl, hb⟩; have n0_ := Aside0.mk (blk_below (g := gb249) (by (with_reducible repeat (first | refine blk_drewN ?_ _ | refine blk_drew ?_ | refine blk_alloc ?_ _)); exact BK249.out) hb); have n1_ := Aside0.mk (below_step (by with_reducible repeat (first | exact HB.out | apply below_alloc | apply pw_below_drewN | apply below_drew1 | refine below_set ?_ GE249.out)) hb); clear BK249; clear HB; have BK249 := n0_; have HB := n1_; clear n0_ n1_; (try clear hb); (try clear hb2); (try clear hk); (try clear hi); have hcz10_0 : w9.cell? ⟨gb249, 0, none⟩ = some (.int .i64 a0_0) := (blk_cell BK249.out 0).trans rfl; have hcz10_1 : w9.cell? ⟨gb249, 1, none⟩ = some (.slice A0_1 l0_1.length c0_1) := (blk_cell BK249.out 1).trans rfl; have hcz10_2 : w9.cell? ⟨gb249, 2, none⟩ = some (.slice A0_2 l0_2.length c0_2) := (blk_cell BK249.out 2).trans rfl; have hcz10_3 : w9.cell? ⟨gb249, 3, none⟩ = some (.int .i64 a0_3) := (blk_cell BK249.out 3).trans rfl; have hcz10_4 : w9.cell? ⟨gb249, 4, none⟩ = some (.int .i64 a0_4) := (blk_cell BK249.out 4).trans rfl; have hcz10_5 : w9.cell? ⟨gb249, 5, none⟩ = some (.int .i64 a0_5) := (blk_cell BK249.out 5).trans rfl; have hcz10_6 : w9.cell? ⟨gb249, 6, none⟩ = some (.int .i64 a0_6) := (blk_cell BK249.out 6).trans rfl; have hfz10_0 := blk_frozen BK249.out 0; have hfz10_1 := blk_frozen BK249.out 1; have hfz10_2 := blk_frozen BK249.out 2; have hfz10_3 := blk_frozen BK249.out 3; have hfz10_4 := blk_frozen BK249.out 4; have hfz10_5 := blk_frozen BK249.out 5; have hfz10_6 := blk_frozen BK249.out 6) | (go_at_call 22; (with_reducible refine (impl_Circuit_links.calls k a0_0 _ _ l0_1 _ _ l0_2 a0_3 a0_4 a0_5 a0_6 t251 _ ?side1 ?side2 ?side3 ?side4 A6.out).mono ?_); (case side1 => repeat (first | exact (Kd.C_below HR0_1.out HB.out) | (with_reducible refine Kd.C_alloc ?_ _) | (with_reducible refine Kd.C_drewN ?_ _) | (with_reducible refine Kd.C_drew ?_))); (case side2 => exact HC0_1.out); (case side3 => repeat (first | exact (Kd.C_below HR0_2.out HB.out) | (with_reducible refine Kd.C_alloc ?_ _) | (with_reducible refine Kd.C_drewN ?_ _) | (with_reducible refine Kd.C_drew ?_))); (case side4 => exact HC0_2.out); rintro e w11 ⟨v252, rfl, ho0, hb⟩; have n0_ := Aside0.mk (Kd.R_lower ho0 (below_size (by with_reducible repeat (first | exact HB.out | apply below_alloc | apply pw_below_drewN | apply below_drew1 | refine below_set ?_ GE249.out)))); have n1_ := Aside0.mk (blk_below (g := gb249) (by (with_reducible repeat (first | refine blk_drewN ?_ _ | refine blk_drew ?_ | refine blk_alloc ?_ _)); exact BK249.out) hb); have n2_ := Aside0.mk (below_step (by with_reducible repeat (first | exact HB.out | apply below_alloc | apply pw_below_drewN | apply below_drew1 | refine below_set ?_ GE249.out)) hb); clear BK249; clear HB; have HO253 := n0_; have BK249 := n1_; have HB := n2_; clear n0_ n1_ n2_; (try clear hb); (try clear hb2); (try clear hk); (try clear hi); (try clear ho0); obtain ⟨Ao12, co12, eo12⟩ := Kd.R_slice HO253.out; subst eo12)))
  go_loopg [17] k (fun kq v17 w' => ∃ (x17_1 : Int), v17 = .int .i64 x17_1 ∧ Aside0 (impl_PathDelays.l0 kq a1 a2 t251 (t251.length : Int) x17_1 = some (r1, r2, r3)) ∧ Aside0 (kq ≤ k) ∧ Aside0 (Kd.R k54 54 w' w.heap.size (fun _ => True) (.slice Ao12 t251.length co12) t251) ∧ Aside0 (w'.heap[gb249]? = some (.cells #[.int .i64 a0_0, (.slice A0_1 l0_1.length c0_1), (.slice A0_2 l0_2.length c0_2), .int .i64 a0_3, .int .i64 a0_4, .int .i64 a0_5, .int .i64 a0_6] 27 (0, 0))) ∧ Aside0 (Below w.heap.size w w'))
  case atStart => exact ⟨(0), (by first | rfl | (simp; done) | (simp [*]; done)), H', ⟨Nat.le_refl _⟩, ⟨by (with_reducible repeat (first | apply Kd.R_alloc | apply Kd.R_drewN | apply Kd.R_drew)); exact HO253.out⟩, ⟨by (with_reducible repeat (first | refine blk_drewN ?_ _ | refine blk_drew ?_ | refine blk_alloc ?_ _)); exact BK249.out⟩, ⟨by with_reducible repeat (first | exact HB.out | apply below_alloc | apply pw_below_drewN | apply below_drew1 | refine below_set ?_ GE249.out)⟩⟩
  case round =>
   clear H'
   try clear p2
   try clear c5
   try clear c8
   try clear hcz10_0
   try clear hcz10_1
   try clear hcz10_2
   try clear hcz10_3
   try clear hcz10_4
   try clear hcz10_5
   try clear hcz10_6
   try clear hcz8_0
   try clear hcz8_1
   try clear hcz8_2
   try clear hcz8_3
   try clear hcz8_4
   try clear hcz8_5
   try clear hcz8_6
   try clear hfz10_0
   try clear hfz10_1
   try clear hfz10_2
   try clear hfz10_3
   try clear hfz10_4
   try clear hfz10_5
   try clear hfz10_6
   try clear hfz8_0
   try clear hfz8_1
   try clear hfz8_2
   try clear hfz8_3
   try clear hfz8_4
   try clear hfz8_5
   try clear hfz8_6
   obtain ⟨x17_1, rfl, HA, HK1, HO_15, BK249, HB⟩ := hrel
   cases gk with
   | zero => exact absurd HA.out (by simp [impl_PathDelays.l0])
   | succ k1 =>
    have H := HA.out
    clear HA
    simp only [impl_PathDelays.l0] at H
    by_cases c13 : x17_1 < (t251.length : Int)
    ·rw [if_pos c13] at H
     have c13b0 : decide (x17_1 < (t251.length : Int)) = true := decide_eq_true c13
     clear c13
     by_cases c14 : 0 ≤ x17_1
     case neg => rw [if_neg c14] at H; exact absurd H (by simp)
     rw [if_pos c14] at H
     have c14b0 : decide (0 ≤ x17_1) = true := decide_eq_true c14
     clear c14
     by_cases c15 : x17_1 < (t251.length : Int)
     case neg => rw [if_neg c15] at H; exact absurd H (by simp)
     rw [if_pos c15] at H
     have c15b0 : decide (x17_1 < (t251.length : Int)) = true := decide_eq_true c15
     clear c15
     by_cases c16 : ((rd_T54 t251 x17_1).f0) = a1
     ·rw [if_pos c16] at H
      have c16b0 : (((rd_T54 t251 x17_1).f0) == a1) = true := beq_iff_eq.mpr c16
      have c16b1 : (((rd_T54 t251 x17_1).f0) != a1) = false := bne_eq_false_iff_eq.mpr c16
      clear c16
      by_cases c17 : ((rd_T54 t251 x17_1).f1) = a2
      ·rw [if_pos c17] at H
       have c17b0 : (((rd_T54 t251 x17_1).f1) == a2) = true := beq_iff_eq.mpr c17
       have c17b1 : (((rd_T54 t251 x17_1).f1) != a2) = false := bne_eq_false_iff_eq.mpr c17
       clear c17
       simp only [Option.some.injEq, Prod.mk.injEq] at H
       obtain ⟨rfl, rfl, rfl⟩ := H
       have p254 : 0 ≤ (x17_1 : Int) := of_decide_eq_true (by with_reducible assumption)
       have q254 : x17_1 < (t251.length : Int) := of_decide_eq_true (by with_reducible assumption)
       obtain ⟨ad254, e254, hx254_0, hx254_1, hx254_2, hx254_3⟩ := at_T54 (Kd.R_reads' HO_15.out).2.2 x17_1 p254 q254
       cases e254
       replace p254 := eq_true p254
       replace q254 := eq_true q254
       go_wp2_with (first | ((with_reducible refine gate_dst (N := 10) rfl ?_); refine box_event ?hg (N := 10) ?hd (cs := #[.int .i64 0, .int .i64 0, .int .i64 0, .int .i64 0]) (t := 54) ?hr ?_; (case hd => rfl); (case hg => rfl); (case hr => first | (go_simp; done) | (go_simp; rfl)); intro gb255 hg w18 hbox hb; have n0_ := Aside0.mk (Kd.R_below (Kd.R_elderB (by (with_reducible repeat (first | apply Kd.R_alloc | apply Kd.R_drewN | apply Kd.R_drew)); exact HO_15.out) gb255 (Nat.le_of_eq hg.symm)) hb); have n1_ := Aside0.mk (blk_below (g := gb249) (by (with_reducible repeat (first | refine blk_drewN ?_ _ | refine blk_drew ?_ | refine blk_alloc ?_ _)); exact BK249.out) hb); have n2_ := Aside0.mk (below_step (by with_reducible repeat (first | exact HB.out | apply below_alloc | apply pw_below_drewN | apply below_drew1 | refine below_set ?_ GE249.out)) hb); have n3_ := Aside0.mk (hbox); have n4_ := Aside0.mk ((by rw [hg]; exact (below_size (by with_reducible repeat (first | exact HB.out | apply below_alloc | apply pw_below_drewN | apply below_drew1 | refine below_set ?_ GE249.out))) : w.heap.size ≤ gb255)); have n5_ := Aside0.mk ((by rw [hg]; exact (below_size (by with_reducible repeat (first | exact HB.out | apply below_alloc | apply pw_below_drewN | apply below_drew1 | refine below_set ?_ GE249.out))) : w.heap.size ≤ gb255)); have n6_ := Aside0.mk ((by rw [hg]; exact Nat.ne_of_lt (blk_lt (g := gb249) (by (with_reducible repeat (first | refine blk_drewN ?_ _ | refine blk_drew ?_ | refine blk_alloc ?_ _)); exact BK249.out)) : gb249 ≠ gb255)); have n7_ := Aside0.mk ((by rw [hg]; exact Nat.ne_of_gt (blk_lt (g := gb249) (by (with_reducible repeat (first | refine blk_drewN ?_ _ | refine blk_drew ?_ | refine blk_alloc ?_ _)); exact BK249.out)) : gb255 ≠ gb249)); clear HO_15; clear BK249; clear HB; have HO_15 := n0_; have BK249 := n1_; have HB := n2_; have BK255 := n3_; have GW255 := n4_; have GE255 := n5_; have NB249_255 := n6_; have NB255_249 := n7_; clear n0_ n1_ n2_ n3_ n4_ n5_ n6_ n7_; clear hb hbox hg; have hnb19 := NB255_249.out; have hnc19 := NB249_255.out; have hcz20_0 : w18.cell? ⟨gb255, 0, none⟩ = some (.int .i64 0) := (blk_cell BK255.out 0).trans rfl; have hcz20_1 : w18.cell? ⟨gb255, 1, none⟩ = some (.int .i64 0) := (blk_cell BK255.out 1).trans rfl; have hcz20_2 : w18.cell? ⟨gb255, 2, none⟩ = some (.int .i64 0) := (blk_cell BK255.out 2).trans rfl; have hcz20_3 : w18.cell? ⟨gb255, 3, none⟩ = some (.int .i64 0) := (blk_cell BK255.out 3).trans rfl; have hfz20_0 := blk_frozen BK255.out 0; have hfz20_1 := blk_frozen BK255.out 1; have hfz20_2 := blk_frozen BK255.out 2; have hfz20_3 := blk_frozen BK255.out 3))
       repeat (go_quiet (fail); try go_wp2_with (first | ((with_reducible refine gate_dst (N := 10) rfl ?_); refine box_event ?hg (N := 10) ?hd (cs := #[.int .i64 0, .int .i64 0, .int .i64 0, .int .i64 0]) (t := 54) ?hr ?_; (case hd => rfl); (case hg => rfl); (case hr => first | (go_simp; done) | (go_simp; rfl)); intro gb255 hg w18 hbox hb; have n0_ := Aside0.mk (Kd.R_below (Kd.R_elderB (by (with_reducible repeat (first | apply Kd.R_alloc | apply Kd.R_drewN | apply Kd.R_drew)); exact HO_15.out) gb255 (Nat.le_of_eq hg.symm)) hb); have n1_ := Aside0.mk (blk_below (g := gb249) (by (with_reducible repeat (first | refine blk_drewN ?_ _ | refine blk_drew ?_ | refine blk_alloc ?_ _)); exact BK249.out) hb); have n2_ := Aside0.mk (below_step (by with_reducible repeat (first | exact HB.out | apply below_alloc | apply pw_below_drewN | apply below_drew1 | refine below_set ?_ GE249.out)) hb); have n3_ := Aside0.mk (hbox); have n4_ := Aside0.mk ((by rw [hg]; exact (below_size (by with_reducible repeat (first | exact HB.out | apply below_alloc | apply pw_below_drewN | apply below_drew1 | refine below_set ?_ GE249.out))) : w.heap.size ≤ gb255)); have n5_ := Aside0.mk ((by rw [hg]; exact (below_size (by with_reducible repeat (first | exact HB.out | apply below_alloc | apply pw_below_drewN | apply below_drew1 | refine below_set ?_ GE249.out))) : w.heap.size ≤ gb255)); have n6_ := Aside0.mk ((by rw [hg]; exact Nat.ne_of_lt (blk_lt (g := gb249) (by (with_reducible repeat (first | refine blk_drewN ?_ _ | refine blk_drew ?_ | refine blk_alloc ?_ _)); exact BK249.out)) : gb249 ≠ gb255)); have n7_ := Aside0.mk ((by rw [hg]; exact Nat.ne_of_gt (blk_lt (g := gb249) (by (with_reducible repeat (first | refine blk_drewN ?_ _ | refine blk_drew ?_ | refine blk_alloc ?_ _)); exact BK249.out)) : gb255 ≠ gb249)); clear HO_15; clear BK249; clear HB; have HO_15 := n0_; have BK249 := n1_; have HB := n2_; have BK255 := n3_; have GW255 := n4_; have GE255 := n5_; have NB249_255 := n6_; have NB255_249 := n7_; clear n0_ n1_ n2_ n3_ n4_ n5_ n6_ n7_; clear hb hbox hg; have hnb19 := NB255_249.out; have hnc19 := NB249_255.out; have hcz20_0 : w18.cell? ⟨gb255, 0, none⟩ = some (.int .i64 0) := (blk_cell BK255.out 0).trans rfl; have hcz20_1 : w18.cell? ⟨gb255, 1, none⟩ = some (.int .i64 0) := (blk_cell BK255.out 1).trans rfl; have hcz20_2 : w18.cell? ⟨gb255, 2, none⟩ = some (.int .i64 0) := (blk_cell BK255.out 2).trans rfl; have hcz20_3 : w18.cell? ⟨gb255, 3, none⟩ = some (.int .i64 0) := (blk_cell BK255.out 3).trans rfl; have hfz20_0 := blk_frozen BK255.out 0; have hfz20_1 := blk_frozen BK255.out 1; have hfz20_2 := blk_frozen BK255.out 2; have hfz20_3 := blk_frozen BK255.out 3)))
       go_ret3
       exact ⟨by first | rfl | (simp [errW_none, errW_some] <;> rfl) | (simp [*, errW_none, errW_some] <;> rfl), by with_reducible repeat (first | exact HB.out | apply below_alloc | apply pw_below_drewN | apply below_drew1 | refine below_set ?_ GE249.out | refine below_set ?_ GE255.out)⟩
      ·rw [if_neg c17] at H
       have c17b0 : (((rd_T54 t251 x17_1).f1) == a2) = false := beq_eq_false_iff_ne.mpr c17
       have c17b1 : (((rd_T54 t251 x17_1).f1) != a2) = true := bne_iff_ne.mpr c17
       have H' := Aside0.mk H
       clear H
       have p254 : 0 ≤ (x17_1 : Int) := of_decide_eq_true (by with_reducible assumption)
       have q254 : x17_1 < (t251.length : Int) := of_decide_eq_true (by with_reducible assumption)
       obtain ⟨ad254, e254, hx254_0, hx254_1, hx254_2, hx254_3⟩ := at_T54 (Kd.R_reads' HO_15.out).2.2 x17_1 p254 q254
       cases e254
       replace p254 := eq_true p254
       replace q254 := eq_true q254
       go_wp2_with (first | ((with_reducible refine gate_dst (N := 10) rfl ?_); refine box_event ?hg (N := 10) ?hd (cs := #[.int .i64 0, .int .i64 0, .int .i64 0, .int .i64 0]) (t := 54) ?hr ?_; (case hd => rfl); (case hg => rfl); (case hr => first | (go_simp; done) | (go_simp; rfl)); intro gb255 hg w21 hbox hb; have n0_ := Aside0.mk (Kd.R_below (Kd.R_elderB (by (with_reducible repeat (first | apply Kd.R_alloc | apply Kd.R_drewN | apply Kd.R_drew)); exact HO_15.out) gb255 (Nat.le_of_eq hg.symm)) hb); have n1_ := Aside0.mk (blk_below (g := gb249) (by (with_reducible repeat (first | refine blk_drewN ?_ _ | refine blk_drew ?_ | refine blk_alloc ?_ _)); exact BK249.out) hb); have n2_ := Aside0.mk (below_step (by with_reducible repeat (first | exact HB.out | apply below_alloc | apply pw_below_drewN | apply below_drew1 | refine below_set ?_ GE249.out)) hb); have n3_ := Aside0.mk (hbox); have n4_ := Aside0.mk ((by rw [hg]; exact (below_size (by with_reducible repeat (first | exact HB.out | apply below_alloc | apply pw_below_drewN | apply below_drew1 | refine below_set ?_ GE249.out))) : w.heap.size ≤ gb255)); have n5_ := Aside0.mk ((by rw [hg]; exact (below_size (by with_reducible repeat (first | exact HB.out | apply below_alloc | apply pw_below_drewN | apply below_drew1 | refine below_set ?_ GE249.out))) : w.heap.size ≤ gb255)); have n6_ := Aside0.mk ((by rw [hg]; exact Nat.ne_of_lt (blk_lt (g := gb249) (by (with_reducible repeat (first | refine blk_drewN ?_ _ | refine blk_drew ?_ | refine blk_alloc ?_ _)); exact BK249.out)) : gb249 ≠ gb255)); have n7_ := Aside0.mk ((by rw [hg]; exact Nat.ne_of_gt (blk_lt (g := gb249) (by (with_reducible repeat (first | refine blk_drewN ?_ _ | refine blk_drew ?_ | refine blk_alloc ?_ _)); exact BK249.out)) : gb255 ≠ gb249)); clear HO_15; clear BK249; clear HB; have HO_15 := n0_; have BK249 := n1_; have HB := n2_; have BK255 := n3_; have GW255 := n4_; have GE255 := n5_; have NB249_255 := n6_; have NB255_249 := n7_; clear n0_ n1_ n2_ n3_ n4_ n5_ n6_ n7_; clear hb hbox hg; have hnb22 := NB255_249.out; have hnc22 := NB249_255.out; have hcz23_0 : w21.cell? ⟨gb255, 0, none⟩ = some (.int .i64 0) := (blk_cell BK255.out 0).trans rfl; have hcz23_1 : w21.cell? ⟨gb255, 1, none⟩ = some (.int .i64 0) := (blk_cell BK255.out 1).trans rfl; have hcz23_2 : w21.cell? ⟨gb255, 2, none⟩ = some (.int .i64 0) := (blk_cell BK255.out 2).trans rfl; have hcz23_3 : w21.cell? ⟨gb255, 3, none⟩ = some (.int .i64 0) := (blk_cell BK255.out 3).trans rfl; have hfz23_0 := blk_frozen BK255.out 0; have hfz23_1 := blk_frozen BK255.out 1; have hfz23_2 := blk_frozen BK255.out 2; have hfz23_3 := blk_frozen BK255.out 3))
       repeat (go_quiet (fail); try go_wp2_with (first | ((with_reducible refine gate_dst (N := 10) rfl ?_); refine box_event ?hg (N := 10) ?hd (cs := #[.int .i64 0, .int .i64 0, .int .i64 0, .int .i64 0]) (t := 54) ?hr ?_; (case hd => rfl); (case hg => rfl); (case hr => first | (go_simp; done) | (go_simp; rfl)); intro gb255 hg w21 hbox hb; have n0_ := Aside0.mk (Kd.R_below (Kd.R_elderB (by (with_reducible repeat (first | apply Kd.R_alloc | apply Kd.R_drewN | apply Kd.R_drew)); exact HO_15.out) gb255 (Nat.le_of_eq hg.symm)) hb); have n1_ := Aside0.mk (blk_below (g := gb249) (by (with_reducible repeat (first | refine blk_drewN ?_ _ | refine blk_drew ?_ | refine blk_alloc ?_ _)); exact BK249.out) hb); have n2_ := Aside0.mk (below_step (by with_reducible repeat (first | exact HB.out | apply below_alloc | apply pw_below_drewN | apply below_drew1 | refine below_set ?_ GE249.out)) hb); have n3_ := Aside0.mk (hbox); have n4_ := Aside0.mk ((by rw [hg]; exact (below_size (by with_reducible repeat (first | exact HB.out | apply below_alloc | apply pw_below_drewN | apply below_drew1 | refine below_set ?_ GE249.out))) : w.heap.size ≤ gb255)); have n5_ := Aside0.mk ((by rw [hg]; exact (below_size (by with_reducible repeat (first | exact HB.out | apply below_alloc | apply pw_below_drewN | apply below_drew1 | refine below_set ?_ GE249.out))) : w.heap.size ≤ gb255)); have n6_ := Aside0.mk ((by rw [hg]; exact Nat.ne_of_lt (blk_lt (g := gb249) (by (with_reducible repeat (first | refine blk_drewN ?_ _ | refine blk_drew ?_ | refine blk_alloc ?_ _)); exact BK249.out)) : gb249 ≠ gb255)); have n7_ := Aside0.mk ((by rw [hg]; exact Nat.ne_of_gt (blk_lt (g := gb249) (by (with_reducible repeat (first | refine blk_drewN ?_ _ | refine blk_drew ?_ | refine blk_alloc ?_ _)); exact BK249.out)) : gb255 ≠ gb249)); clear HO_15; clear BK249; clear HB; have HO_15 := n0_; have BK249 := n1_; have HB := n2_; have BK255 := n3_; have GW255 := n4_; have GE255 := n5_; have NB249_255 := n6_; have NB255_249 := n7_; clear n0_ n1_ n2_ n3_ n4_ n5_ n6_ n7_; clear hb hbox hg; have hnb22 := NB255_249.out; have hnc22 := NB249_255.out; have hcz23_0 : w21.cell? ⟨gb255, 0, none⟩ = some (.int .i64 0) := (blk_cell BK255.out 0).trans rfl; have hcz23_1 : w21.cell? ⟨gb255, 1, none⟩ = some (.int .i64 0) := (blk_cell BK255.out 1).trans rfl; have hcz23_2 : w21.cell? ⟨gb255, 2, none⟩ = some (.int .i64 0) := (blk_cell BK255.out 2).trans rfl; have hcz23_3 : w21.cell? ⟨gb255, 3, none⟩ = some (.int .i64 0) := (blk_cell BK255.out 3).trans rfl; have hfz23_0 := blk_frozen BK255.out 0; have hfz23_1 := blk_frozen BK255.out 1; have hfz23_2 := blk_frozen BK255.out 2; have hfz23_3 := blk_frozen BK255.out 3)))
       go_roundg k1
       case measure => have := HK1.out; omega
       case rel => exact ⟨(wrap64 (x17_1 + 1)), (by first | rfl | (simp; done) | (simp [*]; done)), H', ⟨by have := HK1.out; omega⟩, ⟨by (with_reducible repeat (first | apply Kd.R_alloc | apply Kd.R_drewN | apply Kd.R_drew)); exact Kd.R_mono (Kd.R_far (p := ⟨gb255, 3, none⟩) (Kd.R_far (p := ⟨gb255, 2, none⟩) (Kd.R_far (p := ⟨gb255, 1, none⟩) (Kd.R_far (p := ⟨gb255, 0, none⟩) (Kd.R_mono HO_15.out (fun k_ hk => (⟨hk, hk.2⟩ : _ ∧ k_ ≠ gb255))) (fun _ hk => hk.2) (.int .i64 ((rd_T54 t251 x17_1).f0))) (fun _ hk => hk.2) (.int .i64 ((rd_T54 t251 x17_1).f1))) (fun _ hk => hk.2) (.int .i64 ((rd_T54 t251 x17_1).f2))) (fun _ hk => hk.2) (.int .i64 ((rd_T54 t251 x17_1).f3))) (fun _ hk => trivial)⟩, ⟨by (with_reducible repeat (first | refine blk_drewN ?_ _ | refine blk_drew ?_ | refine blk_alloc ?_ _)); refine blk_far ?_ NB249_255.out _; (with_reducible repeat (first | refine blk_drewN ?_ _ | refine blk_drew ?_ | refine blk_alloc ?_ _)); refine blk_far ?_ NB249_255.out _; (with_reducible repeat (first | refine blk_drewN ?_ _ | refine blk_drew ?_ | refine blk_alloc ?_ _)); refine blk_far ?_ NB249_255.out _; (with_reducible repeat (first | refine blk_drewN ?_ _ | refine blk_drew ?_ | refine blk_alloc ?_ _)); refine blk_far ?_ NB249_255.out _; (with_reducible repeat (first | refine blk_drewN ?_ _ | refine blk_drew ?_ | refine blk_alloc ?_ _)); exact BK249.out⟩, ⟨by with_reducible repeat (first | exact HB.out | apply below_alloc | apply pw_below_drewN | apply below_drew1 | refine below_set ?_ GE249.out | refine below_set ?_ GE255.out)⟩⟩
     ·rw [if_neg c16] at H
      have c16b0 : (((rd_T54 t251 x17_1).f0) == a1) = false := beq_eq_false_iff_ne.mpr c16
      have c16b1 : (((rd_T54 t251 x17_1).f0) != a1) = true := bne_iff_ne.mpr c16
      have H' := Aside0.mk H
      clear H
      have p254 : 0 ≤ (x17_1 : Int) := of_decide_eq_true (by with_reducible assumption)
      have q254 : x17_1 < (t251.length : Int) := of_decide_eq_true (by with_reducible assumption)
      obtain ⟨ad254, e254, hx254_0, hx254_1, hx254_2, hx254_3⟩ := at_T54 (Kd.R_reads' HO_15.out).2.2 x17_1 p254 q254
      cases e254
      replace p254 := eq_true p254
      replace q254 := eq_true q254
      go_wp2_with (first | ((with_reducible refine gate_dst (N := 10) rfl ?_); refine box_event ?hg (N := 10) ?hd (cs := #[.int .i64 0, .int .i64 0, .int .i64 0, .int .i64 0]) (t := 54) ?hr ?_; (case hd => rfl); (case hg => rfl); (case hr => first | (go_simp; done) | (go_simp; rfl)); intro gb255 hg w24 hbox hb; have n0_ := Aside0.mk (Kd.R_below (Kd.R_elderB (by (with_reducible repeat (first | apply Kd.R_alloc | apply Kd.R_drewN | apply Kd.R_drew)); exact HO_15.out) gb255 (Nat.le_of_eq hg.symm)) hb); have n1_ := Aside0.mk (blk_below (g := gb249) (by (with_reducible repeat (first | refine blk_drewN ?_ _ | refine blk_drew ?_ | refine blk_alloc ?_ _)); exact BK249.out) hb); have n2_ := Aside0.mk (below_step (by with_reducible repeat (first | exact HB.out | apply below_alloc | apply pw_below_drewN | apply below_drew1 | refine below_set ?_ GE249.out)) hb); have n3_ := Aside0.mk (hbox); have n4_ := Aside0.mk ((by rw [hg]; exact (below_size (by with_reducible repeat (first | exact HB.out | apply below_alloc | apply pw_below_drewN | apply below_drew1 | refine below_set ?_ GE249.out))) : w.heap.size ≤ gb255)); have n5_ := Aside0.mk ((by rw [hg]; exact (below_size (by with_reducible repeat (first | exact HB.out | apply below_alloc | apply pw_below_drewN | apply below_drew1 | refine below_set ?_ GE249.out))) : w.heap.size ≤ gb255)); have n6_ := Aside0.mk ((by rw [hg]; exact Nat.ne_of_lt (blk_lt (g := gb249) (by (with_reducible repeat (first | refine blk_drewN ?_ _ | refine blk_drew ?_ | refine blk_alloc ?_ _)); exact BK249.out)) : gb249 ≠ gb255)); have n7_ := Aside0.mk ((by rw [hg]; exact Nat.ne_of_gt (blk_lt (g := gb249) (by (with_reducible repeat (first | refine blk_drewN ?_ _ | refine blk_drew ?_ | refine blk_alloc ?_ _)); exact BK249.out)) : gb255 ≠ gb249)); clear HO_15; clear BK249; clear HB; have HO_15 := n0_; have BK249 := n1_; have HB := n2_; have BK255 := n3_; have GW255 := n4_; have GE255 := n5_; have NB249_255 := n6_; have NB255_249 := n7_; clear n0_ n1_ n2_ n3_ n4_ n5_ n6_ n7_; clear hb hbox hg; have hnb25 := NB255_249.out; have hnc25 := NB249_255.out; have hcz26_0 : w24.cell? ⟨gb255, 0, none⟩ = some (.int .i64 0) := (blk_cell BK255.out 0).trans rfl; have hcz26_1 : w24.cell? ⟨gb255, 1, none⟩ = some (.int .i64 0) := (blk_cell BK255.out 1).trans rfl; have hcz26_2 : w24.cell? ⟨gb255, 2, none⟩ = some (.int .i64 0) := (blk_cell BK255.out 2).trans rfl; have hcz26_3 : w24.cell? ⟨gb255, 3, none⟩ = some (.int .i64 0) := (blk_cell BK255.out 3).trans rfl; have hfz26_0 := blk_frozen BK255.out 0; have hfz26_1 := blk_frozen BK255.out 1; have hfz26_2 := blk_frozen BK255.out 2; have hfz26_3 := blk_frozen BK255.out 3))
      repeat (go_quiet (fail); try go_wp2_with (first | ((with_reducible refine gate_dst (N := 10) rfl ?_); refine box_event ?hg (N := 10) ?hd (cs := #[.int .i64 0, .int .i64 0, .int .i64 0, .int .i64 0]) (t := 54) ?hr ?_; (case hd => rfl); (case hg => rfl); (case hr => first | (go_simp; done) | (go_simp; rfl)); intro gb255 hg w24 hbox hb; have n0_ := Aside0.mk (Kd.R_below (Kd.R_elderB (by (with_reducible repeat (first | apply Kd.R_alloc | apply Kd.R_drewN | apply Kd.R_drew)); exact HO_15.out) gb255 (Nat.le_of_eq hg.symm)) hb); have n1_ := Aside0.mk (blk_below (g := gb249) (by (with_reducible repeat (first | refine blk_drewN ?_ _ | refine blk_drew ?_ | refine blk_alloc ?_ _)); exact BK249.out) hb); have n2_ := Aside0.mk (below_step (by with_reducible repeat (first | exact HB.out | apply below_alloc | apply pw_below_drewN | apply below_drew1 | refine below_set ?_ GE249.out)) hb); have n3_ := Aside0.mk (hbox); have n4_ := Aside0.mk ((by rw [hg]; exact (below_size (by with_reducible repeat (first | exact HB.out | apply below_alloc | apply pw_below_drewN | apply below_drew1 | refine below_set ?_ GE249.out))) : w.heap.size ≤ gb255)); have n5_ := Aside0.mk ((by rw [hg]; exact (below_size (by with_reducible repeat (first | exact HB.out | apply below_alloc | apply pw_below_drewN | apply below_drew1 | refine below_set ?_ GE249.out))) : w.heap.size ≤ gb255)); have n6_ := Aside0.mk ((by rw [hg]; exact Nat.ne_of_lt (blk_lt (g := gb249) (by (with_reducible repeat (first | refine blk_drewN ?_ _ | refine blk_drew ?_ | refine blk_alloc ?_ _)); exact BK249.out)) : gb249 ≠ gb255)); have n7_ := Aside0.mk ((by rw [hg]; exact Nat.ne_of_gt (blk_lt (g := gb249) (by (with_reducible repeat (first | refine blk_drewN ?_ _ | refine blk_drew ?_ | refine blk_alloc ?_ _)); exact BK249.out)) : gb255 ≠ gb249)); clear HO_15; clear BK249; clear HB; have HO_15 := n0_; have BK249 := n1_; have HB := n2_; have BK255 := n3_; have GW255 := n4_; have GE255 := n5_; have NB249_255 := n6_; have NB255_249 := n7_; clear n0_ n1_ n2_ n3_ n4_ n5_ n6_ n7_; clear hb hbox hg; have hnb25 := NB255_249.out; have hnc25 := NB249_255.out; have hcz26_0 : w24.cell? ⟨gb255, 0, none⟩ = some (.int .i64 0) := (blk_cell BK255.out 0).trans rfl; have hcz26_1 : w24.cell? ⟨gb255, 1, none⟩ = some (.int .i64 0) := (blk_cell BK255.out 1).trans rfl; have hcz26_2 : w24.cell? ⟨gb255, 2, none⟩ = some (.int .i64 0) := (blk_cell BK255.out 2).trans rfl; have hcz26_3 : w24.cell? ⟨gb255, 3, none⟩ = some (.int .i64 0) := (blk_cell BK255.out 3).trans rfl; have hfz26_0 := blk_frozen BK255.out 0; have hfz26_1 := blk_frozen BK255.out 1; have hfz26_2 := blk_frozen BK255.out 2; have hfz26_3 := blk_frozen BK255.out 3)))
      go_roundg k1
      case measure => have := HK1.out; omega
      case rel => exact ⟨(wrap64 (x17_1 + 1)), (by first | rfl | (simp; done) | (simp [*]; done)), H', ⟨by have := HK1.out; omega⟩, ⟨by (with_reducible repeat (first | apply Kd.R_alloc | apply Kd.R_drewN | apply Kd.R_drew)); exact Kd.R_mono (Kd.R_far (p := ⟨gb255, 3, none⟩) (Kd.R_far (p := ⟨gb255, 2, none⟩) (Kd.R_far (p := ⟨gb255, 1, none⟩) (Kd.R_far (p := ⟨gb255, 0, none⟩) (Kd.R_mono HO_15.out (fun k_ hk => (⟨hk, hk.2⟩ : _ ∧ k_ ≠ gb255))) (fun _ hk => hk.2) (.int .i64 ((rd_T54 t251 x17_1).f0))) (fun _ hk => hk.2) (.int .i64 ((rd_T54 t251 x17_1).f1))) (fun _ hk => hk.2) (.int .i64 ((rd_T54 t251 x17_1).f2))) (fun _ hk => hk.2) (.int .i64 ((rd_T54 t251 x17_1).f3))) (fun _ hk => trivial)⟩, ⟨by (with_reducible repeat (first | refine blk_drewN ?_ _ | refine blk_drew ?_ | refine blk_alloc ?_ _)); refine blk_far ?_ NB249_255.out _; (with_reducible repeat (first | refine blk_drewN ?_ _ | refine blk_drew ?_ | refine blk_alloc ?_ _)); refine blk_far ?_ NB249_255.out _; (with_reducible repeat (first | refine blk_drewN ?_ _ | refine blk_drew ?_ | refine blk_alloc ?_ _)); refine blk_far ?_ NB249_255.out _; (with_reducible repeat (first | refine blk_drewN ?_ _ | refine blk_drew ?_ | refine blk_alloc ?_ _)); refine blk_far ?_ NB249_255.out _; (with_reducible repeat (first | refine blk_drewN ?_ _ | refine blk_drew ?_ | refine blk_alloc ?_ _)); exact BK249.out⟩, ⟨by with_reducible repeat (first | exact HB.out | apply below_alloc | apply pw_below_drewN | apply below_drew1 | refine below_set ?_ GE249.out | refine below_set ?_ GE255.out)⟩⟩
    ·rw [if_neg c13] at H
     have c13b0 : decide (x17_1 < (t251.length : Int)) = false := decide_eq_false c13
     clear c13
     simp only [Option.some.injEq, Prod.mk.injEq] at H
     obtain ⟨rfl, rfl, rfl⟩ := H
     go_wp2
     repeat (go_quiet (fail); try go_wp2)
     go_ret3
     exact ⟨by first | rfl | (simp [errW_none, errW_some] <;> rfl) | (simp [*, errW_none, errW_some] <;> rfl), by with_reducible repeat (first | exact HB.out | apply below_alloc | apply pw_below_drewN | apply below_drew1 | refine below_set ?_ GE249.out)⟩
 ·replace c5 := Bool.eq_false_iff.mpr c5
  subst c5
  rw [if_neg (by decide)] at H
  simp only [Option.some.injEq, Prod.mk.injEq] at H
  obtain ⟨rfl, rfl, rfl⟩ := H
  go_enter Try.func8, Try.ntmps8
  go_wp2_with (first | ((with_reducible refine gate_dst (N := 3) rfl ?_); refine box_event ?hg (N := 3) ?hd (cs := #[.int .i64 a0_0, .slice A0_1 l0_1.length c0_1, .slice A0_2 l0_2.length c0_2, .int .i64 a0_3, .int .i64 a0_4, .int .i64 a0_5, .int .i64 a0_6]) (t := 27) ?hr ?_; (case hd => rfl); (case hg => rfl); (case hr => first | (go_simp; done) | (go_simp; rfl)); intro gb249 hg w27 hbox hb; have n0_ := Aside0.mk (below_step (by with_reducible repeat (first | exact HB.out | apply below_alloc | apply pw_below_drewN | apply below_drew1)) hb); have n1_ := Aside0.mk (hbox); have n2_ := Aside0.mk ((by rw [hg]; exact (below_size (by with_reducible repeat (first | exact HB.out | apply below_alloc | apply pw_below_drewN | apply below_drew1))) : w.heap.size ≤ gb249)); have n3_ := Aside0.mk ((by rw [hg]; exact (below_size (by with_reducible repeat (first | exact HB.out | apply below_alloc | apply pw_below_drewN | apply below_drew1))) : w.heap.size ≤ gb249)); clear HB; have HB := n0_; have BK249 := n1_; have GW249 := n2_; have GE249 := n3_; clear n0_ n1_ n2_ n3_; clear hb hbox hg; have hcz28_0 : w27.cell? ⟨gb249, 0, none⟩ = some (.int .i64 a0_0) := (blk_cell BK249.out 0).trans rfl; have hcz28_1 : w27.cell? ⟨gb249, 1, none⟩ = some (.slice A0_1 l0_1.length c0_1) := (blk_cell BK249.out 1).trans rfl; have hcz28_2 : w27.cell? ⟨gb249, 2, none⟩ = some (.slice A0_2 l0_2.length c0_2) := (blk_cell BK249.out 2).trans rfl; have hcz28_3 : w27.cell? ⟨gb249, 3, none⟩ = some (.int .i64 a0_3) := (blk_cell BK249.out 3).trans rfl; have hcz28_4 : w27.cell? ⟨gb249, 4, none⟩ = some (.int .i64 a0_4) := (blk_cell BK249.out 4).trans rfl; have hcz28_5 : w27.cell? ⟨gb249, 5, none⟩ = some (.int .i64 a0_5) := (blk_cell BK249.out 5).trans rfl; have hcz28_6 : w27.cell? ⟨gb249, 6, none⟩ = some (.int .i64 a0_6) := (blk_cell BK249.out 6).trans rfl; have hfz28_0 := blk_frozen BK249.out 0; have hfz28_1 := blk_frozen BK249.out 1; have hfz28_2 := blk_frozen BK249.out 2; have hfz28_3 := blk_frozen BK249.out 3; have hfz28_4 := blk_frozen BK249.out 4; have hfz28_5 := blk_frozen BK249.out 5; have hfz28_6 := blk_frozen BK249.out 6) | (go_at_call 10; (with_reducible refine (impl_ValidCircuit.calls a0_0 _ _ l0_1 _ _ l0_2 a0_3 a0_4 a0_5 a0_6 false _ ?side1 ?side2 ?side3 ?side4 A4.out).mono ?_); (case side1 => repeat (first | exact (Kd.C_below HR0_1.out HB.out) | (with_reducible refine Kd.C_alloc ?_ _) | (with_reducible refine Kd.C_drewN ?_ _) | (with_reducible refine Kd.C_drew ?_))); (case side2 => exact HC0_1.out); (case side3 => repeat (first | exact (Kd.C_below HR0_2.out HB.out) | (with_reducible refine Kd.C_alloc ?_ _) | (with_reducible refine Kd.C_drewN ?_ _) | (with_reducible refine Kd.C_drew ?_))); (case side4 => exact HC0_2.out); rintro e w29 ⟨rfl, hb⟩; have n0_ := Aside0.mk (blk_below (g := gb249) (by (with_reducible repeat (first | refine blk_drewN ?_ _ | refine blk_drew ?_ | refine blk_alloc ?_ _)); exact BK249.out) hb); have n1_ := Aside0.mk (below_step (by with_reducible repeat (first | exact HB.out | apply below_alloc | apply pw_below_drewN | apply below_drew1 | refine below_set ?_ GE249.out)) hb); clear BK249; clear HB; have BK249 := n0_; have HB := n1_; clear n0_ n1_; (try clear hb); (try clear hb2); (try clear hk); (try clear hi)))
  repeat (go_quiet ((go_at_call 10; (with_reducible refine (impl_ValidCircuit.calls a0_0 _ _ l0_1 _ _ l0_2 a0_3 a0_4 a0_5 a0_6 false _ ?side1 ?side2 ?side3 ?side4 A4.out).mono ?_); (case side1 => repeat (first | exact (Kd.C_below HR0_1.out HB.out) | (with_reducible refine Kd.C_alloc ?_ _) | (with_reducible refine Kd.C_drewN ?_ _) | (with_reducible refine Kd.C_drew ?_))); (case side2 => exact HC0_1.out); (case side3 => repeat (first | exact (Kd.C_below HR0_2.out HB.out) | (with_reducible refine Kd.C_alloc ?_ _) | (with_reducible refine Kd.C_drewN ?_ _) | (with_reducible refine Kd.C_drew ?_))); (case side4 => exact HC0_2.out); rintro e w29 ⟨rfl, hb⟩; have n0_ := Aside0.mk (blk_below (g := gb249) (by (with_reducible repeat (first | refine blk_drewN ?_ _ | refine blk_drew ?_ | refine blk_alloc ?_ _)); exact BK249.out) hb); have n1_ := Aside0.mk (below_step (by with_reducible repeat (first | exact HB.out | apply below_alloc | apply pw_below_drewN | apply below_drew1 | refine below_set ?_ GE249.out)) hb); clear BK249; clear HB; have BK249 := n0_; have HB := n1_; clear n0_ n1_; (try clear hb); (try clear hb2); (try clear hk); (try clear hi))); try go_wp2_with (first | ((with_reducible refine gate_dst (N := 3) rfl ?_); refine box_event ?hg (N := 3) ?hd (cs := #[.int .i64 a0_0, .slice A0_1 l0_1.length c0_1, .slice A0_2 l0_2.length c0_2, .int .i64 a0_3, .int .i64 a0_4, .int .i64 a0_5, .int .i64 a0_6]) (t := 27) ?hr ?_; (case hd => rfl); (case hg => rfl); (case hr => first | (go_simp; done) | (go_simp; rfl)); intro gb249 hg w27 hbox hb; have n0_ := Aside0.mk (below_step (by with_reducible repeat (first | exact HB.out | apply below_alloc | apply pw_below_drewN | apply below_drew1)) hb); have n1_ := Aside0.mk (hbox); have n2_ := Aside0.mk ((by rw [hg]; exact (below_size (by with_reducible repeat (first | exact HB.out | apply below_alloc | apply pw_below_drewN | apply below_drew1))) : w.heap.size ≤ gb249)); have n3_ := Aside0.mk ((by rw [hg]; exact (below_size (by with_reducible repeat (first | exact HB.out | apply below_alloc | apply pw_below_drewN | apply below_drew1))) : w.heap.size ≤ gb249)); clear HB; have HB := n0_; have BK249 := n1_; have GW249 := n2_; have GE249 := n3_; clear n0_ n1_ n2_ n3_; clear hb hbox hg; have hcz28_0 : w27.cell? ⟨gb249, 0, none⟩ = some (.int .i64 a0_0) := (blk_cell BK249.out 0).trans rfl; have hcz28_1 : w27.cell? ⟨gb249, 1, none⟩ = some (.slice A0_1 l0_1.length c0_1) := (blk_cell BK249.out 1).trans rfl; have hcz28_2 : w27.cell? ⟨gb249, 2, none⟩ = some (.slice A0_2 l0_2.length c0_2) := (blk_cell BK249.out 2).trans rfl; have hcz28_3 : w27.cell? ⟨gb249, 3, none⟩ = some (.int .i64 a0_3) := (blk_cell BK249.out 3).trans rfl; have hcz28_4 : w27.cell? ⟨gb249, 4, none⟩ = some (.int .i64 a0_4) := (blk_cell BK249.out 4).trans rfl; have hcz28_5 : w27.cell? ⟨gb249, 5, none⟩ = some (.int .i64 a0_5) := (blk_cell BK249.out 5).trans rfl; have hcz28_6 : w27.cell? ⟨gb249, 6, none⟩ = some (.int .i64 a0_6) := (blk_cell BK249.out 6).trans rfl; have hfz28_0 := blk_frozen BK249.out 0; have hfz28_1 := blk_frozen BK249.out 1; have hfz28_2 := blk_frozen BK249.out 2; have hfz28_3 := blk_frozen BK249.out 3; have hfz28_4 := blk_frozen BK249.out 4; have hfz28_5 := blk_frozen BK249.out 5; have hfz28_6 := blk_frozen BK249.out 6) | (go_at_call 10; (with_reducible refine (impl_ValidCircuit.calls a0_0 _ _ l0_1 _ _ l0_2 a0_3 a0_4 a0_5 a0_6 false _ ?side1 ?side2 ?side3 ?side4 A4.out).mono ?_); (case side1 => repeat (first | exact (Kd.C_below HR0_1.out HB.out) | (with_reducible refine Kd.C_alloc ?_ _) | (with_reducible refine Kd.C_drewN ?_ _) | (with_reducible refine Kd.C_drew ?_))); (case side2 => exact HC0_1.out); (case side3 => repeat (first | exact (Kd.C_below HR0_2.out HB.out) | (with_reducible refine Kd.C_alloc ?_ _) | (with_reducible refine Kd.C_drewN ?_ _) | (with_reducible refine Kd.C_drew ?_))); (case side4 => exact HC0_2.out); rintro e w29 ⟨rfl, hb⟩; have n0_ := Aside0.mk (blk_below (g := gb249) (by (with_reducible repeat (first | refine blk_drewN ?_ _ | refine blk_drew ?_ | refine blk_alloc ?_ _)); exact BK249.out) hb); have n1_ := Aside0.mk (below_step (by with_reducible repeat (first | exact HB.out | apply below_alloc | apply pw_below_drewN | apply below_drew1 | refine below_set ?_ GE249.out)) hb); clear BK249; clear HB; have BK249 := n0_; have HB := n1_; clear n0_ n1_; (try clear hb); (try clear hb2); (try clear hk); (try clear hi))))
  go_ret3
  exact ⟨by first | rfl | (simp [errW_none, errW_some] <;> rfl) | (simp [*, errW_none, errW_some] <;> rfl), by with_reducible repeat (first | exact HB.out | apply below_alloc | apply pw_below_drewN | apply below_drew1 | refine below_set ?_ GE249.out)⟩

end Go.Proofs.Ytbkofbcmhddbfaa.Pa

/- The delays between two registers: the program's and the reference's. -/
namespace Go.Proofs.Ytbkofbcmhddbfaa.Pure
open Go.RowKit Go.Proofs.Ytbkofbcmhddbfaa.Pa Go.Proofs.YtbkofbcmhddbfaaW.PrintWords Go.Proofs.YtbkofbcmhddbfaaW.PrintLast
set_option linter.unusedVariables false
set_option linter.unusedSimpArgs false

def wayR : Way → Int × Int × Bool
 | none => (0, 0, false)
 | some p => (p.1, p.2, true)
/-- What both answer. -/
def pdR (n : Int) (gates : List S36) (data : List Int) (a3 a4 a5 a6 a b : Int) : Int × Int × Bool :=
 if validB n gates data a3 a4 a5 a6 = true ∧ (0 ≤ a ∧ a ≤ n - 1) ∧ (0 ≤ b ∧ b ≤ n - 1) then wayR (pathO n gates data a5 a6 a b) else (0, 0, false)
/-- The first link between two registers. -/
def findL (a b : Int) : List S54 → Int × Int × Bool
 | [] => (0, 0, false)
 | x :: l => if x.f0 = a ∧ x.f1 = b then (x.f2, x.f3, true) else findL a b l
theorem rdL {l : List S54} {i : Nat} (h : i < l.length) : rd_T54 l (i : Int) = l[i] := by
 unfold rd_T54
 rw [List.getD_eq_getElem?_getD, Int.toNat_natCast, List.getElem?_eq_getElem h]
 rfl
theorem find_loop (a b : Int) (ls : List S54) (hl : ls.length ≤ 1000) (d : Nat) : ∀ (k i : Nat), i + d = ls.length → d < k → impl_PathDelays.l0 k a b ls (ls.length : Int) (i : Int) = some (findL a b (ls.drop i)) := by
 induction d with
 | zero =>
  intro k i h hk
  obtain ⟨k, rfl⟩ : ∃ m, k = m + 1 := ⟨k - 1, by omega⟩
  simp only [impl_PathDelays.l0]
  rw [if_neg (by omega), List.drop_of_length_le (by omega)]
  rfl
 | succ d ih =>
  intro k i h hk
  obtain ⟨k, rfl⟩ : ∃ m, k = m + 1 := ⟨k - 1, by omega⟩
  have hi : i < ls.length := by omega
  simp only [impl_PathDelays.l0]
  rw [if_pos (by omega), if_pos (by omega), if_pos (by omega), rdL hi, List.drop_eq_getElem_cons hi, wrap_id (x := (i : Int) + 1) (by omega) (by omega)]
  have := ih k (i + 1) (by omega) (by omega)
  push_cast at this
  rw [this]
  simp only [findL]
  by_cases h1 : ls[i].f0 = a
  ·rw [if_pos h1]
   by_cases h2 : ls[i].f1 = b
   ·rw [if_pos h2, if_pos ⟨h1, h2⟩]
   ·rw [if_neg h2, if_neg (fun h => h2 h.2)]
  ·rw [if_neg h1, if_neg (fun h => h1 h.1)]
theorem find_none (a b : Int) (l : List S54) (h : ∀ x ∈ l, ¬ (x.f0 = a ∧ x.f1 = b)) : findL a b l = (0, 0, false) := by
 induction l with
 | nil => rfl
 | cons x l ih =>
  simp only [findL]
  rw [if_neg (h x (by simp)), ih (fun y hy => h y (by simp [hy]))]
theorem find_some (a b u v : Int) (l : List S54) (h : ∀ x ∈ l, x.f0 = a → x.f1 = b → x.f2 = u ∧ x.f3 = v) (hm : ∃ x ∈ l, x.f0 = a ∧ x.f1 = b) : findL a b l = (u, v, true) := by
 induction l with
 | nil => obtain ⟨x, hx, _⟩ := hm; simp at hx
 | cons x l ih =>
  simp only [findL]
  by_cases h1 : x.f0 = a ∧ x.f1 = b
  ·rw [if_pos h1]
   have := h x (by simp) h1.1 h1.2
   rw [this.1, this.2]
  ·rw [if_neg h1]
   refine ih (fun y hy => h y (by simp [hy])) ?_
   obtain ⟨y, hy, he⟩ := hm
   rcases List.mem_cons.mp hy with rfl | hy
   ·exact absurd he h1
   ·exact ⟨y, hy, he⟩
theorem find_links (P : Int → Int → Way) (n : Nat) (a b : Int) : findL a b (linksOf P n) = if (0 ≤ a ∧ a ≤ (n : Int) - 1) ∧ (0 ≤ b ∧ b ≤ (n : Int) - 1) then wayR (P a b) else (0, 0, false) := by
 by_cases h : (0 ≤ a ∧ a ≤ (n : Int) - 1) ∧ (0 ≤ b ∧ b ≤ (n : Int) - 1)
 ·rw [if_pos h]
  cases hp : P a b with
  | none =>
   refine find_none a b _ fun x hx he => ?_
   have := (linksOf_mem P n x hx).2.2.2.2
   rw [he.1, he.2, hp] at this
   simp at this
  | some p =>
   refine find_some a b p.1 p.2 _ (fun x hx h1 h2 => ?_) ?_
   ·have := (linksOf_mem P n x hx).2.2.2.2
    rw [h1, h2, hp] at this
    simp only [Option.some.injEq] at this
    rw [this]
    exact ⟨rfl, rfl⟩
   ·obtain ⟨i, rfl⟩ : ∃ i : Nat, a = (i : Int) := ⟨a.toNat, by omega⟩
    obtain ⟨j, rfl⟩ : ∃ j : Nat, b = (j : Int) := ⟨b.toNat, by omega⟩
    exact ⟨_, mem_linksOf P n p i j (by omega) (by omega) hp, rfl, rfl⟩
 ·rw [if_neg h]
  refine find_none a b _ fun x hx he => h ?_
  have := linksOf_mem P n x hx
  omega
theorem linksFrom_len (P : Int → Int → Way) (n : Nat) (d : Nat) : ∀ a, (linksFrom P n a d).length ≤ d * n := by
 induction d with
 | zero => intro a; simp [linksFrom]
 | succ d ih =>
  intro a
  have := ih (a + 1)
  have h2 := linksTo_len P (a : Int) n 0
  simp only [linksFrom, List.length_append]
  rw [Nat.succ_mul]
  omega
theorem linksOf_len (P : Int → Int → Way) (n : Nat) (h : n ≤ 6) : (linksOf P n).length ≤ 36 := by
 have := linksFrom_len P n n 0
 have h2 : n * n ≤ 6 * 6 := Nat.mul_le_mul h h
 unfold linksOf
 omega
theorem implPD (n : Int) (gates : List S36) (data : List Int) (a3 a4 a5 a6 a b : Int) (hw : ∀ g ∈ gates, g.f2.length ≤ 1048576) (hd : data.length ≤ 1048576) :
  Ev (fun k => impl_PathDelays.f k n gates data a3 a4 a5 a6 a b) (pdR n gates data a3 a4 a5 a6 a b) := by
 unfold pdR
 cases hv : validB n gates data a3 a4 a5 a6 with
 | false =>
  refine ⟨2500000, fun k hk => ?_⟩
  show impl_PathDelays.f k n gates data a3 a4 a5 a6 a b = _
  unfold impl_PathDelays.f
  rw [valid_tells n gates data a3 a4 a5 a6, hv]
  simp
 | true =>
  have C := circ_of n gates data a3 a4 a5 a6 hw hv
  have R := C.ready hw
  have hn := C.n0
  have hn1 := C.n1
  obtain ⟨K, hK⟩ := links_tells n a3 a4 a5 a6 gates data R
  have hlen := linksOf_len (pathO n gates data a5 a6) n.toNat (by omega)
  refine ⟨K + 2500000, fun k hk => ?_⟩
  have hk2 : impl_Circuit_links.f k n gates data a3 a4 a5 a6 = _ := hK k (by omega)
  show impl_PathDelays.f k n gates data a3 a4 a5 a6 a b = _
  unfold impl_PathDelays.f
  rw [valid_tells n gates data a3 a4 a5 a6, hv]
  simp only [Option.bind_some, if_true]
  rw [hk2]
  simp only [Option.bind_some]
  have hf := find_loop a b (linksOf (pathO n gates data a5 a6) n.toNat) (by omega) _ k 0 (Nat.zero_add _) (by omega)
  rw [show ((0 : Nat) : Int) = 0 from rfl, List.drop_zero, find_links, show ((n.toNat : Nat) : Int) = n by omega] at hf
  rw [hf]
  congr 1
  by_cases h : (0 ≤ a ∧ a ≤ n - 1) ∧ 0 ≤ b ∧ b ≤ n - 1
  ·rw [if_pos h, if_pos ⟨trivial, h.1, h.2⟩]
  ·rw [if_neg h, if_neg (fun x => h x.2)]
end Go.Proofs.Ytbkofbcmhddbfaa.Pure

namespace Go.Proofs.Ytbkofbcmhddbfaa.Pa
open Go.RowKit Go.Proofs.YtbkofbcmhddbfaaW.PrintWords Go.Proofs.YtbkofbcmhddbfaaW.PrintLast Go.Proofs.YtbkofbcmhddbfaaW.PrintMore
attribute [local go_sem] max2_int min2_int max_two min_two max_three min_three max_four min_four   -- for this text's walks alone
set_option linter.unusedVariables false
set_option linter.unusedSimpArgs false

/-! ### bits_Mul64: function 55 -/
def bits_Mul64.f (a0 : Int) (a1 : Int) : Option (Int × Int) := some (IntKind.u64.wrap ((IntKind.u64.wrap ((IntKind.u64.wrap ((a0 / 4294967296) * (a1 / 4294967296))) + ((IntKind.u64.wrap ((IntKind.u64.wrap ((a0 / 4294967296) * (Go.bits .and .u64 a1 4294967295))) + ((IntKind.u64.wrap ((Go.bits .and .u64 a0 4294967295) * (Go.bits .and .u64 a1 4294967295))) / 4294967296))) / 4294967296))) + ((IntKind.u64.wrap ((Go.bits .and .u64 (IntKind.u64.wrap ((IntKind.u64.wrap ((a0 / 4294967296) * (Go.bits .and .u64 a1 4294967295))) + ((IntKind.u64.wrap ((Go.bits .and .u64 a0 4294967295) * (Go.bits .and .u64 a1 4294967295))) / 4294967296))) 4294967295) + (IntKind.u64.wrap ((Go.bits .and .u64 a0 4294967295) * (a1 / 4294967296))))) / 4294967296)), IntKind.u64.wrap (a0 * a1))
set_option maxHeartbeats 8000000 in
set_option maxRecDepth 100000 in
theorem bits_Mul64.calls (a0 : Int) (a1 : Int) (r1 : Int) (r2 : Int) (w : World) (h : bits_Mul64.f a0 a1 = some (r1, r2)) :
  Calls Try.prog 55 #[.int .u64 a0, .int .u64 a1] w fun e w' => e = .returned (.tuple #[.int .u64 r1, .int .u64 r2]) ∧ Drawn0 w w' := by
 have H : (some (IntKind.u64.wrap ((IntKind.u64.wrap ((IntKind.u64.wrap ((a0 / 4294967296) * (a1 / 4294967296))) + ((IntKind.u64.wrap ((IntKind.u64.wrap ((a0 / 4294967296) * (Go.bits .and .u64 a1 4294967295))) + ((IntKind.u64.wrap ((Go.bits .and .u64 a0 4294967295) * (Go.bits .and .u64 a1 4294967295))) / 4294967296))) / 4294967296))) + ((IntKind.u64.wrap ((Go.bits .and .u64 (IntKind.u64.wrap ((IntKind.u64.wrap ((a0 / 4294967296) * (Go.bits .and .u64 a1 4294967295))) + ((IntKind.u64.wrap ((Go.bits .and .u64 a0 4294967295) * (Go.bits .and .u64 a1 4294967295))) / 4294967296))) 4294967295) + (IntKind.u64.wrap ((Go.bits .and .u64 a0 4294967295) * (a1 / 4294967296))))) / 4294967296)), IntKind.u64.wrap (a0 * a1))) = some (r1, r2) := h
 clear h
 simp only [Option.some.injEq, Prod.mk.injEq] at H
 obtain ⟨rfl, rfl⟩ := H
 go_enter Try.func55, Try.ntmps55
 go_wp2
 go_ret2
 exact ⟨by first | rfl | (simp; done) | (simp [*]; done), by repeat (first | exact Drawn0.refl _ | apply Drawn0.step)⟩

end Go.Proofs.Ytbkofbcmhddbfaa.Pa

namespace Go.Proofs.Ytbkofbcmhddbfaa.Pa
open Go.RowKit Go.Proofs.YtbkofbcmhddbfaaW.PrintWords Go.Proofs.YtbkofbcmhddbfaaW.PrintLast Go.Proofs.YtbkofbcmhddbfaaW.PrintMore
attribute [local go_sem] max2_int min2_int max_two min_two max_three min_three max_four min_four   -- for this text's walks alone
set_option linter.unusedVariables false
set_option linter.unusedSimpArgs false

/-! ### bits_Mul: function 44 -/
def bits_Mul.f (a0 : Int) (a1 : Int) : Option (Int × Int) := (bits_Mul64.f a0 a1).bind fun bt256 => (some (bt256.1, bt256.2))
set_option maxHeartbeats 8000000 in
set_option maxRecDepth 100000 in
theorem bits_Mul.calls (a0 : Int) (a1 : Int) (r1 : Int) (r2 : Int) (w : World) (h : bits_Mul.f a0 a1 = some (r1, r2)) :
  Calls Try.prog 44 #[.int .u64 a0, .int .u64 a1] w fun e w' => e = .returned (.tuple #[.int .u64 r1, .int .u64 r2]) ∧ Drawn0 w w' := by
 have H : ((bits_Mul64.f a0 a1).bind fun bt256 => (some (bt256.1, bt256.2))) = some (r1, r2) := h
 clear h
 replace H := Option.bind_eq_some_iff.mp H
 obtain ⟨⟨t256, t257⟩, A30, H⟩ := H
 replace H : (some (t256, t257)) = some (r1, r2) := H
 have A3 := Aside0.mk A30
 clear A30
 simp only [Option.some.injEq, Prod.mk.injEq] at H
 obtain ⟨rfl, rfl⟩ := H
 go_enter Try.func44, Try.ntmps44
 go_wp2_with (first | ((with_reducible refine gate_callee (f := 55) rfl ?_); refine goesL_ (some 25) rfl rfl Try.func55 (by kernel_rfl) rfl #[.int .u64 a0, .int .u64 a1] rfl (by (try simp only [List.map_toArray, List.map_cons, List.map_nil]); first | done | rfl | (simp only [List.length_drop, List.length_take]; rfl)) ?_; (with_reducible refine (bits_Mul64.calls a0 a1 t256 t257 _ A3.out).mono ?_); rintro e w' ⟨rfl, ⟨nd, rfl⟩⟩; refine ⟨_, rfl, ?_⟩))
 go_ret2
 exact ⟨by first | rfl | (simp; done) | (simp [*]; done), by repeat (first | exact Drawn0.refl _ | apply Drawn0.step)⟩

end Go.Proofs.Ytbkofbcmhddbfaa.Pa

namespace Go.Proofs.Ytbkofbcmhddbfaa.Pa
open Go.RowKit Go.Proofs.YtbkofbcmhddbfaaW.PrintWords Go.Proofs.YtbkofbcmhddbfaaW.PrintLast Go.Proofs.YtbkofbcmhddbfaaW.PrintMore
attribute [local go_sem] max2_int min2_int max_two min_two max_three min_three max_four min_four   -- for this text's walks alone
set_option linter.unusedVariables false
set_option linter.unusedSimpArgs false

/-! ### slices_Repeat_int64_int64: function 23 -/
/-- Repeat, of one number, up to 64 times. -/
def slices_Repeat_int64_int64.f (l0 : List Int) (a1 : Int) : Option (List Int) := if l0.length = 1 ∧ 1 ≤ a1 ∧ a1 ≤ 64 then some (List.replicate a1.toNat (rd l0 0)) else none
theorem mul_one (n : Nat) (h : n ≤ 64) : bits_Mul.f 1 (n : Int) = some (0, (n : Int)) := by
 have key : ∀ n : Fin 65, bits_Mul.f 1 ((n.val : Nat) : Int) = some (0, ((n.val : Nat) : Int)) := by decide
 exact key ⟨n, by omega⟩
/-- A row whose first m numbers are v and the others 0. -/
def half (v : Int) (m n : Nat) : List Value := List.replicate m (.int .i64 v) ++ List.replicate (n - m) (.int .i64 0)
theorem half_length (v : Int) (m n : Nat) (h : m ≤ n) : (half v m n).length = n := by simp [half]; omega
theorem half_get (v : Int) (m n j : Nat) (h : j < m) : (half v m n)[j]? = some (.int .i64 v) := by
 unfold half
 rw [List.getElem?_append_left (by simpa using h)]
 simp [h]
theorem half_splice (v : Int) (m n q : Nat) (h : m + q ≤ n) : splice (half v m n) m (List.replicate q (.int .i64 v)) = half v (m + q) n := by
 unfold splice half
 rw [List.take_append_of_le_length (by simp), List.take_of_length_le (by simp), List.length_replicate, List.drop_append, List.drop_of_length_le (by simp), List.nil_append]
 simp only [List.length_replicate, List.drop_replicate, ← List.append_assoc, List.replicate_append_replicate]
 congr 2
 omega
theorem full_block {w : World} {base g e n : Nat} {xs : List Value} (h : w.ownsRow base e 1 (.slice (some ⟨g, 0, none⟩) n n) n xs) : w.heap[g]? = some (.cells xs.toArray e (0, 0)) ∧ base ≤ g := by
 obtain ⟨hl, h | ⟨g', cap, cur, he, hb, hh, h1, h2, hs, ht⟩⟩ := h
 ·exact absurd h.1 (by simp)
 ·simp only [Value.slice.injEq, Option.some.injEq, Addr.mk.injEq] at he
  obtain ⟨⟨rfl, _⟩, _, rfl⟩ := he
  refine ⟨?_, hb⟩
  rw [hh]
  have : cur.toList = xs := by rw [← ht, List.take_of_length_le (by simp; omega)]
  rw [← this]
theorem below_of_grown_none {w w1 : World} {nd : Nat} (h : (w.drewN nd).grownBy w1 none) : Below w.heap.size w w1 := ⟨h.os, h.tape, h.output, h.size, fun k hk => h.block k hk (by simp)⟩
theorem made_zeros (n : Nat) : (madeCells (Value.int IntKind.i64 0).cells (n * 1)).toList = half 0 0 n := by
 apply List.ext_getElem
 ·simp [madeCells, half]
 ·intro i h1 h2
  simp [madeCells, half, Value.cells, Nat.mod_one]
theorem half_zero (v : Int) (n : Nat) : half v 0 n = half 0 0 n := by simp [half]
theorem splice_first (v : Int) (n : Nat) (h : 1 ≤ n) : splice (half 0 0 n) 0 [.int .i64 v] = half v 1 n := by
 have := half_splice v 0 n 1 (by omega)
 rw [half_zero] at this
 simpa using this
set_option maxHeartbeats 4000000 in
set_option maxRecDepth 100000 in
theorem Repeat_walk (A0 : Option Addr) (c0 : Nat) (v : Int) (n : Nat) (w : World) (hr0 : ∃ ad, A0 = some ad ∧ w.cell? ad = some (.int .i64 v)) (h1 : 1 ≤ n) (h2 : n ≤ 64) :
  Calls Try.prog 23 #[.slice A0 1 c0, .int .i64 (n : Int)] w fun e w' => ∃ g, e = .returned (.slice (some ⟨g, 0, none⟩) n n) ∧ w.heap.size ≤ g ∧ w'.heap[g]? = some (.cells (half v n n).toArray 2 (0, 0)) ∧ Below w.heap.size w w' := by
 obtain ⟨ad, rfl, hcell⟩ := hr0
 have HCell := Aside0.mk hcell
 clear hcell
 have HM := Aside0.mk (mul_one n h2)
 have HS1 : Aside0 ([Value.int .i64 v].length = Nat.min 1 n) := ⟨(Nat.min_eq_left h1).symm⟩
 have HS2 : Aside0 (0 + [Value.int .i64 v].length ≤ (half 0 0 n).length) := ⟨by rw [half_length _ _ _ (by omega)]; simpa using h1⟩
 have HS3 : Aside0 (∀ u ∈ [Value.int .i64 v], u.oneCell' = true) := ⟨by intro u hu; rw [List.mem_singleton.1 hu]; rfl⟩
 have HS4 : Aside0 ((Try.prog.info? 2).map (·.size) = some 1) := ⟨by kernel_rfl⟩
 have HS5 : Aside0 (∀ W : World, Below w.heap.size w W → ∀ j u, [Value.int .i64 v][j]? = some u → W.cell? (ad.add j) = some u) := ⟨by
  intro W hW j u hu
  cases j with
  | zero =>
   simp only [List.getElem?_cons_zero, Option.some.injEq] at hu
   subst hu
   rw [Addr.add_zero']
   exact pw_cell_below hW HCell.out
  | succ j => simp at hu⟩
 obtain ⟨i0, hi0, hi1⟩ := Option.map_eq_some_iff.1 info2
 simp only [Prod.mk.injEq] at hi1
 obtain ⟨hz0, hz1, hz2⟩ := hi1
 have HI := Aside0.mk (And.intro hi0 (And.intro hz0 (And.intro hz1 hz2)))
 clear hi0 hz0 hz1 hz2
 have d0 : decide ((n : Int) < 0) = false := decide_eq_false (by omega)
 have d1 : decide ((9223372036854775807 : Int) < (n : Int)) = false := decide_eq_false (by omega)
 go_enter Try.func23, Try.ntmps23
 go_wp2_with (first | (go_at_call 44; refine (bits_Mul.calls 1 (n : Int) 0 (n : Int) _ HM.out).mono ?_; rintro e w' ⟨rfl, ⟨nd, rfl⟩⟩) | ((with_reducible refine gate_dst (N := 30) rfl ?_); refine wpList_make_full _ rfl (.tmp 29) (.tmp 29) 25 rfl w.heap.size 2 i0 (.int .i64 0) 1 Try.underlying25 HI.out.1 HI.out.2.1 HI.out.2.2.1 _ _ _ _ n rfl rfl rfl rfl (by rw [HI.out.2.2.2]; omega) (by unfold maxLen; omega) (by simp) ?_; intro w5 hown5 hgr5; rw [made_zeros] at hown5; have HF5 := Aside0.mk (full_block hown5); have HB5 := Aside0.mk (below_of_grown_none (nd := nd) hgr5); clear hown5 hgr5; generalize (w.drewN nd).heap.size = g at HF5 ⊢) | (refine wpList_copy_splice rfl (.tmp 31) (.tmp 32) 25 25 rfl 2 Try.underlying25 HS4.out (some ⟨g, 0, none⟩) (some ad) n n 1 c0 rfl rfl g 0 (half 0 0 n) 2 HF5.out.1 [.int .i64 v] HS1.out (fun _ => ⟨rfl, ad, rfl, HS5.out _ HB5.out⟩) HS2.out HS3.out w.heap.size w HB5.out HF5.out.2 ?_; intro w6 hg6 hb6; have HG6 : Aside0 (w6.heap[g]? = some (.cells (half v 1 n).toArray 2 (0, 0))) := ⟨by rw [← splice_first v n h1]; exact hg6⟩; have HB6 := Aside0.mk hb6; have HGE := Aside0.mk HF5.out.2; clear hg6 hb6 HF5 HB5))
 go_loopg [8] n (fun gg s8 wr => ∃ m : Nat, s8 = .int .i64 (m : Int) ∧ Aside0 (1 ≤ m ∧ m ≤ n ∧ n - m ≤ gg) ∧ Aside0 (wr.heap[g]? = some (.cells (half v m n).toArray 2 (0, 0))) ∧ Aside0 (Below w.heap.size w wr))
 case atStart => exact ⟨1, rfl, ⟨by omega⟩, HG6, HB6⟩
 case round =>
  obtain ⟨m, rfl, HX, HG, HB⟩ := hrel
  by_cases hlt : m < n
  ·have t1 : decide ((m : Int) < (n : Int)) = true := decide_eq_true (by omega)
   have t2 : decide (m < n) = true := decide_eq_true hlt
   have hx := HX.out
   obtain ⟨q, hq⟩ : ∃ q, q = Nat.min m (n - m) := ⟨_, rfl⟩
   have hq1 : q ≤ m := by rw [hq]; exact Nat.min_le_left _ _
   have hq2 : q ≤ n - m := by rw [hq]; exact Nat.min_le_right _ _
   have hq3 : 1 ≤ q := by rw [hq]; exact (Nat.le_min.2 ⟨hx.1, by omega⟩)
   have HQ1 : Aside0 ((List.replicate q (Value.int .i64 v)).length = Nat.min m (n - m)) := ⟨by rw [List.length_replicate, hq]⟩
   have HQ2 : Aside0 (m + (List.replicate q (Value.int .i64 v)).length ≤ (half v m n).length) := ⟨by rw [List.length_replicate, half_length _ _ _ (by omega)]; omega⟩
   have HQ3 : Aside0 (∀ u ∈ List.replicate q (Value.int .i64 v), u.oneCell' = true) := ⟨by intro u hu; rw [(List.mem_replicate.1 hu).2]; rfl⟩
   have HQ4 : Aside0 (∀ j u, (List.replicate q (Value.int .i64 v))[j]? = some u → wr.drew.cell? ((⟨g, 0, none⟩ : Addr).add j) = some u) := ⟨by
    intro j u hu
    have hj : j < q := by simpa using (List.getElem?_eq_some_iff.1 hu).1
    have hu2 : u = .int .i64 v := by
     have := (List.getElem?_eq_some_iff.1 hu).2
     simpa using this.symm
    subst hu2
    have hc := (blk_cell HG.out j).trans (by simpa using half_get v m n j (by omega))
    rw [Addr.add_lit, Nat.zero_add]
    exact hc⟩
   have HQ5 : Aside0 (1 ≤ q ∧ q ≤ n - m) := ⟨⟨hq3, hq2⟩⟩
   have hwr : IntKind.i64.wrap ((m : Int) + (q : Int)) = (m : Int) + (q : Int) := IntWalk.i64_in _ ⟨by omega, by omega⟩
   have p0 : (0 : Int) ≤ (m : Int) := by omega
   have p1 : (m : Int) ≤ (n : Int) := by omega
   clear hx hq hq1 hq2 hq3
   go_wp2
   go_region_law (refine step_copy_splice rfl (.tmp 41) (.tmp 44) 25 25 rfl 2 Try.underlying25 HS4.out (some ⟨g, m, none⟩) (some ⟨g, 0, none⟩) (n - m) (n - m) m n (by simp [Act.eval, Act.put]; omega) (by simp [Act.eval, Act.put]) g m (half v m n) 2 HG.out (List.replicate q (.int .i64 v)) HQ1.out (fun _ => ⟨rfl, ⟨g, 0, none⟩, rfl, HQ4.out⟩) HQ2.out HQ3.out w.heap.size w (below_drew HB.out) HGE.out ?_; intro w6 hg6 hb6)
   have HG6 : Aside0 (w6.heap[g]? = some (.cells (half v (m + q) n).toArray 2 (0, 0))) := ⟨by have hh := HQ5.out; rw [← half_splice v m n q (by omega)]; exact hg6⟩
   have HB6 := Aside0.mk hb6
   clear hg6 hb6
   go_wp2
   have hh := HQ5.out
   have hx := HX.out
   go_roundg (n - (m + q))
   case measure => omega
   case rel => exact ⟨m + q, by go_num, ⟨by omega⟩, HG6, HB6⟩
  ·have t1 : decide ((m : Int) < (n : Int)) = false := decide_eq_false (by omega)
   have t2 : decide (m < n) = false := decide_eq_false hlt
   go_wp2
   go_ret
   have hx := HX.out
   obtain rfl : m = n := by omega
   exact ⟨g, rfl, HGE.out, HG.out, HB.out⟩
theorem slices_Repeat_int64_int64.calls (A0 : Option Addr) (c0 : Nat) (l0 : List Int) (a1 : Int) (r : List Int) (w : World) (hr0 : Kd.C (Kd.int .i64) w A0 l0.length l0) (hc0 : l0.length ≤ c0) (h : slices_Repeat_int64_int64.f l0 a1 = some r) :
  Calls Try.prog 23 #[.slice A0 l0.length c0, .int .i64 a1] w fun e w' => ∃ v0_ : Value, e = .returned v0_ ∧ Kd.R (Kd.int .i64) 2 w' w.heap.size (fun _ => True) v0_ r ∧ Below w.heap.size w w' := by
 unfold slices_Repeat_int64_int64.f at h
 by_cases hc : l0.length = 1 ∧ 1 ≤ a1 ∧ a1 ≤ 64
 ·rw [if_pos hc] at h
  obtain rfl := Option.some.inj h
  obtain ⟨hl, ha, hb⟩ := hc
  obtain ⟨ad, e, e0⟩ := Kd.at_int hr0 0 (by omega) (by omega)
  obtain ⟨n, rfl⟩ := Int.eq_ofNat_of_zero_le (show 0 ≤ a1 by omega)
  obtain ⟨_, c, he, _⟩ : ∃ (_ : Nat) (c : Nat), c = c0 ∧ c ≤ c0 := ⟨0, c0, rfl, Nat.le_refl _⟩
  rw [hl]
  refine (Repeat_walk A0 c0 (rd l0 0) n w ⟨ad, e, by simpa [Addr.add_zero'] using e0⟩ (by omega) (by omega)).mono fun e w' ⟨g, he, hg, hh, hb'⟩ => ?_
  refine ⟨_, he, ?_, hb'⟩
  have hown : w'.ownsRow w.heap.size 2 1 (.slice (some ⟨g, 0, none⟩) n n) (List.replicate (n : Int).toNat (rd l0 0)).length (encs (Value.int .i64) (List.replicate (n : Int).toNat (rd l0 0))) :=
   ⟨by simp [encs], .inr ⟨g, n, _, by simp, hg, hh, by simp, by unfold maxLen; omega, by simp [half], by simp [encs, half]⟩⟩
  exact Kd.R_of_own (enc := Value.int .i64) (h1 := fun _ => rfl) hown (fun _ _ => trivial)
 ·rw [if_neg hc] at h
  cases h

end Go.Proofs.Ytbkofbcmhddbfaa.Pa

namespace Go.Proofs.Ytbkofbcmhddbfaa.Pa
open Go.RowKit Go.Proofs.YtbkofbcmhddbfaaW.PrintWords Go.Proofs.YtbkofbcmhddbfaaW.PrintLast Go.Proofs.YtbkofbcmhddbfaaW.PrintMore
attribute [local go_sem] max2_int min2_int max_two min_two max_three min_three max_four min_four   -- for this text's walks alone
set_option linter.unusedVariables false
set_option linter.unusedSimpArgs false

/-! ### slices_Index_int64_int64: function 46 -/
def slices_Index_int64_int64.l0 : Nat → List Int → Int → Int → Int → Option (Int)
 | 0, _, _, _, _ => none
 | k + 1, x0, x1, x7, x8 => if x8 < x7 then (if 0 ≤ x8 then (if x8 < (x0.length : Int) then (if x1 = (rd x0 x8) then (some x8) else (slices_Index_int64_int64.l0 k x0 x1 x7 (wrap64 (x8 + 1)))) else (none)) else (none)) else (some (-1))
def slices_Index_int64_int64.f (k : Nat) (l0 : List Int) (a1 : Int) : Option (Int) := slices_Index_int64_int64.l0 k l0 a1 (l0.length : Int) 0
set_option maxHeartbeats 8000000 in
set_option maxRecDepth 100000 in
theorem slices_Index_int64_int64.calls (k : Nat) (A0 : Option Addr) (c0 : Nat) (l0 : List Int) (a1 : Int) (r : Int) (w : World) (hr0 : Kd.C (Kd.int .i64) w A0 l0.length l0) (hc0 : l0.length ≤ c0) (h : slices_Index_int64_int64.f k l0 a1 = some r) :
  Calls Try.prog 46 #[.slice A0 l0.length c0, .int .i64 a1] w fun e w' => e = .returned (.int .i64 r) ∧ Drawn0 w w' := by
 have HR0 := Aside0.mk hr0
 have HC0 := Aside0.mk hc0
 clear hr0 hc0
 have H : (slices_Index_int64_int64.l0 k l0 a1 (l0.length : Int) 0) = some r := h
 clear h
 have H' := Aside0.mk H
 clear H
 go_enter Try.func46, Try.ntmps46
 go_wp2
 go_loopg [8] k (fun kq v8 w' => ∃ (x8_1 : Int), v8 = .int .i64 x8_1 ∧ Aside0 (slices_Index_int64_int64.l0 kq l0 a1 (l0.length : Int) x8_1 = some r) ∧ Aside0 (kq ≤ k) ∧ Drawn0 w w')
 case atStart => exact ⟨(0), (by first | rfl | (simp; done) | (simp [*]; done)), H', ⟨Nat.le_refl _⟩, by repeat (first | exact Drawn0.refl _ | apply Drawn0.step)⟩
 case round =>
  clear H'
  try clear p2
  obtain ⟨x8_1, rfl, HA, HK1, ⟨m1, rfl⟩⟩ := hrel
  cases gk with
  | zero => exact absurd HA.out (by simp [slices_Index_int64_int64.l0])
  | succ k1 =>
   have H := HA.out
   clear HA
   simp only [slices_Index_int64_int64.l0] at H
   by_cases c3 : x8_1 < (l0.length : Int)
   ·rw [if_pos c3] at H
    have c3b0 : decide (x8_1 < (l0.length : Int)) = true := decide_eq_true c3
    clear c3
    by_cases c4 : 0 ≤ x8_1
    ·rw [if_pos c4] at H
     have c4b0 : decide (0 ≤ x8_1) = true := decide_eq_true c4
     clear c4
     by_cases c5 : x8_1 < (l0.length : Int)
     ·rw [if_pos c5] at H
      have c5b0 : decide (x8_1 < (l0.length : Int)) = true := decide_eq_true c5
      clear c5
      by_cases c6 : a1 = (rd l0 x8_1)
      ·rw [if_pos c6] at H
       have c6b0 : (a1 == (rd l0 x8_1)) = true := beq_iff_eq.mpr c6
       have c6b1 : (a1 != (rd l0 x8_1)) = false := bne_eq_false_iff_eq.mpr c6
       clear c6
       obtain rfl := Option.some.inj H
       have p258 : 0 ≤ (x8_1 : Int) := of_decide_eq_true (by with_reducible assumption)
       have q258 : x8_1 < (l0.length : Int) := of_decide_eq_true (by with_reducible assumption)
       obtain ⟨ad258, e258, hx258_0⟩ := Kd.at_int HR0.out x8_1 p258 q258
       cases e258
       replace p258 := eq_true p258
       replace q258 := eq_true q258
       go_wp2
       go_ret
       exact ⟨by first | rfl | (simp; done) | (simp [*]; done), by repeat (first | exact Drawn0.refl _ | apply Drawn0.step)⟩
      ·rw [if_neg c6] at H
       have c6b0 : (a1 == (rd l0 x8_1)) = false := beq_eq_false_iff_ne.mpr c6
       have c6b1 : (a1 != (rd l0 x8_1)) = true := bne_iff_ne.mpr c6
       have H' := Aside0.mk H
       clear H
       have p258 : 0 ≤ (x8_1 : Int) := of_decide_eq_true (by with_reducible assumption)
       have q258 : x8_1 < (l0.length : Int) := of_decide_eq_true (by with_reducible assumption)
       obtain ⟨ad258, e258, hx258_0⟩ := Kd.at_int HR0.out x8_1 p258 q258
       cases e258
       replace p258 := eq_true p258
       replace q258 := eq_true q258
       go_wp2
       go_roundg k1
       case measure => have := HK1.out; omega
       case rel => exact ⟨(wrap64 (x8_1 + 1)), (by first | rfl | (simp; done) | (simp [*]; done)), H', ⟨by have := HK1.out; omega⟩, by repeat (first | exact Drawn0.refl _ | apply Drawn0.step)⟩
     ·rw [if_neg c5] at H
      exact absurd H (by simp)
    ·rw [if_neg c4] at H
     exact absurd H (by simp)
   ·rw [if_neg c3] at H
    have c3b0 : decide (x8_1 < (l0.length : Int)) = false := decide_eq_false c3
    clear c3
    obtain rfl := Option.some.inj H
    go_wp2
    go_ret
    exact ⟨by first | rfl | (simp; done) | (simp [*]; done), by repeat (first | exact Drawn0.refl _ | apply Drawn0.step)⟩

end Go.Proofs.Ytbkofbcmhddbfaa.Pa

namespace Go.Proofs.Ytbkofbcmhddbfaa.Pa
open Go.RowKit Go.Proofs.YtbkofbcmhddbfaaW.PrintWords Go.Proofs.YtbkofbcmhddbfaaW.PrintLast Go.Proofs.YtbkofbcmhddbfaaW.PrintMore
attribute [local go_sem] max2_int min2_int max_two min_two max_three min_three max_four min_four   -- for this text's walks alone
set_option linter.unusedVariables false
set_option linter.unusedSimpArgs false

/-! ### slices_Contains_int64_int64: function 26 -/
def slices_Contains_int64_int64.f (k : Nat) (l0 : List Int) (a1 : Int) : Option (Bool) := (slices_Index_int64_int64.f k l0 a1).bind fun t259 => (some (decide (t259 ≥ 0)))
set_option maxHeartbeats 8000000 in
set_option maxRecDepth 100000 in
theorem slices_Contains_int64_int64.calls (k : Nat) (A0 : Option Addr) (c0 : Nat) (l0 : List Int) (a1 : Int) (r : Bool) (w : World) (hr0 : Kd.C (Kd.int .i64) w A0 l0.length l0) (hc0 : l0.length ≤ c0) (h : slices_Contains_int64_int64.f k l0 a1 = some r) :
  Calls Try.prog 26 #[.slice A0 l0.length c0, .int .i64 a1] w fun e w' => e = .returned (.bool r) ∧ Drawn0 w w' := by
 have HR0 := Aside0.mk hr0
 have HC0 := Aside0.mk hc0
 clear hr0 hc0
 have H : ((slices_Index_int64_int64.f k l0 a1).bind fun t259 => (some (decide (t259 ≥ 0)))) = some r := h
 clear h
 replace H := Option.bind_eq_some_iff.mp H
 obtain ⟨t259, A30, H⟩ := H
 replace H : (some (decide (t259 ≥ 0))) = some r := H
 have A3 := Aside0.mk A30
 clear A30
 obtain rfl := Option.some.inj H
 go_enter Try.func26, Try.ntmps26
 go_wp2_with (first | ((with_reducible refine gate_callee (f := 46) rfl ?_); refine goesL_ (some 7) rfl rfl Try.func46 (by kernel_rfl) rfl #[.slice A0 l0.length c0, .int .i64 a1] rfl (by (try simp only [List.map_toArray, List.map_cons, List.map_nil]); first | done | rfl | (simp only [List.length_drop, List.length_take]; rfl)) ?_; (with_reducible refine (slices_Index_int64_int64.calls k _ _ l0 a1 t259 _ ?side1 ?side2 A3.out).mono ?_); (case side1 => repeat (first | exact HR0.out | (with_reducible refine Kd.C_alloc ?_ _) | (with_reducible refine Kd.C_drewN ?_ _) | (with_reducible refine Kd.C_drew ?_))); (case side2 => exact HC0.out); rintro e w' ⟨rfl, ⟨nd, rfl⟩⟩; refine ⟨_, rfl, ?_⟩))
 go_ret
 exact ⟨by first | rfl | (simp; done) | (simp [*]; done), by repeat (first | exact Drawn0.refl _ | apply Drawn0.step)⟩

end Go.Proofs.Ytbkofbcmhddbfaa.Pa

namespace Go.Proofs.Ytbkofbcmhddbfaa.Pa
open Go.RowKit Go.Proofs.YtbkofbcmhddbfaaW.PrintWords Go.Proofs.YtbkofbcmhddbfaaW.PrintLast Go.Proofs.YtbkofbcmhddbfaaW.PrintMore
attribute [local go_sem] max2_int min2_int max_two min_two max_three min_three max_four min_four   -- for this text's walks alone
set_option linter.unusedVariables false
set_option linter.unusedSimpArgs false

/-! ### AUX backw -/
attribute [local go_sem] Oper.semAt_some

theorem blk_add (a : Addr) (n : Nat) : (a.add n).block = a.block := by unfold Addr.add; split <;> rfl
/-- What a round keeps: what lay below, and the iterator's own box. -/
def KeepB (n₀ Bs : Nat) (W W' : World) : Prop := Below n₀ W W' ∧ ∀ v, W.cell? ⟨Bs, 0, none⟩ = some v → W'.cell? ⟨Bs, 0, none⟩ = some v
theorem KeepB.refl (n₀ Bs : Nat) (W : World) : KeepB n₀ Bs W W := ⟨Below.refl _ _, fun _ h => h⟩
theorem KeepB.trans {n₀ Bs : Nat} {A B C : World} (h1 : KeepB n₀ Bs A B) (h2 : KeepB n₀ Bs B C) : KeepB n₀ Bs A C := ⟨h1.1.trans h2.1, fun v h => h2.2 v (h1.2 v h)⟩
theorem KeepB.b {n₀ Bs : Nat} {w : World} (hn : n₀ ≤ w.heap.size) (W : World) (l : Nat) (o o' : Obj) (hl : w.heap.size ≤ l) (ho : W.heap[l]? = some o) (hc : o.isCells = false) (hw : o.isWalk = false) : KeepB n₀ Bs W (W.putObj l o') :=
 ⟨belowK_b hn W l o o' hl ho hc hw, fun v h => cell_kept h (grownBy_putObj' W l o') (fun r e => by cases e; exact ⟨_, ho, hc⟩)⟩
/-- What has come when k rounds are over. -/
def downto (len k : Nat) : List Nat := (List.range k).map fun j => len - 1 - j
theorem downto_succ (len k : Nat) : downto len (k + 1) = downto len k ++ [len - 1 - k] := by simp [downto, List.range_succ]
theorem downto_length (len k : Nat) : (downto len k).length = k := by simp [downto]

set_option maxRecDepth 100000 in
set_option maxHeartbeats 2000000 in
theorem backward1_in (F : Fence) (n : Nat) (h45 : F.fn 45) (hro : F.round = none) (hn : 1 ≤ n) (l Bs n₀ len cap : Nat) (ad : Addr) (g0 g1 g2 : Nat → Value) (hlen : len ≤ 1000) (hb : ad.block < n₀) (J Jx : List Nat → World → Prop)
  (hY : ∀ (pre : List Nat) (x : Nat) (W : World), J pre W → pre.length < len → YieldAt F (n - 1) Try.prog l #[.int .i64 (x : Int), .agg #[g0 x, g1 x, g2 x]] W fun e W' =>
   (e = .returned (.bool true) ∧ J (pre ++ [x]) W' ∧ KeepB n₀ Bs W W') ∨ (e = .returned (.bool false) ∧ Jx (pre ++ [x]) W'))
  (W : World) (hBs : W.cell? ⟨Bs, 0, none⟩ = some (.slice (some ad) len cap)) 
  (hc : ∀ j, j < len → W.cell? (ad.add (j * 3)) = some (g0 j) ∧ W.cell? ⟨(ad.add (j * 3)).block, (ad.add (j * 3)).off + 1, none⟩ = some (g1 j) ∧ W.cell? ⟨(ad.add (j * 3)).block, (ad.add (j * 3)).off + 2, none⟩ = some (g2 j)) (h0 : J [] W) :
  CallsIn F n Try.prog 45 #[.func (.yield l) #[] #[], .pointer (some ⟨Bs, 0, none⟩)] W fun e W' => (∃ v, e = .returned v) ∧
   ((∃ ys, ys = downto len len ∧ J ys W') ∨ (∃ pre, (∃ k, k ≤ len ∧ pre = downto len k) ∧ Jx pre W')) := by
 have hu36 := Try.underlying36
 refine callsIn_of_wp Try.func45 rfl h45 ?_ hro
 simp only [Try.ntmps45, List.size_toArray, List.length_cons, List.length_nil, Nat.reduceAdd, Nat.reduceSub, Array.replicate_succ, Array.replicate_zero, List.push_toArray, List.append_toArray, List.nil_append, List.cons_append]
 gi_wp2
 gi_loopw [3] (fun i wr => ∃ k : Nat, k ≤ len ∧ i = .int .i64 ((len : Int) - 1 - k) ∧ J (downto len k) wr ∧ KeepB n₀ Bs W wr)
  (fun i _ => (intOf i + 1).toNat)
 case atStart => exact ⟨0, Nat.zero_le _, by simp, h0, KeepB.refl _ _ _⟩
 case round =>
  obtain ⟨k, hk, rfl, hJs, hnx⟩ := hrel
  have hbs : wr.cell? ⟨Bs, 0, none⟩ = some (.slice (some ad) len cap) := hnx.2 _ hBs
  by_cases hlt : k < len
  ·obtain ⟨fn, tmps, assign, body, hy, hR⟩ := hY _ (len - 1 - k) wr hJs (by rw [downto_length]; exact hlt)
   obtain ⟨q0, q1, q2⟩ := hc (len - 1 - k) (by omega)
   have q0 := (hnx.1.cell (by show (Addr.add _ _).block < _; rw [blk_add]; exact hb)).trans q0
   have q1 := (hnx.1.cell (by show (Addr.add _ _).block < _; rw [blk_add]; exact hb)).trans q1
   have q2 := (hnx.1.cell (by show (Addr.add _ _).block < _; rw [blk_add]; exact hb)).trans q2
   obtain ⟨ix, hix⟩ : ∃ ix : Int, (len : Int) - 1 - k = ix := ⟨_, rfl⟩
   have hix2 : ((len - 1 - k : Nat) : Int) = ix := by omega
   have hix3 : ix.toNat = len - 1 - k := by omega
   rw [hix2] at hy
   rw [hix]
   have i0 : 0 ≤ ix := by omega
   have i1 : ix < (len : Int) := by omega
   gi_wp2
   refine hR.mono ?_
   rintro e W3 (⟨rfl, hJ3, hk3⟩ | ⟨rfl, hJx3⟩)
   ·gi_wp2
    go_roundw
    case rel => exact ⟨k + 1, by omega, by first | (simp only [Value.int.injEq, true_and]; omega) | (congr 1; omega), by rw [downto_succ]; exact hJ3, hnx.trans hk3⟩
    case measure => simp [intOf]; omega
   ·gi_wp2
    refine bodyPost_ret (results_none rfl _ _ _) rfl ?_
    exact ⟨⟨_, rfl⟩, .inr ⟨_, ⟨k + 1, by omega, (downto_succ _ _).symm⟩, hJx3⟩⟩
  ·obtain rfl : k = len := by omega
   gi_wp2
   go_end0
   exact ⟨⟨_, rfl⟩, .inl ⟨_, rfl, hJs⟩⟩
set_option maxRecDepth 100000 in
set_option maxHeartbeats 1000000 in
/-- .. at the nil slice: no round. -/
theorem backward1_nil_in (F : Fence) (n : Nat) (h45 : F.fn 45) (hro : F.round = none) (l Bs : Nat) (J : List Nat → World → Prop) (A : Option Addr) (cap : Nat) (W : World) (hBs : W.cell? ⟨Bs, 0, none⟩ = some (.slice A 0 cap)) (h0 : J [] W) :
  CallsIn F n Try.prog 45 #[.func (.yield l) #[] #[], .pointer (some ⟨Bs, 0, none⟩)] W fun e W' => (∃ v, e = .returned v) ∧ J [] W' := by
 refine callsIn_of_wp Try.func45 rfl h45 ?_ hro
 simp only [Try.ntmps45, List.size_toArray, List.length_cons, List.length_nil, Nat.reduceAdd, Nat.reduceSub, Array.replicate_succ, Array.replicate_zero, List.push_toArray, List.append_toArray, List.nil_append, List.cons_append]
 gi_wp2
 gi_loopw [3] (fun i wr => i = .int .i64 (-1) ∧ J [] wr) (fun _ _ => 0)
 case atStart => exact ⟨rfl, h0⟩
 case round =>
  obtain ⟨rfl, hJs⟩ := hrel
  gi_wp2
  go_end0
  exact ⟨⟨_, rfl⟩, hJs⟩
set_option maxHeartbeats 1000000 in
theorem backward_in (F : Fence) (n : Nat) (h25 : F.fn 25) (hro : F.round = none) (a : Option Addr) (len cap : Nat) (w : World) :
  CallsIn F n Try.prog 25 #[.slice a len cap] w fun e w' => e = .returned (.func (.func 45) #[] #[.pointer (some ⟨w.heap.size, 0, none⟩)]) ∧ w' = w.alloc (.cells #[.slice a len cap] 24) := by
 refine callsIn_of_wp Try.func25 rfl h25 ?_ hro
 simp only [Try.ntmps25, List.size_toArray, List.length_cons, List.length_nil, Nat.reduceAdd, Nat.reduceSub, Array.replicate_succ, Array.replicate_zero, List.push_toArray, List.append_toArray, List.nil_append, List.cons_append]
 gi_wp2
 go_ret
 exact ⟨rfl, rfl⟩
/-- slices.Backward(gates) hands back a value that stops: the places from the last one down. -/
theorem backward_stops (F : Fence) (n : Nat) (h45 : F.fn 45) (hro : F.round = none) (hn : 1 ≤ n) (Bs n₀ len cap : Nat) (A : Option Addr) (g0 g1 g2 : Nat → Value) (hlen : len ≤ 1000) (w : World) (hBs : Bs < w.heap.size) (hn₀ : n₀ ≤ w.heap.size)
  (hc : w.cell? ⟨Bs, 0, none⟩ = some (.slice A len cap))
  (hA : len = 0 ∨ ∃ ad : Addr, A = some ad ∧ ad.block < n₀ ∧ ∀ j, j < len → w.cell? (ad.add (j * 3)) = some (g0 j) ∧ w.cell? ⟨(ad.add (j * 3)).block, (ad.add (j * 3)).off + 1, none⟩ = some (g1 j) ∧ w.cell? ⟨(ad.add (j * 3)).block, (ad.add (j * 3)).off + 2, none⟩ = some (g2 j)) :
  SeqStopsK F n Try.prog 45 #[.pointer (some ⟨Bs, 0, none⟩)] (fun x : Nat => #[Value.int .i64 (x : Int), Value.agg #[g0 x, g1 x, g2 x]]) (KeepB n₀ Bs) (fun ys => ys = downto len len) (fun pre => ∃ k, k ≤ len ∧ pre = downto len k) len w := fun l J Jx W hW _ _ hY h0 => by
 have hW' := hW.mono hn₀
 have hc' := (hW.cell (p := ⟨Bs, 0, none⟩) hBs).trans hc
 rcases hA with rfl | ⟨ad, rfl, hb, hcs⟩
 ·exact (backward1_nil_in F n h45 hro l Bs J A cap W hc' h0).mono fun e W' ⟨he, hj⟩ => ⟨he, .inl ⟨_, rfl, hj⟩⟩
 ·exact backward1_in F n h45 hro hn l Bs n₀ len cap ad g0 g1 g2 hlen hb J Jx hY W hc' (fun j hj => by
   obtain ⟨h1, h2, h3⟩ := hcs j hj
   exact ⟨(hW'.cell (by show (Addr.add _ _).block < _; rw [blk_add]; exact hb)).trans h1, (hW'.cell (by show (Addr.add _ _).block < _; rw [blk_add]; exact hb)).trans h2, (hW'.cell (by show (Addr.add _ _).block < _; rw [blk_add]; exact hb)).trans h3⟩) h0

end Go.Proofs.Ytbkofbcmhddbfaa.Pa

namespace Go.Proofs.Ytbkofbcmhddbfaa.Pa
open Go.RowKit Go.Proofs.YtbkofbcmhddbfaaW.PrintWords Go.Proofs.YtbkofbcmhddbfaaW.PrintLast Go.Proofs.YtbkofbcmhddbfaaW.PrintMore
attribute [local go_sem] max2_int min2_int max_two min_two max_three min_three max_four min_four   -- for this text's walks alone
set_option linter.unusedVariables false
set_option linter.unusedSimpArgs false

/-! ### AUX longI -/
section
variable {P : Program} {ops : Array Oper} {Q : Exit → Act → World → Prop} {nF l : Nat}
/-- What an operation does outside a round it does in one, if it is none that would be collected, and no way out is left open. -/
theorem opIn_of_op {i : Nat} {K : Act → World → Prop} {a : Act} {w : World} (hd : ∀ o ∈ ops.toList, ∀ c, o.op ≠ .defer c) (hlet : ¬ LetsOut Q)
  (h : wpOp P ops Q i K a w) : wpOpIn (Fence.wide.inRound l) nF P ops Q i K a w := by
 unfold wpOp at h
 unfold wpOpIn
 cases ho : ops[i]? with
 | none => rw [ho] at h; exact h
 | some o =>
  rw [ho] at h
  dsimp only at h ⊢
  have hmem : o ∈ ops.toList := by
   rw [← Array.getElem?_toList] at ho
   exact List.mem_of_getElem? ho
  have h1 := hd o hmem
  split
  ·rename_i hw
   rw [if_pos hw] at h
   rcases h with h | ⟨_, h⟩
   ·unfold Oper.wp at h
    unfold Oper.wpIn
    refine ⟨fun _ _ => trivial, ?_⟩
    rw [show (Fence.wide.inRound l).round = some l from rfl, Oper.semAt_some l _ _ h1]
    generalize (execOp a.eval o).run P w = r at h ⊢
    cases r with
    | ok x w' =>
     cases x with
     | value v => exact h
     | skip => exact h
     | defer d => exact h
     | enter f args => exact ⟨fun hh => absurd hh (by simp [Fence.wide]), CallsIn.inRound l (callsIn_wide.2 h)⟩
     | row r ar => exact ⟨fun hh => absurd hh (by simp [Fence.wide]), fun c cs _ => let ⟨v, w2, hr, hs⟩ := h c cs; ⟨v, w2, hr, (stepsIn_wide (P := P)).2 hs⟩⟩
     | _ => exact h.elim
    | halt x w' => cases x <;> exact h
   ·exact absurd h hlet
  ·rename_i hw
   rw [if_neg hw] at h
   exact ⟨fun _ _ => trivial, h⟩
theorem anyIn_of_any (hd : ∀ o ∈ ops.toList, ∀ c, o.op ≠ .defer c) (hlet : ¬ LetsOut Q) (md : Region.Mode) :
  ∀ (fuel : Nat) (listed : Array Bool) (a : Act) (w : World), wpAny P md ops Q fuel listed a w → wpAnyIn (Fence.wide.inRound l) nF P md ops Q fuel listed a w := by
 intro fuel
 induction fuel with
 | zero => intro listed a w h; exact h
 | succ fuel ih =>
  intro listed a w h
  exact ⟨h.1, fun i hi => opIn_of_op hd hlet (wpOp_mono (fun a w h => ih _ a w h) (h.2 i hi))⟩
/-- A region that draws its order, in a round: as outside. -/
theorem startIn_ {S : World → Prop} {ds : List Nat} {id n : Nat} {a : Act} {w : World} (hd : ∀ o ∈ ops.toList, ∀ c, o.op ≠ .defer c) (hlet : ¬ LetsOut Q)
  (l0 : Array Bool) (hm : P.follows .mixedOrders = true) (hn : ops.size = n) (hl : Array.replicate n false = l0) (hS : S w.drew)
  (h : S w.drew → wpAnyLast P .any ops Q S ds n l0 a w.drew) : (Code.region id ops true).wpIn (Fence.wide.inRound l) nF P Q a w := by
 subst hn
 subst hl
 exact wpIn_region_any hm (anyIn_of_any hd hlet _ _ _ _ _ (wpAny_of_last _ _ _ _ (h hS)))
end
/-- A row of numbers lies on where nothing but what is no cells has turned. -/
theorem row_own {X Y : World} {row : Option Nat} {e base : Nat} {v : Value} {xs : List Int} (h : Kd.R (Kd.int .i64) e X base (fun _ => True) v xs) (hg : X.grownBy Y row) (hr : ∀ r, row = some r → ∃ o : Obj, X.heap[r]? = some o ∧ o.isCells = false) : Kd.R (Kd.int .i64) e Y base (fun _ => True) v xs := by
 have ho := Kd.own_of_R h
 refine Kd.R_of_own (ho.kept hg ?_) (fun _ _ => trivial)
 rcases ho.2 with ⟨rfl, _⟩ | ⟨g, cap, cur, rfl, _, hgb, _⟩
 ·exact .inl rfl
 ·refine .inr fun e' => ?_
  obtain ⟨o, ho, hc⟩ := hr g (by simpa [Value.ownBlock] using e'.symm)
  rw [hgb] at ho; cases ho; cases hc
theorem blk_own {X Y : World} {row : Option Nat} {g t : Nat} {cs : Array Value} (h : X.heap[g]? = some (.cells cs t (0, 0))) (hg : X.grownBy Y row) (hr : ∀ r, row = some r → ∃ o : Obj, X.heap[r]? = some o ∧ o.isCells = false) : Y.heap[g]? = some (.cells cs t (0, 0)) :=
 (hg.block g (Array.getElem?_eq_some_iff.1 h).1 (fun e => by obtain ⟨o, ho, hc⟩ := hr g e.symm; rw [h] at ho; cases ho; cases hc)).trans h
/-- What lies while the gates are gone through. -/
def Lg (gb g11 g12 g N cm : Nat) (gl : Int) (cells : Array Value) (base : Nat) (R : List Int) (W : World) : Prop :=
 W.heap[gb]? = some (.cells cells 27 (0, 0)) ∧ W.heap[g11]? = some (.cells #[.slice (some ⟨g, 0, none⟩) N cm] 25 (0, 0)) ∧ W.heap[g12]? = some (.cells #[.int .i64 gl] 2 (0, 0)) ∧ Kd.R (Kd.int .i64) 2 W base (fun _ => True) (.slice (some ⟨g, 0, none⟩) N cm) R
theorem Lg.own {gb g11 g12 g N cm : Nat} {gl : Int} {cells : Array Value} {base : Nat} {R : List Int} {X Y : World} {row : Option Nat} (h : Lg gb g11 g12 g N cm gl cells base R X) (hg : X.grownBy Y row) (hr : ∀ r, row = some r → ∃ o : Obj, X.heap[r]? = some o ∧ o.isCells = false) : Lg gb g11 g12 g N cm gl cells base R Y :=
 ⟨blk_own h.1 hg hr, blk_own h.2.1 hg hr, blk_own h.2.2.1 hg hr, row_own h.2.2.2 hg hr⟩
theorem Lg.below {gb g11 g12 g N cm : Nat} {gl : Int} {cells : Array Value} {base : Nat} {R : List Int} {X Y : World} (h : Lg gb g11 g12 g N cm gl cells base R X) (hb : Below X.heap.size X Y) : Lg gb g11 g12 g N cm gl cells base R Y :=
 ⟨blk_below h.1 hb, blk_below h.2.1 hb, blk_below h.2.2.1 hb, Kd.R_below h.2.2.2 hb⟩
theorem Lg.put {gb g11 g12 g N cm : Nat} {gl : Int} {cells : Array Value} {base : Nat} {R : List Int} {X : World} (h : Lg gb g11 g12 g N cm gl cells base R X) (e1 : gb ≠ g) (e2 : g11 ≠ g) (e3 : g12 ≠ g) (i x : Int) : Lg gb g11 g12 g N cm gl cells base (R.set i.toNat x) (X.setCell ⟨g, i.toNat, none⟩ (.int .i64 x)) :=
 ⟨blk_far h.1 (p := ⟨g, i.toNat, none⟩) e1 _, blk_far h.2.1 (p := ⟨g, i.toNat, none⟩) e2 _, blk_far h.2.2.1 (p := ⟨g, i.toNat, none⟩) e3 _, Kd.R_putn h.2.2.2 i x⟩
/-- One gate. -/
def gateR (n goal : Int) (gates : List S36) (R : List Int) (x : Nat) : List Int := restJ goal (n + x) (rd_T36 gates (x : Int)).f1 R (rd_T36 gates (x : Int)).f2
theorem restJ_len (goal nd most : Int) (l : List Int) : ∀ R : List Int, (restJ goal nd most R l).length = R.length := by
 induction l with
 | nil => intro R; rfl
 | cons x l ih =>
  intro R
  unfold restJ
  rw [ih]
  split <;> simp
theorem downto_cons (k : Nat) : downto (k + 1) (k + 1) = k :: downto k k := by
 unfold downto
 rw [List.range_succ_eq_map, List.map_cons, List.map_map]
 congr 1
 refine List.map_congr_left fun j hj => ?_
 have := List.mem_range.1 hj
 simp only [Function.comp]
 omega
theorem fold_gates (n goal : Int) (gates : List S36) : ∀ (k : Nat) (R : List Int), (downto k k).foldl (gateR n goal gates) R = restI n goal gates k R := by
 intro k
 induction k with
 | zero => intro R; rfl
 | succ k ih => intro R; rw [downto_cons, List.foldl_cons, ih]; rfl
theorem fold_len (n goal : Int) (gates : List S36) (l : List Nat) : ∀ R : List Int, (l.foldl (gateR n goal gates) R).length = R.length := by
 induction l with
 | nil => intro R; rfl
 | cons x l ih => intro R; rw [List.foldl_cons, ih]; exact restJ_len _ _ _ _ _
theorem longC_tells {n : Int} {gates : List S36} {data : List Int} {a b : Int} (h : longC n gates data a b = true) :
  1 ≤ n ∧ n ≤ 6 ∧ gates.length ≤ 10 ∧ 0 ≤ a ∧ a < n ∧ 0 ≤ b ∧ b < (data.length : Int) ∧ 0 ≤ rd data b ∧ rd data b < n + (gates.length : Int) ∧ ∀ i : Nat, i < gates.length → ∀ x ∈ (rd_T36 gates (i : Int)).f2, 0 ≤ x ∧ x < n + (i : Int) := by
 unfold longC at h
 simp only [Bool.and_eq_true, decide_eq_true_eq] at h
 obtain ⟨⟨h1, h2, h3, h4, h5, h6, h7, h8, h9⟩, h10⟩ := h
 refine ⟨h1, h2, h3, h4, h5, h6, h7, h8, h9, fun i hi x hx => ?_⟩
 have h11 := List.all_eq_true.1 (List.all_eq_true.1 h10 i (List.mem_range.2 hi)) x hx
 exact of_decide_eq_true h11
theorem row_addr {N c e base : Nat} {A : Option Addr} {X : World} {xs : List Int} (hN : 0 < N) (h : Kd.R (Kd.int .i64) e X base (fun _ => True) (.slice A N c) xs) : ∃ g, A = some ⟨g, 0, none⟩ ∧ base ≤ g := by
 rcases (Kd.own_of_R h).2 with ⟨h1, _⟩ | ⟨g, cap, cur, h1, h2, _⟩
 ·injection h1 with _ h1 _; omega
 ·injection h1 with h1 _ _; exact ⟨g, h1, h2⟩
/-- A row of -1 is no box of another number. -/
theorem row_apart {N c g g12 t e base : Nat} {X : World} {u : Int} (hN : 0 < N) (h : Kd.R (Kd.int .i64) e X base (fun _ => True) (.slice (some ⟨g, 0, none⟩) N c) (List.replicate N (-1))) (hb : X.heap[g12]? = some (.cells #[.int .i64 u] t (0, 0))) (hu : u ≠ -1) : g ≠ g12 := by
 intro e'
 subst e'
 have h1 := (Kd.R_celln (0 : Int) h 0 (by omega) (by omega)).1
 rw [show (0 : Int).toNat = 0 from rfl, blk_cell hb 0] at h1
 have h2 : rdOf (0 : Int) (List.replicate N (-1)) 0 = -1 := by
  unfold rdOf
  rw [List.getD_eq_getElem?_getD, List.getElem?_eq_getElem (by simp; omega)]
  simp
 injection h1 with h1
 injection h1 with _ h1
 exact hu (h1.trans h2)
theorem row_far {N c g g12 e base : Nat} {X : World} {xs : List Int} (h : Kd.R (Kd.int .i64) e X base (fun _ => True) (.slice (some ⟨g, 0, none⟩) N c) xs) (hne : g ≠ g12) (u : Value) : Kd.R (Kd.int .i64) e (X.setCell ⟨g12, 0, none⟩ u) base (fun _ => True) (.slice (some ⟨g, 0, none⟩) N c) xs :=
 Kd.R_of_own (own_setCell (Kd.own_of_R h) (p := ⟨g12, 0, none⟩) (by simpa [Value.ownBlock] using Ne.symm hne) u) (fun _ _ => trivial)
/-- Only a return. -/
def retOnly (Q : Exit → Act → World → Prop) : Exit → Act → World → Prop
 | .ret, a, w => Q .ret a w
 | _, _, _ => False
theorem retOnly_to {Q : Exit → Act → World → Prop} {e : Exit} {a : Act} {w : World} (h : retOnly Q e a w) : Q e a w := by
 cases e <;> first | exact h | exact h.elim
theorem rowblk_ne {N c g gb t e base : Nat} {X : World} {xs : List Int} {cs : Array Value} (hN : 0 < N) (h : Kd.R (Kd.int .i64) e X base (fun _ => True) (.slice (some ⟨g, 0, none⟩) N c) xs) (hb : X.heap[gb]? = some (.cells cs t (0, 0))) (hne : e ≠ t) : g ≠ gb := by
 intro e'
 subst e'
 exact own_ne (Kd.own_of_R h) hb hne (by simp [Value.ownBlock])
theorem lg_box (X : World) (p : Addr) (u v : Value) : ((X.setCell p u).alloc (.cells #[v] 24)).cell? ⟨X.heap.size, 0, none⟩ = some v := by
 have h : ((X.setCell p u).alloc (.cells #[v] 24)).heap[X.heap.size]? = some (.cells #[v] 24 (0, 0)) := by
  have := World.alloc_heap_new (X.setCell p u) (.cells #[v] 24)
  rwa [World.size_setCell] at this
 exact blk_cell h 0
/-- Where the gates lie. -/
theorem gates_at {w : World} {A : Option Addr} {gates : List S36} (h : Kd.C k36 w A gates.length gates) : ∃ gs : Nat → Value,
  (∀ W : World, Below w.heap.size w W → (gates.length = 0 ∨ ∃ ad : Addr, A = some ad ∧ ad.block < w.heap.size ∧ ∀ j, j < gates.length → W.cell? (ad.add (j * 3)) = some (.int .i64 (rd_T36 gates (j : Int)).f0) ∧ W.cell? ⟨(ad.add (j * 3)).block, (ad.add (j * 3)).off + 1, none⟩ = some (.int .i64 (rd_T36 gates (j : Int)).f1) ∧ W.cell? ⟨(ad.add (j * 3)).block, (ad.add (j * 3)).off + 2, none⟩ = some (gs j))) ∧
  ∀ x : Nat, ∃ A2 c2, gs x = .slice A2 (rd_T36 gates (x : Int)).f2.length c2 ∧ (rd_T36 gates (x : Int)).f2.length ≤ c2 ∧ (Kd.int .i64).C w A2 (rd_T36 gates (x : Int)).f2.length (rd_T36 gates (x : Int)).f2 := by
 classical
 have key : ∀ x : Nat, ∃ v, (x < gates.length → ∃ ad : Addr, A = some ad ∧ w.cell? (ad.add (x * 3)) = some (.int .i64 (rd_T36 gates (x : Int)).f0) ∧ w.cell? ⟨(ad.add (x * 3)).block, (ad.add (x * 3)).off + 1, none⟩ = some (.int .i64 (rd_T36 gates (x : Int)).f1) ∧ w.cell? ⟨(ad.add (x * 3)).block, (ad.add (x * 3)).off + 2, none⟩ = some v) ∧
   ∃ A2 c2, v = .slice A2 (rd_T36 gates (x : Int)).f2.length c2 ∧ (rd_T36 gates (x : Int)).f2.length ≤ c2 ∧ (Kd.int .i64).C w A2 (rd_T36 gates (x : Int)).f2.length (rd_T36 gates (x : Int)).f2 := by
  intro x
  by_cases hx : x < gates.length
  ·obtain ⟨ad, A2, c2, ea, h0, h1, h2, hl, hc⟩ := at_T36 h (x : Int) (by omega) (by omega)
   rw [Int.toNat_natCast] at h0 h1 h2
   exact ⟨_, fun _ => ⟨ad, ea, h0, h1, h2⟩, A2, c2, rfl, hl, hc⟩
  ·have hz : rd_T36 gates (x : Int) = z36 := by
    unfold rd_T36
    rw [List.getD_eq_getElem?_getD, List.getElem?_eq_none (by simp; omega)]
    rfl
   exact ⟨.slice none 0 0, fun h => absurd h hx, none, 0, by rw [hz]; rfl, by rw [hz]; exact Nat.le_refl _, by rw [hz]; exact Kd.C_nil _ _⟩
 refine ⟨fun x => Classical.choose (key x), fun W hW => ?_, fun x => (Classical.choose_spec (key x)).2⟩
 by_cases h0 : gates.length = 0
 ·exact .inl h0
 ·refine .inr ?_
  obtain ⟨ad, ea, hc0, _⟩ := (Classical.choose_spec (key 0)).1 (by omega)
  subst ea
  have hlt : ad.block < w.heap.size := Kd.C_lt h (by omega) (by decide)
  refine ⟨ad, rfl, hlt, fun j hj => ?_⟩
  obtain ⟨ad', ea, c0, c1, c2⟩ := (Classical.choose_spec (key j)).1 hj
  obtain rfl := Option.some.inj ea
  exact ⟨(hW.cell (by rw [blk_add]; exact hlt)).trans c0, (hW.cell (by show (Addr.add _ _).block < _; rw [blk_add]; exact hlt)).trans c1, (hW.cell (by show (Addr.add _ _).block < _; rw [blk_add]; exact hlt)).trans c2⟩
theorem lg_ownFrom (B gb g11 g12 g N cm : Nat) (gl : Int) (cells : Array Value) (base : Nat) (f : List Nat → List Int) : OwnFrom B (fun pre W => Lg gb g11 g12 g N cm gl cells base (f pre) W) :=
 fun s _ _ _ hs hg hr => Lg.own hs hg (fun r e => (hr r e).2)
theorem cell_laid {X : World} {p : Addr} {v : Value} (h : X.cell? p = some v) (o : Obj) : (X.alloc o).cell? p = some v := cell_kept h (World.grownBy_alloc X o none) (fun r e => by cases e)
theorem rd_mem (l : List Int) (j : Nat) (h : j < l.length) : rd l (j : Int) ∈ l := by
 unfold rd
 rw [List.getD_eq_getElem?_getD, Int.toNat_natCast, List.getElem?_eq_getElem h]
 exact List.getElem_mem _
theorem drop_rd (l : List Int) (j : Nat) (h : j < l.length) : l.drop j = rd l (j : Int) :: l.drop (j + 1) := by
 rw [List.drop_eq_getElem_cons h]
 congr 1
 unfold rd
 rw [List.getD_eq_getElem?_getD, Int.toNat_natCast, List.getElem?_eq_getElem h]
 rfl
theorem j_wrap {j m : Nat} (h : j < m) (hm : m ≤ 9223372036854775807) : wrap64 ((j : Int) + 1) = ((j + 1 : Nat) : Int) := by
 unfold wrap64
 omega
theorem cell_afar {X : World} {p q : Addr} {v : Value} (h : X.cell? q = some v) (hne : q.block ≠ p.block) (u : Value) : (X.setCell p u).cell? q = some v := by
 unfold World.cell? at *
 rw [Below.heap_setCell X p u q.block hne]
 exact h
/-- What lies while the path is gone along. -/
def Lz (gb g11 g12 g N cm : Nat) (gl : Int) (cells : Array Value) (w : World) (D S : Nat) (R : List Int) (W : World) : Prop :=
 Lg gb g11 g12 g N cm gl cells w.heap.size R W ∧ Below w.heap.size w W ∧ W.heap[D]? = some (.deferred (some [])) ∧ S ≤ W.heap.size
theorem Lz.below {gb g11 g12 g N cm : Nat} {gl : Int} {cells : Array Value} {w : World} {D S : Nat} {R : List Int} {X Y : World} (h : Lz gb g11 g12 g N cm gl cells w D S R X) (hb : Below X.heap.size X Y) : Lz gb g11 g12 g N cm gl cells w D S R Y :=
 ⟨h.1.below hb, below_step h.2.1 hb, (hb.block D (Array.getElem?_eq_some_iff.1 h.2.2.1).1).trans h.2.2.1, Nat.le_trans h.2.2.2 hb.size⟩
theorem Lz.grown {gb g11 g12 g N cm : Nat} {gl : Int} {cells : Array Value} {w : World} {D S : Nat} {R : List Int} {X Y : World} {row : Option Nat} (h : Lz gb g11 g12 g N cm gl cells w D S R X) (hlt : gb < S ∧ g11 < S ∧ g12 < S ∧ g < S ∧ D < S) (hg : X.grownBy Y row) (hr : ∀ r, row = some r → S ≤ r) (hb : Below w.heap.size w Y) : Lz gb g11 g12 g N cm gl cells w D S R Y := by
 have key : ∀ (q : Nat) (o : Obj), q < S → X.heap[q]? = some o → Y.heap[q]? = some o := fun q o hq ho =>
  (hg.block q (Array.getElem?_eq_some_iff.1 ho).1 (fun e => by have := hr q e.symm; omega)).trans ho
 refine ⟨⟨key _ _ hlt.1 h.1.1, key _ _ hlt.2.1 h.1.2.1, key _ _ hlt.2.2.1 h.1.2.2.1, ?_⟩, hb, key _ _ hlt.2.2.2.2 h.2.2.1, Nat.le_trans h.2.2.2 hg.size⟩
 refine Kd.R_of_own ((Kd.own_of_R h.1.2.2.2).kept hg (.inr fun e => ?_)) (fun _ _ => trivial)
 have h1 : some g = row := by simpa [Value.ownBlock] using e
 have := hr g h1.symm
 omega
theorem Lg.lt {gb g11 g12 g N cm : Nat} {gl : Int} {cells : Array Value} {base : Nat} {R : List Int} {X : World} (h : Lg gb g11 g12 g N cm gl cells base R X) : gb < X.heap.size ∧ g11 < X.heap.size ∧ g12 < X.heap.size ∧ g < X.heap.size :=
 ⟨(Array.getElem?_eq_some_iff.1 h.1).1, (Array.getElem?_eq_some_iff.1 h.2.1).1, (Array.getElem?_eq_some_iff.1 h.2.2.1).1, own_lt (Kd.own_of_R h.2.2.2) g (by simp [Value.ownBlock])⟩
theorem longP_is {n gl : Int} {gates : List S36} {N : Nat} {R0 : List Int} (hN : N = n.toNat + gates.length) (hR : R0 = (List.replicate N (-1)).set gl.toNat 0) : (downto gates.length gates.length).foldl (gateR n gl gates) R0 = restP n gl gates := by
 rw [fold_gates, hR, hN]
 rfl

end Go.Proofs.Ytbkofbcmhddbfaa.Pa

