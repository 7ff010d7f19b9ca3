-- Written for this claim by a program of this session.
import Derived.Test.YtahjcmmgdcedpaaUPax0
import Derived.Test.YtahjcmmgdcedpaaUCoreT2
import Derived.Test.YtahjcmmgdcedpaaUCoreT1
import Derived.Shelf.Abstract
namespace Go.Proofs.Ytahjcmmgdcedpaa.Pa
open Go.RowKit Go.Proofs.YtahjcmmgdcedpaaW.PrintWords Go.Proofs.YtahjcmmgdcedpaaW.PrintLast Go.Proofs.YtahjcmmgdcedpaaW.PrintMore
attribute [local go_sem] max2_int min2_int max_two min_two max_three min_three max_four min_four   -- for this text's walks alone
set_option linter.unusedVariables false
set_option linter.unusedSimpArgs false

/-! ### impl_GapOf: function 15 -/
def impl_GapOf.f (k : Nat) (a0_0 : Int) (l0_1 : List (S32)) (a1 : Int) (a2 : Int) : Option (Int × Int × Bool) := (impl_TightestBounds.f k a0_0 l0_1).bind fun bt264 => (if bt264.2 = true then ((impl_Diagram_isEvent.f a0_0 l0_1 a1).bind fun t268 => (if t268 = true then ((impl_Diagram_isEvent.f a0_0 l0_1 a2).bind fun t269 => (if t269 = true then (if 0 ≤ a1 then (if a1 < (bt264.1.length : Int) then (if 0 ≤ a2 then (if a2 < ((rd_L6 bt264.1 a1).length : Int) then (if (rd (rd_L6 bt264.1 a1) a2) = 1000000 then (some (0, 0, false)) else (if a2 < (bt264.1.length : Int) then (if a1 < ((rd_L6 bt264.1 a2).length : Int) then (if (rd (rd_L6 bt264.1 a2) a1) = 1000000 then (some (0, 0, false)) else (some (wrap64 (-(rd (rd_L6 bt264.1 a2) a1)), rd (rd_L6 bt264.1 a1) a2, true))) else (none)) else (none))) else (none)) else (none)) else (none)) else (none)) else (some (0, 0, false)))) else (some (0, 0, false)))) else (some (0, 0, false)))
set_option maxHeartbeats 8000000 in
set_option maxRecDepth 100000 in
theorem impl_GapOf.calls (k : Nat) (a0_0 : Int) (A0_1 : Option Addr) (c0_1 : Nat) (l0_1 : List (S32)) (a1 : Int) (a2 : Int) (r1 : Int) (r2 : Int) (r3 : Bool) (w : World) (hr0_1 : Kd.C k32 w A0_1 l0_1.length l0_1) (hc0_1 : l0_1.length ≤ c0_1) (h : impl_GapOf.f k a0_0 l0_1 a1 a2 = some (r1, r2, r3)) :
  Calls Try.prog 15 #[.agg #[.int .i64 a0_0, .slice A0_1 l0_1.length c0_1], .int .i64 a1, .int .i64 a2] w fun e w' => e = .returned (.tuple #[.int .i64 r1, .int .i64 r2, .bool r3]) ∧ Below w.heap.size w w' := by
 have hu26 := Try.underlying26
 have HR0_1 := Aside0.mk hr0_1
 have HC0_1 := Aside0.mk hc0_1
 clear hr0_1 hc0_1
 have HB := Aside0.mk (Below.refl w.heap.size w)
 have H : ((impl_TightestBounds.f k a0_0 l0_1).bind fun bt264 => (if bt264.2 = true then ((impl_Diagram_isEvent.f a0_0 l0_1 a1).bind fun t268 => (if t268 = true then ((impl_Diagram_isEvent.f a0_0 l0_1 a2).bind fun t269 => (if t269 = true then (if 0 ≤ a1 then (if a1 < (bt264.1.length : Int) then (if 0 ≤ a2 then (if a2 < ((rd_L6 bt264.1 a1).length : Int) then (if (rd (rd_L6 bt264.1 a1) a2) = 1000000 then (some (0, 0, false)) else (if a2 < (bt264.1.length : Int) then (if a1 < ((rd_L6 bt264.1 a2).length : Int) then (if (rd (rd_L6 bt264.1 a2) a1) = 1000000 then (some (0, 0, false)) else (some (wrap64 (-(rd (rd_L6 bt264.1 a2) a1)), rd (rd_L6 bt264.1 a1) a2, true))) else (none)) else (none))) else (none)) else (none)) else (none)) else (none)) else (some (0, 0, false)))) else (some (0, 0, false)))) else (some (0, 0, false)))) = some (r1, r2, r3) := h
 clear h
 replace H := Option.bind_eq_some_iff.mp H
 obtain ⟨⟨t264, t267⟩, A40, H⟩ := H
 replace H : (if t267 = true then ((impl_Diagram_isEvent.f a0_0 l0_1 a1).bind fun t268 => (if t268 = true then ((impl_Diagram_isEvent.f a0_0 l0_1 a2).bind fun t269 => (if t269 = true then (if 0 ≤ a1 then (if a1 < (t264.length : Int) then (if 0 ≤ a2 then (if a2 < ((rd_L6 t264 a1).length : Int) then (if (rd (rd_L6 t264 a1) a2) = 1000000 then (some (0, 0, false)) else (if a2 < (t264.length : Int) then (if a1 < ((rd_L6 t264 a2).length : Int) then (if (rd (rd_L6 t264 a2) a1) = 1000000 then (some (0, 0, false)) else (some (wrap64 (-(rd (rd_L6 t264 a2) a1)), rd (rd_L6 t264 a1) a2, true))) else (none)) else (none))) else (none)) else (none)) else (none)) else (none)) else (some (0, 0, false)))) else (some (0, 0, false)))) else (some (0, 0, false))) = some (r1, r2, r3) := H
 have A4 := Aside0.mk A40
 clear A40
 by_cases c5 : t267 = true
 ·subst c5
  have H1 : ((impl_Diagram_isEvent.f a0_0 l0_1 a1).bind fun t268 => (if t268 = true then ((impl_Diagram_isEvent.f a0_0 l0_1 a2).bind fun t269 => (if t269 = true then (if 0 ≤ a1 then (if a1 < (t264.length : Int) then (if 0 ≤ a2 then (if a2 < ((rd_L6 t264 a1).length : Int) then (if (rd (rd_L6 t264 a1) a2) = 1000000 then (some (0, 0, false)) else (if a2 < (t264.length : Int) then (if a1 < ((rd_L6 t264 a2).length : Int) then (if (rd (rd_L6 t264 a2) a1) = 1000000 then (some (0, 0, false)) else (some (wrap64 (-(rd (rd_L6 t264 a2) a1)), rd (rd_L6 t264 a1) a2, true))) else (none)) else (none))) else (none)) else (none)) else (none)) else (none)) else (some (0, 0, false)))) else (some (0, 0, false)))) = some (r1, r2, r3) := by rw [if_pos rfl] at H; exact H
  clear H
  have H := H1
  clear H1
  replace H := Option.bind_eq_some_iff.mp H
  obtain ⟨t268, A60, H⟩ := H
  replace H : (if t268 = true then ((impl_Diagram_isEvent.f a0_0 l0_1 a2).bind fun t269 => (if t269 = true then (if 0 ≤ a1 then (if a1 < (t264.length : Int) then (if 0 ≤ a2 then (if a2 < ((rd_L6 t264 a1).length : Int) then (if (rd (rd_L6 t264 a1) a2) = 1000000 then (some (0, 0, false)) else (if a2 < (t264.length : Int) then (if a1 < ((rd_L6 t264 a2).length : Int) then (if (rd (rd_L6 t264 a2) a1) = 1000000 then (some (0, 0, false)) else (some (wrap64 (-(rd (rd_L6 t264 a2) a1)), rd (rd_L6 t264 a1) a2, true))) else (none)) else (none))) else (none)) else (none)) else (none)) else (none)) else (some (0, 0, false)))) else (some (0, 0, false))) = some (r1, r2, r3) := H
  have A6 := Aside0.mk A60
  clear A60
  by_cases c7 : t268 = true
  ·subst c7
   have H1 : ((impl_Diagram_isEvent.f a0_0 l0_1 a2).bind fun t269 => (if t269 = true then (if 0 ≤ a1 then (if a1 < (t264.length : Int) then (if 0 ≤ a2 then (if a2 < ((rd_L6 t264 a1).length : Int) then (if (rd (rd_L6 t264 a1) a2) = 1000000 then (some (0, 0, false)) else (if a2 < (t264.length : Int) then (if a1 < ((rd_L6 t264 a2).length : Int) then (if (rd (rd_L6 t264 a2) a1) = 1000000 then (some (0, 0, false)) else (some (wrap64 (-(rd (rd_L6 t264 a2) a1)), rd (rd_L6 t264 a1) a2, true))) else (none)) else (none))) else (none)) else (none)) else (none)) else (none)) else (some (0, 0, false)))) = some (r1, r2, r3) := by rw [if_pos rfl] at H; exact H
   clear H
   have H := H1
   clear H1
   replace H := Option.bind_eq_some_iff.mp H
   obtain ⟨t269, A80, H⟩ := H
   replace H : (if t269 = true then (if 0 ≤ a1 then (if a1 < (t264.length : Int) then (if 0 ≤ a2 then (if a2 < ((rd_L6 t264 a1).length : Int) then (if (rd (rd_L6 t264 a1) a2) = 1000000 then (some (0, 0, false)) else (if a2 < (t264.length : Int) then (if a1 < ((rd_L6 t264 a2).length : Int) then (if (rd (rd_L6 t264 a2) a1) = 1000000 then (some (0, 0, false)) else (some (wrap64 (-(rd (rd_L6 t264 a2) a1)), rd (rd_L6 t264 a1) a2, true))) else (none)) else (none))) else (none)) else (none)) else (none)) else (none)) else (some (0, 0, false))) = some (r1, r2, r3) := H
   have A8 := Aside0.mk A80
   clear A80
   by_cases c9 : t269 = true
   ·subst c9
    have H1 : (if 0 ≤ a1 then (if a1 < (t264.length : Int) then (if 0 ≤ a2 then (if a2 < ((rd_L6 t264 a1).length : Int) then (if (rd (rd_L6 t264 a1) a2) = 1000000 then (some (0, 0, false)) else (if a2 < (t264.length : Int) then (if a1 < ((rd_L6 t264 a2).length : Int) then (if (rd (rd_L6 t264 a2) a1) = 1000000 then (some (0, 0, false)) else (some (wrap64 (-(rd (rd_L6 t264 a2) a1)), rd (rd_L6 t264 a1) a2, true))) else (none)) else (none))) else (none)) else (none)) else (none)) else (none)) = some (r1, r2, r3) := by rw [if_pos rfl] at H; exact H
    clear H
    have H := H1
    clear H1
    by_cases c10 : 0 ≤ a1
    ·rw [if_pos c10] at H
     have c10b0 : decide (0 ≤ a1) = true := decide_eq_true c10
     clear c10
     by_cases c11 : a1 < (t264.length : Int)
     ·rw [if_pos c11] at H
      have c11b0 : decide (a1 < (t264.length : Int)) = true := decide_eq_true c11
      clear c11
      by_cases c12 : 0 ≤ a2
      ·rw [if_pos c12] at H
       have c12b0 : decide (0 ≤ a2) = true := decide_eq_true c12
       clear c12
       by_cases c13 : a2 < ((rd_L6 t264 a1).length : Int)
       ·rw [if_pos c13] at H
        have c13b0 : decide (a2 < ((rd_L6 t264 a1).length : Int)) = true := decide_eq_true c13
        clear c13
        by_cases c14 : (rd (rd_L6 t264 a1) a2) = 1000000
        ·rw [if_pos c14] at H
         have c14b0 : ((rd (rd_L6 t264 a1) a2) == 1000000) = true := beq_iff_eq.mpr c14
         have c14b1 : ((rd (rd_L6 t264 a1) a2) != 1000000) = false := bne_eq_false_iff_eq.mpr c14
         clear c14
         simp only [Option.some.injEq, Prod.mk.injEq] at H
         obtain ⟨rfl, rfl, rfl⟩ := H
         go_enter Try.func15, Try.ntmps15
         go_wp2_with (first | ((with_reducible refine gate_dst (N := 3) rfl ?_); refine box_event ?hg (N := 3) ?hd (cs := #[.int .i64 a0_0, .slice A0_1 l0_1.length c0_1]) (t := 26) ?hr ?_; (case hd => rfl); (case hg => rfl); (case hr => first | (go_simp; done) | (go_simp; rfl)); intro gb263 hg w15 hbox hb; have n0_ := Aside0.mk (below_step (by repeat (first | (with_reducible first | exact HB.out | apply below_alloc | apply pw_below_drewN | apply below_drew1) | exact HB.out)) hb); have n1_ := Aside0.mk (hbox); have n2_ := Aside0.mk ((by rw [hg]; exact (below_size (by repeat (first | (with_reducible first | exact HB.out | apply below_alloc | apply pw_below_drewN | apply below_drew1) | exact HB.out))) : w.heap.size ≤ gb263)); have n3_ := Aside0.mk ((by rw [hg]; exact (below_size (by repeat (first | (with_reducible first | exact HB.out | apply below_alloc | apply pw_below_drewN | apply below_drew1) | exact HB.out))) : w.heap.size ≤ gb263)); clear HB; have HB := n0_; have BK263 := n1_; have GW263 := n2_; have GE263 := n3_; clear n0_ n1_ n2_ n3_; clear hb hbox hg; have hcz16_0 : w15.cell? ⟨gb263, 0, none⟩ = some (.int .i64 a0_0) := (blk_cell BK263.out 0).trans rfl; have hcz16_1 : w15.cell? ⟨gb263, 1, none⟩ = some (.slice A0_1 l0_1.length c0_1) := (blk_cell BK263.out 1).trans rfl; have hfz16_0 := blk_frozen BK263.out 0; have hfz16_1 := blk_frozen BK263.out 1) | (go_at_call 16; (with_reducible refine (impl_TightestBounds.calls k a0_0 _ _ l0_1 t264 true _ ?side1 ?side2 A4.out).mono ?_); (case side1 => repeat (first | exact (Kd.C_below HR0_1.out HB.out) | (with_reducible refine Kd.C_alloc ?_ _) | (with_reducible refine Kd.C_drewN ?_ _) | (with_reducible refine Kd.C_drew ?_))); (case side2 => exact HC0_1.out); rintro e w17 ⟨v265, rfl, ho0, hb⟩; have n0_ := Aside0.mk (Kd.S_lower ho0 (below_size (by repeat (first | (with_reducible first | exact HB.out | apply below_alloc | apply pw_below_drewN | apply below_drew1 | refine below_set ?_ GE263.out) | exact HB.out)))); have n1_ := Aside0.mk (blk_below (g := gb263) (o := .cells #[.int .i64 a0_0, .slice A0_1 l0_1.length c0_1] 26 (0, 0)) (by (with_reducible repeat (first | refine blk_drewN ?_ _ | refine blk_drew ?_ | refine blk_alloc ?_ _)); exact BK263.out) hb); have n2_ := Aside0.mk (below_step (by repeat (first | (with_reducible first | exact HB.out | apply below_alloc | apply pw_below_drewN | apply below_drew1 | refine below_set ?_ GE263.out) | exact HB.out)) hb); clear BK263; clear HB; have HO266 := n0_; have BK263 := n1_; have HB := n2_; clear n0_ n1_ n2_; (try clear hb); (try clear hb2); (try clear hk); (try clear hi); (try clear ho0); have hcz18_0 : w17.cell? ⟨gb263, 0, none⟩ = some (.int .i64 a0_0) := (blk_cell BK263.out 0).trans rfl; have hcz18_1 : w17.cell? ⟨gb263, 1, none⟩ = some (.slice A0_1 l0_1.length c0_1) := (blk_cell BK263.out 1).trans rfl; have hfz18_0 := blk_frozen BK263.out 0; have hfz18_1 := blk_frozen BK263.out 1) | (go_at_call 41; (with_reducible refine (impl_Diagram_isEvent.calls a0_0 _ _ l0_1 a1 true _ ?side1 ?side2 A6.out).mono ?_); (case side1 => repeat (first | exact (Kd.C_below HR0_1.out HB.out) | (with_reducible refine Kd.C_alloc ?_ _) | (with_reducible refine Kd.C_drewN ?_ _) | (with_reducible refine Kd.C_drew ?_))); (case side2 => exact HC0_1.out); rintro e w19 ⟨rfl, hb⟩; have n0_ := Aside0.mk (Kd.S_below (by (with_reducible repeat (first | apply Kd.S_alloc | apply Kd.S_drewN | apply Kd.S_drew)); exact HO266.out) hb); have n1_ := Aside0.mk (blk_below (g := gb263) (o := .cells #[.int .i64 a0_0, .slice A0_1 l0_1.length c0_1] 26 (0, 0)) (by (with_reducible repeat (first | refine blk_drewN ?_ _ | refine blk_drew ?_ | refine blk_alloc ?_ _)); exact BK263.out) hb); have n2_ := Aside0.mk (below_step (by repeat (first | (with_reducible first | exact HB.out | apply below_alloc | apply pw_below_drewN | apply below_drew1 | refine below_set ?_ GE263.out) | exact HB.out)) hb); clear HO266; clear BK263; clear HB; have HO266 := n0_; have BK263 := n1_; have HB := n2_; clear n0_ n1_ n2_; (try clear hb); (try clear hb2); (try clear hk); (try clear hi); have hcz20_0 : w19.cell? ⟨gb263, 0, none⟩ = some (.int .i64 a0_0) := (blk_cell BK263.out 0).trans rfl; have hcz20_1 : w19.cell? ⟨gb263, 1, none⟩ = some (.slice A0_1 l0_1.length c0_1) := (blk_cell BK263.out 1).trans rfl; have hfz20_0 := blk_frozen BK263.out 0; have hfz20_1 := blk_frozen BK263.out 1) | (go_at_call 41; (with_reducible refine (impl_Diagram_isEvent.calls a0_0 _ _ l0_1 a2 true _ ?side1 ?side2 A8.out).mono ?_); (case side1 => repeat (first | exact (Kd.C_below HR0_1.out HB.out) | (with_reducible refine Kd.C_alloc ?_ _) | (with_reducible refine Kd.C_drewN ?_ _) | (with_reducible refine Kd.C_drew ?_))); (case side2 => exact HC0_1.out); rintro e w21 ⟨rfl, hb⟩; have n0_ := Aside0.mk (Kd.S_below (by (with_reducible repeat (first | apply Kd.S_alloc | apply Kd.S_drewN | apply Kd.S_drew)); exact HO266.out) hb); have n1_ := Aside0.mk (blk_below (g := gb263) (o := .cells #[.int .i64 a0_0, .slice A0_1 l0_1.length c0_1] 26 (0, 0)) (by (with_reducible repeat (first | refine blk_drewN ?_ _ | refine blk_drew ?_ | refine blk_alloc ?_ _)); exact BK263.out) hb); have n2_ := Aside0.mk (below_step (by repeat (first | (with_reducible first | exact HB.out | apply below_alloc | apply pw_below_drewN | apply below_drew1 | refine below_set ?_ GE263.out) | exact HB.out)) hb); clear HO266; clear BK263; clear HB; have HO266 := n0_; have BK263 := n1_; have HB := n2_; clear n0_ n1_ n2_; (try clear hb); (try clear hb2); (try clear hk); (try clear hi); obtain ⟨Ao22, co22, eo22⟩ := Kd.S_slice HO266.out; subst eo22; have p270 : 0 ≤ (a1 : Int) := of_decide_eq_true (by with_reducible assumption); have q270 : a1 < (t264.length : Int) := of_decide_eq_true (by with_reducible assumption); obtain ⟨ad270, A270_0, c270_0, e270, hx270_0, hl270_0, hi270_0⟩ := at_L6 (Kd.S_reads' HO266.out).2.2 a1 p270 q270; cases e270; obtain ⟨ce270, hce270, hMe270, hcc270⟩ := Kd.S_get HO266.out [] a1 p270 (by first | exact q270 | exact of_decide_eq_true (by with_reducible assumption) | (have e_ := (Kd.S_reads' HO266.out).1; omega)); obtain ⟨ve270_0, rfl, ge270_0⟩ := hMe270; have hv270_0 := hcc270 0 _ rfl; rw [Nat.add_zero, show ((Kd.slice 2 (Kd.int .i64))).sz = 1 from rfl, Nat.mul_one] at hv270_0; replace hv270_0 := Option.some.inj (hv270_0.symm.trans hx270_0); rw [hv270_0] at ge270_0; have HL270_0 := Aside0.mk (show Kd.R (Kd.int .i64) 2 _ _ _ _ (rd_L6 t264 a1) from ge270_0); clear hv270_0 ge270_0; clear hcc270 hce270; have HR270_0 := Aside0.mk hi270_0; have HC270_0 := Aside0.mk hl270_0; clear hi270_0 hl270_0; replace p270 := eq_true p270; replace q270 := eq_true q270; have p271 : 0 ≤ (a2 : Int) := of_decide_eq_true (by with_reducible assumption); have q271 : a2 < ((rd_L6 t264 a1).length : Int) := of_decide_eq_true (by with_reducible assumption); obtain ⟨ad271, e271, hx271_0⟩ := Kd.at_int (by repeat (first | (with_reducible exact HR270_0.out) | (with_reducible refine Kd.C_alloc ?_ _) | (with_reducible refine Kd.C_drewN ?_ _) | (with_reducible refine Kd.C_drew ?_) | exact HR270_0.out)) a2 p271 q271; cases e271; replace p271 := eq_true p271; replace q271 := eq_true q271))
         repeat (go_quiet (first | ((with_reducible refine gate_dst (N := 3) rfl ?_); refine box_event ?hg (N := 3) ?hd (cs := #[.int .i64 a0_0, .slice A0_1 l0_1.length c0_1]) (t := 26) ?hr ?_; (case hd => rfl); (case hg => rfl); (case hr => first | (go_simp; done) | (go_simp; rfl)); intro gb263 hg w15 hbox hb; have n0_ := Aside0.mk (below_step (by repeat (first | (with_reducible first | exact HB.out | apply below_alloc | apply pw_below_drewN | apply below_drew1) | exact HB.out)) hb); have n1_ := Aside0.mk (hbox); have n2_ := Aside0.mk ((by rw [hg]; exact (below_size (by repeat (first | (with_reducible first | exact HB.out | apply below_alloc | apply pw_below_drewN | apply below_drew1) | exact HB.out))) : w.heap.size ≤ gb263)); have n3_ := Aside0.mk ((by rw [hg]; exact (below_size (by repeat (first | (with_reducible first | exact HB.out | apply below_alloc | apply pw_below_drewN | apply below_drew1) | exact HB.out))) : w.heap.size ≤ gb263)); clear HB; have HB := n0_; have BK263 := n1_; have GW263 := n2_; have GE263 := n3_; clear n0_ n1_ n2_ n3_; clear hb hbox hg; have hcz16_0 : w15.cell? ⟨gb263, 0, none⟩ = some (.int .i64 a0_0) := (blk_cell BK263.out 0).trans rfl; have hcz16_1 : w15.cell? ⟨gb263, 1, none⟩ = some (.slice A0_1 l0_1.length c0_1) := (blk_cell BK263.out 1).trans rfl; have hfz16_0 := blk_frozen BK263.out 0; have hfz16_1 := blk_frozen BK263.out 1) | (go_at_call 16; (with_reducible refine (impl_TightestBounds.calls k a0_0 _ _ l0_1 t264 true _ ?side1 ?side2 A4.out).mono ?_); (case side1 => repeat (first | exact (Kd.C_below HR0_1.out HB.out) | (with_reducible refine Kd.C_alloc ?_ _) | (with_reducible refine Kd.C_drewN ?_ _) | (with_reducible refine Kd.C_drew ?_))); (case side2 => exact HC0_1.out); rintro e w17 ⟨v265, rfl, ho0, hb⟩; have n0_ := Aside0.mk (Kd.S_lower ho0 (below_size (by repeat (first | (with_reducible first | exact HB.out | apply below_alloc | apply pw_below_drewN | apply below_drew1 | refine below_set ?_ GE263.out) | exact HB.out)))); have n1_ := Aside0.mk (blk_below (g := gb263) (o := .cells #[.int .i64 a0_0, .slice A0_1 l0_1.length c0_1] 26 (0, 0)) (by (with_reducible repeat (first | refine blk_drewN ?_ _ | refine blk_drew ?_ | refine blk_alloc ?_ _)); exact BK263.out) hb); have n2_ := Aside0.mk (below_step (by repeat (first | (with_reducible first | exact HB.out | apply below_alloc | apply pw_below_drewN | apply below_drew1 | refine below_set ?_ GE263.out) | exact HB.out)) hb); clear BK263; clear HB; have HO266 := n0_; have BK263 := n1_; have HB := n2_; clear n0_ n1_ n2_; (try clear hb); (try clear hb2); (try clear hk); (try clear hi); (try clear ho0); have hcz18_0 : w17.cell? ⟨gb263, 0, none⟩ = some (.int .i64 a0_0) := (blk_cell BK263.out 0).trans rfl; have hcz18_1 : w17.cell? ⟨gb263, 1, none⟩ = some (.slice A0_1 l0_1.length c0_1) := (blk_cell BK263.out 1).trans rfl; have hfz18_0 := blk_frozen BK263.out 0; have hfz18_1 := blk_frozen BK263.out 1) | (go_at_call 41; (with_reducible refine (impl_Diagram_isEvent.calls a0_0 _ _ l0_1 a1 true _ ?side1 ?side2 A6.out).mono ?_); (case side1 => repeat (first | exact (Kd.C_below HR0_1.out HB.out) | (with_reducible refine Kd.C_alloc ?_ _) | (with_reducible refine Kd.C_drewN ?_ _) | (with_reducible refine Kd.C_drew ?_))); (case side2 => exact HC0_1.out); rintro e w19 ⟨rfl, hb⟩; have n0_ := Aside0.mk (Kd.S_below (by (with_reducible repeat (first | apply Kd.S_alloc | apply Kd.S_drewN | apply Kd.S_drew)); exact HO266.out) hb); have n1_ := Aside0.mk (blk_below (g := gb263) (o := .cells #[.int .i64 a0_0, .slice A0_1 l0_1.length c0_1] 26 (0, 0)) (by (with_reducible repeat (first | refine blk_drewN ?_ _ | refine blk_drew ?_ | refine blk_alloc ?_ _)); exact BK263.out) hb); have n2_ := Aside0.mk (below_step (by repeat (first | (with_reducible first | exact HB.out | apply below_alloc | apply pw_below_drewN | apply below_drew1 | refine below_set ?_ GE263.out) | exact HB.out)) hb); clear HO266; clear BK263; clear HB; have HO266 := n0_; have BK263 := n1_; have HB := n2_; clear n0_ n1_ n2_; (try clear hb); (try clear hb2); (try clear hk); (try clear hi); have hcz20_0 : w19.cell? ⟨gb263, 0, none⟩ = some (.int .i64 a0_0) := (blk_cell BK263.out 0).trans rfl; have hcz20_1 : w19.cell? ⟨gb263, 1, none⟩ = some (.slice A0_1 l0_1.length c0_1) := (blk_cell BK263.out 1).trans rfl; have hfz20_0 := blk_frozen BK263.out 0; have hfz20_1 := blk_frozen BK263.out 1) | (go_at_call 41; (with_reducible refine (impl_Diagram_isEvent.calls a0_0 _ _ l0_1 a2 true _ ?side1 ?side2 A8.out).mono ?_); (case side1 => repeat (first | exact (Kd.C_below HR0_1.out HB.out) | (with_reducible refine Kd.C_alloc ?_ _) | (with_reducible refine Kd.C_drewN ?_ _) | (with_reducible refine Kd.C_drew ?_))); (case side2 => exact HC0_1.out); rintro e w21 ⟨rfl, hb⟩; have n0_ := Aside0.mk (Kd.S_below (by (with_reducible repeat (first | apply Kd.S_alloc | apply Kd.S_drewN | apply Kd.S_drew)); exact HO266.out) hb); have n1_ := Aside0.mk (blk_below (g := gb263) (o := .cells #[.int .i64 a0_0, .slice A0_1 l0_1.length c0_1] 26 (0, 0)) (by (with_reducible repeat (first | refine blk_drewN ?_ _ | refine blk_drew ?_ | refine blk_alloc ?_ _)); exact BK263.out) hb); have n2_ := Aside0.mk (below_step (by repeat (first | (with_reducible first | exact HB.out | apply below_alloc | apply pw_below_drewN | apply below_drew1 | refine below_set ?_ GE263.out) | exact HB.out)) hb); clear HO266; clear BK263; clear HB; have HO266 := n0_; have BK263 := n1_; have HB := n2_; clear n0_ n1_ n2_; (try clear hb); (try clear hb2); (try clear hk); (try clear hi); obtain ⟨Ao22, co22, eo22⟩ := Kd.S_slice HO266.out; subst eo22; have p270 : 0 ≤ (a1 : Int) := of_decide_eq_true (by with_reducible assumption); have q270 : a1 < (t264.length : Int) := of_decide_eq_true (by with_reducible assumption); obtain ⟨ad270, A270_0, c270_0, e270, hx270_0, hl270_0, hi270_0⟩ := at_L6 (Kd.S_reads' HO266.out).2.2 a1 p270 q270; cases e270; obtain ⟨ce270, hce270, hMe270, hcc270⟩ := Kd.S_get HO266.out [] a1 p270 (by first | exact q270 | exact of_decide_eq_true (by with_reducible assumption) | (have e_ := (Kd.S_reads' HO266.out).1; omega)); obtain ⟨ve270_0, rfl, ge270_0⟩ := hMe270; have hv270_0 := hcc270 0 _ rfl; rw [Nat.add_zero, show ((Kd.slice 2 (Kd.int .i64))).sz = 1 from rfl, Nat.mul_one] at hv270_0; replace hv270_0 := Option.some.inj (hv270_0.symm.trans hx270_0); rw [hv270_0] at ge270_0; have HL270_0 := Aside0.mk (show Kd.R (Kd.int .i64) 2 _ _ _ _ (rd_L6 t264 a1) from ge270_0); clear hv270_0 ge270_0; clear hcc270 hce270; have HR270_0 := Aside0.mk hi270_0; have HC270_0 := Aside0.mk hl270_0; clear hi270_0 hl270_0; replace p270 := eq_true p270; replace q270 := eq_true q270; have p271 : 0 ≤ (a2 : Int) := of_decide_eq_true (by with_reducible assumption); have q271 : a2 < ((rd_L6 t264 a1).length : Int) := of_decide_eq_true (by with_reducible assumption); obtain ⟨ad271, e271, hx271_0⟩ := Kd.at_int (by repeat (first | (with_reducible exact HR270_0.out) | (with_reducible refine Kd.C_alloc ?_ _) | (with_reducible refine Kd.C_drewN ?_ _) | (with_reducible refine Kd.C_drew ?_) | exact HR270_0.out)) a2 p271 q271; cases e271; replace p271 := eq_true p271; replace q271 := eq_true q271)); try go_wp2_with (first | ((with_reducible refine gate_dst (N := 3) rfl ?_); refine box_event ?hg (N := 3) ?hd (cs := #[.int .i64 a0_0, .slice A0_1 l0_1.length c0_1]) (t := 26) ?hr ?_; (case hd => rfl); (case hg => rfl); (case hr => first | (go_simp; done) | (go_simp; rfl)); intro gb263 hg w15 hbox hb; have n0_ := Aside0.mk (below_step (by repeat (first | (with_reducible first | exact HB.out | apply below_alloc | apply pw_below_drewN | apply below_drew1) | exact HB.out)) hb); have n1_ := Aside0.mk (hbox); have n2_ := Aside0.mk ((by rw [hg]; exact (below_size (by repeat (first | (with_reducible first | exact HB.out | apply below_alloc | apply pw_below_drewN | apply below_drew1) | exact HB.out))) : w.heap.size ≤ gb263)); have n3_ := Aside0.mk ((by rw [hg]; exact (below_size (by repeat (first | (with_reducible first | exact HB.out | apply below_alloc | apply pw_below_drewN | apply below_drew1) | exact HB.out))) : w.heap.size ≤ gb263)); clear HB; have HB := n0_; have BK263 := n1_; have GW263 := n2_; have GE263 := n3_; clear n0_ n1_ n2_ n3_; clear hb hbox hg; have hcz16_0 : w15.cell? ⟨gb263, 0, none⟩ = some (.int .i64 a0_0) := (blk_cell BK263.out 0).trans rfl; have hcz16_1 : w15.cell? ⟨gb263, 1, none⟩ = some (.slice A0_1 l0_1.length c0_1) := (blk_cell BK263.out 1).trans rfl; have hfz16_0 := blk_frozen BK263.out 0; have hfz16_1 := blk_frozen BK263.out 1) | (go_at_call 16; (with_reducible refine (impl_TightestBounds.calls k a0_0 _ _ l0_1 t264 true _ ?side1 ?side2 A4.out).mono ?_); (case side1 => repeat (first | exact (Kd.C_below HR0_1.out HB.out) | (with_reducible refine Kd.C_alloc ?_ _) | (with_reducible refine Kd.C_drewN ?_ _) | (with_reducible refine Kd.C_drew ?_))); (case side2 => exact HC0_1.out); rintro e w17 ⟨v265, rfl, ho0, hb⟩; have n0_ := Aside0.mk (Kd.S_lower ho0 (below_size (by repeat (first | (with_reducible first | exact HB.out | apply below_alloc | apply pw_below_drewN | apply below_drew1 | refine below_set ?_ GE263.out) | exact HB.out)))); have n1_ := Aside0.mk (blk_below (g := gb263) (o := .cells #[.int .i64 a0_0, .slice A0_1 l0_1.length c0_1] 26 (0, 0)) (by (with_reducible repeat (first | refine blk_drewN ?_ _ | refine blk_drew ?_ | refine blk_alloc ?_ _)); exact BK263.out) hb); have n2_ := Aside0.mk (below_step (by repeat (first | (with_reducible first | exact HB.out | apply below_alloc | apply pw_below_drewN | apply below_drew1 | refine below_set ?_ GE263.out) | exact HB.out)) hb); clear BK263; clear HB; have HO266 := n0_; have BK263 := n1_; have HB := n2_; clear n0_ n1_ n2_; (try clear hb); (try clear hb2); (try clear hk); (try clear hi); (try clear ho0); have hcz18_0 : w17.cell? ⟨gb263, 0, none⟩ = some (.int .i64 a0_0) := (blk_cell BK263.out 0).trans rfl; have hcz18_1 : w17.cell? ⟨gb263, 1, none⟩ = some (.slice A0_1 l0_1.length c0_1) := (blk_cell BK263.out 1).trans rfl; have hfz18_0 := blk_frozen BK263.out 0; have hfz18_1 := blk_frozen BK263.out 1) | (go_at_call 41; (with_reducible refine (impl_Diagram_isEvent.calls a0_0 _ _ l0_1 a1 true _ ?side1 ?side2 A6.out).mono ?_); (case side1 => repeat (first | exact (Kd.C_below HR0_1.out HB.out) | (with_reducible refine Kd.C_alloc ?_ _) | (with_reducible refine Kd.C_drewN ?_ _) | (with_reducible refine Kd.C_drew ?_))); (case side2 => exact HC0_1.out); rintro e w19 ⟨rfl, hb⟩; have n0_ := Aside0.mk (Kd.S_below (by (with_reducible repeat (first | apply Kd.S_alloc | apply Kd.S_drewN | apply Kd.S_drew)); exact HO266.out) hb); have n1_ := Aside0.mk (blk_below (g := gb263) (o := .cells #[.int .i64 a0_0, .slice A0_1 l0_1.length c0_1] 26 (0, 0)) (by (with_reducible repeat (first | refine blk_drewN ?_ _ | refine blk_drew ?_ | refine blk_alloc ?_ _)); exact BK263.out) hb); have n2_ := Aside0.mk (below_step (by repeat (first | (with_reducible first | exact HB.out | apply below_alloc | apply pw_below_drewN | apply below_drew1 | refine below_set ?_ GE263.out) | exact HB.out)) hb); clear HO266; clear BK263; clear HB; have HO266 := n0_; have BK263 := n1_; have HB := n2_; clear n0_ n1_ n2_; (try clear hb); (try clear hb2); (try clear hk); (try clear hi); have hcz20_0 : w19.cell? ⟨gb263, 0, none⟩ = some (.int .i64 a0_0) := (blk_cell BK263.out 0).trans rfl; have hcz20_1 : w19.cell? ⟨gb263, 1, none⟩ = some (.slice A0_1 l0_1.length c0_1) := (blk_cell BK263.out 1).trans rfl; have hfz20_0 := blk_frozen BK263.out 0; have hfz20_1 := blk_frozen BK263.out 1) | (go_at_call 41; (with_reducible refine (impl_Diagram_isEvent.calls a0_0 _ _ l0_1 a2 true _ ?side1 ?side2 A8.out).mono ?_); (case side1 => repeat (first | exact (Kd.C_below HR0_1.out HB.out) | (with_reducible refine Kd.C_alloc ?_ _) | (with_reducible refine Kd.C_drewN ?_ _) | (with_reducible refine Kd.C_drew ?_))); (case side2 => exact HC0_1.out); rintro e w21 ⟨rfl, hb⟩; have n0_ := Aside0.mk (Kd.S_below (by (with_reducible repeat (first | apply Kd.S_alloc | apply Kd.S_drewN | apply Kd.S_drew)); exact HO266.out) hb); have n1_ := Aside0.mk (blk_below (g := gb263) (o := .cells #[.int .i64 a0_0, .slice A0_1 l0_1.length c0_1] 26 (0, 0)) (by (with_reducible repeat (first | refine blk_drewN ?_ _ | refine blk_drew ?_ | refine blk_alloc ?_ _)); exact BK263.out) hb); have n2_ := Aside0.mk (below_step (by repeat (first | (with_reducible first | exact HB.out | apply below_alloc | apply pw_below_drewN | apply below_drew1 | refine below_set ?_ GE263.out) | exact HB.out)) hb); clear HO266; clear BK263; clear HB; have HO266 := n0_; have BK263 := n1_; have HB := n2_; clear n0_ n1_ n2_; (try clear hb); (try clear hb2); (try clear hk); (try clear hi); obtain ⟨Ao22, co22, eo22⟩ := Kd.S_slice HO266.out; subst eo22; have p270 : 0 ≤ (a1 : Int) := of_decide_eq_true (by with_reducible assumption); have q270 : a1 < (t264.length : Int) := of_decide_eq_true (by with_reducible assumption); obtain ⟨ad270, A270_0, c270_0, e270, hx270_0, hl270_0, hi270_0⟩ := at_L6 (Kd.S_reads' HO266.out).2.2 a1 p270 q270; cases e270; obtain ⟨ce270, hce270, hMe270, hcc270⟩ := Kd.S_get HO266.out [] a1 p270 (by first | exact q270 | exact of_decide_eq_true (by with_reducible assumption) | (have e_ := (Kd.S_reads' HO266.out).1; omega)); obtain ⟨ve270_0, rfl, ge270_0⟩ := hMe270; have hv270_0 := hcc270 0 _ rfl; rw [Nat.add_zero, show ((Kd.slice 2 (Kd.int .i64))).sz = 1 from rfl, Nat.mul_one] at hv270_0; replace hv270_0 := Option.some.inj (hv270_0.symm.trans hx270_0); rw [hv270_0] at ge270_0; have HL270_0 := Aside0.mk (show Kd.R (Kd.int .i64) 2 _ _ _ _ (rd_L6 t264 a1) from ge270_0); clear hv270_0 ge270_0; clear hcc270 hce270; have HR270_0 := Aside0.mk hi270_0; have HC270_0 := Aside0.mk hl270_0; clear hi270_0 hl270_0; replace p270 := eq_true p270; replace q270 := eq_true q270; have p271 : 0 ≤ (a2 : Int) := of_decide_eq_true (by with_reducible assumption); have q271 : a2 < ((rd_L6 t264 a1).length : Int) := of_decide_eq_true (by with_reducible assumption); obtain ⟨ad271, e271, hx271_0⟩ := Kd.at_int (by repeat (first | (with_reducible exact HR270_0.out) | (with_reducible refine Kd.C_alloc ?_ _) | (with_reducible refine Kd.C_drewN ?_ _) | (with_reducible refine Kd.C_drew ?_) | exact HR270_0.out)) a2 p271 q271; cases e271; replace p271 := eq_true p271; replace q271 := eq_true q271)))
         go_ret3
         exact ⟨by first | rfl | (simp [errW_none, errW_some] <;> rfl) | (simp [*, errW_none, errW_some] <;> rfl), by repeat (first | (with_reducible first | exact HB.out | apply below_alloc | apply pw_below_drewN | apply below_drew1 | refine below_set ?_ GE263.out) | exact HB.out)⟩
        ·rw [if_neg c14] at H
         have c14b0 : ((rd (rd_L6 t264 a1) a2) == 1000000) = false := beq_eq_false_iff_ne.mpr c14
         have c14b1 : ((rd (rd_L6 t264 a1) a2) != 1000000) = true := bne_iff_ne.mpr c14
         by_cases c23 : a2 < (t264.length : Int)
         ·rw [if_pos c23] at H
          have c23b0 : decide (a2 < (t264.length : Int)) = true := decide_eq_true c23
          clear c23
          by_cases c24 : a1 < ((rd_L6 t264 a2).length : Int)
          ·rw [if_pos c24] at H
           have c24b0 : decide (a1 < ((rd_L6 t264 a2).length : Int)) = true := decide_eq_true c24
           clear c24
           by_cases c25 : (rd (rd_L6 t264 a2) a1) = 1000000
           ·rw [if_pos c25] at H
            have c25b0 : ((rd (rd_L6 t264 a2) a1) == 1000000) = true := beq_iff_eq.mpr c25
            have c25b1 : ((rd (rd_L6 t264 a2) a1) != 1000000) = false := bne_eq_false_iff_eq.mpr c25
            clear c25
            simp only [Option.some.injEq, Prod.mk.injEq] at H
            obtain ⟨rfl, rfl, rfl⟩ := H
            go_enter Try.func15, Try.ntmps15
            go_wp2_with (first | ((with_reducible refine gate_dst (N := 3) rfl ?_); refine box_event ?hg (N := 3) ?hd (cs := #[.int .i64 a0_0, .slice A0_1 l0_1.length c0_1]) (t := 26) ?hr ?_; (case hd => rfl); (case hg => rfl); (case hr => first | (go_simp; done) | (go_simp; rfl)); intro gb263 hg w26 hbox hb; have n0_ := Aside0.mk (below_step (by repeat (first | (with_reducible first | exact HB.out | apply below_alloc | apply pw_below_drewN | apply below_drew1) | exact HB.out)) hb); have n1_ := Aside0.mk (hbox); have n2_ := Aside0.mk ((by rw [hg]; exact (below_size (by repeat (first | (with_reducible first | exact HB.out | apply below_alloc | apply pw_below_drewN | apply below_drew1) | exact HB.out))) : w.heap.size ≤ gb263)); have n3_ := Aside0.mk ((by rw [hg]; exact (below_size (by repeat (first | (with_reducible first | exact HB.out | apply below_alloc | apply pw_below_drewN | apply below_drew1) | exact HB.out))) : w.heap.size ≤ gb263)); clear HB; have HB := n0_; have BK263 := n1_; have GW263 := n2_; have GE263 := n3_; clear n0_ n1_ n2_ n3_; clear hb hbox hg; have hcz27_0 : w26.cell? ⟨gb263, 0, none⟩ = some (.int .i64 a0_0) := (blk_cell BK263.out 0).trans rfl; have hcz27_1 : w26.cell? ⟨gb263, 1, none⟩ = some (.slice A0_1 l0_1.length c0_1) := (blk_cell BK263.out 1).trans rfl; have hfz27_0 := blk_frozen BK263.out 0; have hfz27_1 := blk_frozen BK263.out 1) | (go_at_call 16; (with_reducible refine (impl_TightestBounds.calls k a0_0 _ _ l0_1 t264 true _ ?side1 ?side2 A4.out).mono ?_); (case side1 => repeat (first | exact (Kd.C_below HR0_1.out HB.out) | (with_reducible refine Kd.C_alloc ?_ _) | (with_reducible refine Kd.C_drewN ?_ _) | (with_reducible refine Kd.C_drew ?_))); (case side2 => exact HC0_1.out); rintro e w28 ⟨v265, rfl, ho0, hb⟩; have n0_ := Aside0.mk (Kd.S_lower ho0 (below_size (by repeat (first | (with_reducible first | exact HB.out | apply below_alloc | apply pw_below_drewN | apply below_drew1 | refine below_set ?_ GE263.out) | exact HB.out)))); have n1_ := Aside0.mk (blk_below (g := gb263) (o := .cells #[.int .i64 a0_0, .slice A0_1 l0_1.length c0_1] 26 (0, 0)) (by (with_reducible repeat (first | refine blk_drewN ?_ _ | refine blk_drew ?_ | refine blk_alloc ?_ _)); exact BK263.out) hb); have n2_ := Aside0.mk (below_step (by repeat (first | (with_reducible first | exact HB.out | apply below_alloc | apply pw_below_drewN | apply below_drew1 | refine below_set ?_ GE263.out) | exact HB.out)) hb); clear BK263; clear HB; have HO266 := n0_; have BK263 := n1_; have HB := n2_; clear n0_ n1_ n2_; (try clear hb); (try clear hb2); (try clear hk); (try clear hi); (try clear ho0); have hcz29_0 : w28.cell? ⟨gb263, 0, none⟩ = some (.int .i64 a0_0) := (blk_cell BK263.out 0).trans rfl; have hcz29_1 : w28.cell? ⟨gb263, 1, none⟩ = some (.slice A0_1 l0_1.length c0_1) := (blk_cell BK263.out 1).trans rfl; have hfz29_0 := blk_frozen BK263.out 0; have hfz29_1 := blk_frozen BK263.out 1) | (go_at_call 41; (with_reducible refine (impl_Diagram_isEvent.calls a0_0 _ _ l0_1 a1 true _ ?side1 ?side2 A6.out).mono ?_); (case side1 => repeat (first | exact (Kd.C_below HR0_1.out HB.out) | (with_reducible refine Kd.C_alloc ?_ _) | (with_reducible refine Kd.C_drewN ?_ _) | (with_reducible refine Kd.C_drew ?_))); (case side2 => exact HC0_1.out); rintro e w30 ⟨rfl, hb⟩; have n0_ := Aside0.mk (Kd.S_below (by (with_reducible repeat (first | apply Kd.S_alloc | apply Kd.S_drewN | apply Kd.S_drew)); exact HO266.out) hb); have n1_ := Aside0.mk (blk_below (g := gb263) (o := .cells #[.int .i64 a0_0, .slice A0_1 l0_1.length c0_1] 26 (0, 0)) (by (with_reducible repeat (first | refine blk_drewN ?_ _ | refine blk_drew ?_ | refine blk_alloc ?_ _)); exact BK263.out) hb); have n2_ := Aside0.mk (below_step (by repeat (first | (with_reducible first | exact HB.out | apply below_alloc | apply pw_below_drewN | apply below_drew1 | refine below_set ?_ GE263.out) | exact HB.out)) hb); clear HO266; clear BK263; clear HB; have HO266 := n0_; have BK263 := n1_; have HB := n2_; clear n0_ n1_ n2_; (try clear hb); (try clear hb2); (try clear hk); (try clear hi); have hcz31_0 : w30.cell? ⟨gb263, 0, none⟩ = some (.int .i64 a0_0) := (blk_cell BK263.out 0).trans rfl; have hcz31_1 : w30.cell? ⟨gb263, 1, none⟩ = some (.slice A0_1 l0_1.length c0_1) := (blk_cell BK263.out 1).trans rfl; have hfz31_0 := blk_frozen BK263.out 0; have hfz31_1 := blk_frozen BK263.out 1) | (go_at_call 41; (with_reducible refine (impl_Diagram_isEvent.calls a0_0 _ _ l0_1 a2 true _ ?side1 ?side2 A8.out).mono ?_); (case side1 => repeat (first | exact (Kd.C_below HR0_1.out HB.out) | (with_reducible refine Kd.C_alloc ?_ _) | (with_reducible refine Kd.C_drewN ?_ _) | (with_reducible refine Kd.C_drew ?_))); (case side2 => exact HC0_1.out); rintro e w32 ⟨rfl, hb⟩; have n0_ := Aside0.mk (Kd.S_below (by (with_reducible repeat (first | apply Kd.S_alloc | apply Kd.S_drewN | apply Kd.S_drew)); exact HO266.out) hb); have n1_ := Aside0.mk (blk_below (g := gb263) (o := .cells #[.int .i64 a0_0, .slice A0_1 l0_1.length c0_1] 26 (0, 0)) (by (with_reducible repeat (first | refine blk_drewN ?_ _ | refine blk_drew ?_ | refine blk_alloc ?_ _)); exact BK263.out) hb); have n2_ := Aside0.mk (below_step (by repeat (first | (with_reducible first | exact HB.out | apply below_alloc | apply pw_below_drewN | apply below_drew1 | refine below_set ?_ GE263.out) | exact HB.out)) hb); clear HO266; clear BK263; clear HB; have HO266 := n0_; have BK263 := n1_; have HB := n2_; clear n0_ n1_ n2_; (try clear hb); (try clear hb2); (try clear hk); (try clear hi); obtain ⟨Ao33, co33, eo33⟩ := Kd.S_slice HO266.out; subst eo33; have p270 : 0 ≤ (a1 : Int) := of_decide_eq_true (by with_reducible assumption); have q270 : a1 < (t264.length : Int) := of_decide_eq_true (by with_reducible assumption); obtain ⟨ad270, A270_0, c270_0, e270, hx270_0, hl270_0, hi270_0⟩ := at_L6 (Kd.S_reads' HO266.out).2.2 a1 p270 q270; cases e270; obtain ⟨ce270, hce270, hMe270, hcc270⟩ := Kd.S_get HO266.out [] a1 p270 (by first | exact q270 | exact of_decide_eq_true (by with_reducible assumption) | (have e_ := (Kd.S_reads' HO266.out).1; omega)); obtain ⟨ve270_0, rfl, ge270_0⟩ := hMe270; have hv270_0 := hcc270 0 _ rfl; rw [Nat.add_zero, show ((Kd.slice 2 (Kd.int .i64))).sz = 1 from rfl, Nat.mul_one] at hv270_0; replace hv270_0 := Option.some.inj (hv270_0.symm.trans hx270_0); rw [hv270_0] at ge270_0; have HL270_0 := Aside0.mk (show Kd.R (Kd.int .i64) 2 _ _ _ _ (rd_L6 t264 a1) from ge270_0); clear hv270_0 ge270_0; clear hcc270 hce270; have HR270_0 := Aside0.mk hi270_0; have HC270_0 := Aside0.mk hl270_0; clear hi270_0 hl270_0; replace p270 := eq_true p270; replace q270 := eq_true q270; have p271 : 0 ≤ (a2 : Int) := of_decide_eq_true (by with_reducible assumption); have q271 : a2 < ((rd_L6 t264 a1).length : Int) := of_decide_eq_true (by with_reducible assumption); obtain ⟨ad271, e271, hx271_0⟩ := Kd.at_int (by repeat (first | (with_reducible exact HR270_0.out) | (with_reducible refine Kd.C_alloc ?_ _) | (with_reducible refine Kd.C_drewN ?_ _) | (with_reducible refine Kd.C_drew ?_) | exact HR270_0.out)) a2 p271 q271; cases e271; replace p271 := eq_true p271; replace q271 := eq_true q271; have p272 : 0 ≤ (a2 : Int) := of_decide_eq_true (by with_reducible assumption); have q272 : a2 < (t264.length : Int) := of_decide_eq_true (by with_reducible assumption); obtain ⟨ad272, A272_0, c272_0, e272, hx272_0, hl272_0, hi272_0⟩ := at_L6 (Kd.S_reads' HO266.out).2.2 a2 p272 q272; obtain rfl : ad270 = ad272 := (by injection e272); obtain ⟨ce272, hce272, hMe272, hcc272⟩ := Kd.S_get HO266.out [] a2 p272 (by first | exact q272 | exact of_decide_eq_true (by with_reducible assumption) | (have e_ := (Kd.S_reads' HO266.out).1; omega)); obtain ⟨ve272_0, rfl, ge272_0⟩ := hMe272; have hv272_0 := hcc272 0 _ rfl; rw [Nat.add_zero, show ((Kd.slice 2 (Kd.int .i64))).sz = 1 from rfl, Nat.mul_one] at hv272_0; replace hv272_0 := Option.some.inj (hv272_0.symm.trans hx272_0); rw [hv272_0] at ge272_0; have HL272_0 := Aside0.mk (show Kd.R (Kd.int .i64) 2 _ _ _ _ (rd_L6 t264 a2) from ge272_0); clear hv272_0 ge272_0; clear hcc272 hce272; have HR272_0 := Aside0.mk hi272_0; have HC272_0 := Aside0.mk hl272_0; clear hi272_0 hl272_0; replace p272 := eq_true p272; replace q272 := eq_true q272; have p273 : 0 ≤ (a1 : Int) := of_decide_eq_true (by with_reducible assumption); have q273 : a1 < ((rd_L6 t264 a2).length : Int) := of_decide_eq_true (by with_reducible assumption); obtain ⟨ad273, e273, hx273_0⟩ := Kd.at_int (by repeat (first | (with_reducible exact HR272_0.out) | (with_reducible refine Kd.C_alloc ?_ _) | (with_reducible refine Kd.C_drewN ?_ _) | (with_reducible refine Kd.C_drew ?_) | exact HR272_0.out)) a1 p273 q273; cases e273; replace p273 := eq_true p273; replace q273 := eq_true q273))
            repeat (go_quiet (first | ((with_reducible refine gate_dst (N := 3) rfl ?_); refine box_event ?hg (N := 3) ?hd (cs := #[.int .i64 a0_0, .slice A0_1 l0_1.length c0_1]) (t := 26) ?hr ?_; (case hd => rfl); (case hg => rfl); (case hr => first | (go_simp; done) | (go_simp; rfl)); intro gb263 hg w26 hbox hb; have n0_ := Aside0.mk (below_step (by repeat (first | (with_reducible first | exact HB.out | apply below_alloc | apply pw_below_drewN | apply below_drew1) | exact HB.out)) hb); have n1_ := Aside0.mk (hbox); have n2_ := Aside0.mk ((by rw [hg]; exact (below_size (by repeat (first | (with_reducible first | exact HB.out | apply below_alloc | apply pw_below_drewN | apply below_drew1) | exact HB.out))) : w.heap.size ≤ gb263)); have n3_ := Aside0.mk ((by rw [hg]; exact (below_size (by repeat (first | (with_reducible first | exact HB.out | apply below_alloc | apply pw_below_drewN | apply below_drew1) | exact HB.out))) : w.heap.size ≤ gb263)); clear HB; have HB := n0_; have BK263 := n1_; have GW263 := n2_; have GE263 := n3_; clear n0_ n1_ n2_ n3_; clear hb hbox hg; have hcz27_0 : w26.cell? ⟨gb263, 0, none⟩ = some (.int .i64 a0_0) := (blk_cell BK263.out 0).trans rfl; have hcz27_1 : w26.cell? ⟨gb263, 1, none⟩ = some (.slice A0_1 l0_1.length c0_1) := (blk_cell BK263.out 1).trans rfl; have hfz27_0 := blk_frozen BK263.out 0; have hfz27_1 := blk_frozen BK263.out 1) | (go_at_call 16; (with_reducible refine (impl_TightestBounds.calls k a0_0 _ _ l0_1 t264 true _ ?side1 ?side2 A4.out).mono ?_); (case side1 => repeat (first | exact (Kd.C_below HR0_1.out HB.out) | (with_reducible refine Kd.C_alloc ?_ _) | (with_reducible refine Kd.C_drewN ?_ _) | (with_reducible refine Kd.C_drew ?_))); (case side2 => exact HC0_1.out); rintro e w28 ⟨v265, rfl, ho0, hb⟩; have n0_ := Aside0.mk (Kd.S_lower ho0 (below_size (by repeat (first | (with_reducible first | exact HB.out | apply below_alloc | apply pw_below_drewN | apply below_drew1 | refine below_set ?_ GE263.out) | exact HB.out)))); have n1_ := Aside0.mk (blk_below (g := gb263) (o := .cells #[.int .i64 a0_0, .slice A0_1 l0_1.length c0_1] 26 (0, 0)) (by (with_reducible repeat (first | refine blk_drewN ?_ _ | refine blk_drew ?_ | refine blk_alloc ?_ _)); exact BK263.out) hb); have n2_ := Aside0.mk (below_step (by repeat (first | (with_reducible first | exact HB.out | apply below_alloc | apply pw_below_drewN | apply below_drew1 | refine below_set ?_ GE263.out) | exact HB.out)) hb); clear BK263; clear HB; have HO266 := n0_; have BK263 := n1_; have HB := n2_; clear n0_ n1_ n2_; (try clear hb); (try clear hb2); (try clear hk); (try clear hi); (try clear ho0); have hcz29_0 : w28.cell? ⟨gb263, 0, none⟩ = some (.int .i64 a0_0) := (blk_cell BK263.out 0).trans rfl; have hcz29_1 : w28.cell? ⟨gb263, 1, none⟩ = some (.slice A0_1 l0_1.length c0_1) := (blk_cell BK263.out 1).trans rfl; have hfz29_0 := blk_frozen BK263.out 0; have hfz29_1 := blk_frozen BK263.out 1) | (go_at_call 41; (with_reducible refine (impl_Diagram_isEvent.calls a0_0 _ _ l0_1 a1 true _ ?side1 ?side2 A6.out).mono ?_); (case side1 => repeat (first | exact (Kd.C_below HR0_1.out HB.out) | (with_reducible refine Kd.C_alloc ?_ _) | (with_reducible refine Kd.C_drewN ?_ _) | (with_reducible refine Kd.C_drew ?_))); (case side2 => exact HC0_1.out); rintro e w30 ⟨rfl, hb⟩; have n0_ := Aside0.mk (Kd.S_below (by (with_reducible repeat (first | apply Kd.S_alloc | apply Kd.S_drewN | apply Kd.S_drew)); exact HO266.out) hb); have n1_ := Aside0.mk (blk_below (g := gb263) (o := .cells #[.int .i64 a0_0, .slice A0_1 l0_1.length c0_1] 26 (0, 0)) (by (with_reducible repeat (first | refine blk_drewN ?_ _ | refine blk_drew ?_ | refine blk_alloc ?_ _)); exact BK263.out) hb); have n2_ := Aside0.mk (below_step (by repeat (first | (with_reducible first | exact HB.out | apply below_alloc | apply pw_below_drewN | apply below_drew1 | refine below_set ?_ GE263.out) | exact HB.out)) hb); clear HO266; clear BK263; clear HB; have HO266 := n0_; have BK263 := n1_; have HB := n2_; clear n0_ n1_ n2_; (try clear hb); (try clear hb2); (try clear hk); (try clear hi); have hcz31_0 : w30.cell? ⟨gb263, 0, none⟩ = some (.int .i64 a0_0) := (blk_cell BK263.out 0).trans rfl; have hcz31_1 : w30.cell? ⟨gb263, 1, none⟩ = some (.slice A0_1 l0_1.length c0_1) := (blk_cell BK263.out 1).trans rfl; have hfz31_0 := blk_frozen BK263.out 0; have hfz31_1 := blk_frozen BK263.out 1) | (go_at_call 41; (with_reducible refine (impl_Diagram_isEvent.calls a0_0 _ _ l0_1 a2 true _ ?side1 ?side2 A8.out).mono ?_); (case side1 => repeat (first | exact (Kd.C_below HR0_1.out HB.out) | (with_reducible refine Kd.C_alloc ?_ _) | (with_reducible refine Kd.C_drewN ?_ _) | (with_reducible refine Kd.C_drew ?_))); (case side2 => exact HC0_1.out); rintro e w32 ⟨rfl, hb⟩; have n0_ := Aside0.mk (Kd.S_below (by (with_reducible repeat (first | apply Kd.S_alloc | apply Kd.S_drewN | apply Kd.S_drew)); exact HO266.out) hb); have n1_ := Aside0.mk (blk_below (g := gb263) (o := .cells #[.int .i64 a0_0, .slice A0_1 l0_1.length c0_1] 26 (0, 0)) (by (with_reducible repeat (first | refine blk_drewN ?_ _ | refine blk_drew ?_ | refine blk_alloc ?_ _)); exact BK263.out) hb); have n2_ := Aside0.mk (below_step (by repeat (first | (with_reducible first | exact HB.out | apply below_alloc | apply pw_below_drewN | apply below_drew1 | refine below_set ?_ GE263.out) | exact HB.out)) hb); clear HO266; clear BK263; clear HB; have HO266 := n0_; have BK263 := n1_; have HB := n2_; clear n0_ n1_ n2_; (try clear hb); (try clear hb2); (try clear hk); (try clear hi); obtain ⟨Ao33, co33, eo33⟩ := Kd.S_slice HO266.out; subst eo33; have p270 : 0 ≤ (a1 : Int) := of_decide_eq_true (by with_reducible assumption); have q270 : a1 < (t264.length : Int) := of_decide_eq_true (by with_reducible assumption); obtain ⟨ad270, A270_0, c270_0, e270, hx270_0, hl270_0, hi270_0⟩ := at_L6 (Kd.S_reads' HO266.out).2.2 a1 p270 q270; cases e270; obtain ⟨ce270, hce270, hMe270, hcc270⟩ := Kd.S_get HO266.out [] a1 p270 (by first | exact q270 | exact of_decide_eq_true (by with_reducible assumption) | (have e_ := (Kd.S_reads' HO266.out).1; omega)); obtain ⟨ve270_0, rfl, ge270_0⟩ := hMe270; have hv270_0 := hcc270 0 _ rfl; rw [Nat.add_zero, show ((Kd.slice 2 (Kd.int .i64))).sz = 1 from rfl, Nat.mul_one] at hv270_0; replace hv270_0 := Option.some.inj (hv270_0.symm.trans hx270_0); rw [hv270_0] at ge270_0; have HL270_0 := Aside0.mk (show Kd.R (Kd.int .i64) 2 _ _ _ _ (rd_L6 t264 a1) from ge270_0); clear hv270_0 ge270_0; clear hcc270 hce270; have HR270_0 := Aside0.mk hi270_0; have HC270_0 := Aside0.mk hl270_0; clear hi270_0 hl270_0; replace p270 := eq_true p270; replace q270 := eq_true q270; have p271 : 0 ≤ (a2 : Int) := of_decide_eq_true (by with_reducible assumption); have q271 : a2 < ((rd_L6 t264 a1).length : Int) := of_decide_eq_true (by with_reducible assumption); obtain ⟨ad271, e271, hx271_0⟩ := Kd.at_int (by repeat (first | (with_reducible exact HR270_0.out) | (with_reducible refine Kd.C_alloc ?_ _) | (with_reducible refine Kd.C_drewN ?_ _) | (with_reducible refine Kd.C_drew ?_) | exact HR270_0.out)) a2 p271 q271; cases e271; replace p271 := eq_true p271; replace q271 := eq_true q271; have p272 : 0 ≤ (a2 : Int) := of_decide_eq_true (by with_reducible assumption); have q272 : a2 < (t264.length : Int) := of_decide_eq_true (by with_reducible assumption); obtain ⟨ad272, A272_0, c272_0, e272, hx272_0, hl272_0, hi272_0⟩ := at_L6 (Kd.S_reads' HO266.out).2.2 a2 p272 q272; obtain rfl : ad270 = ad272 := (by injection e272); obtain ⟨ce272, hce272, hMe272, hcc272⟩ := Kd.S_get HO266.out [] a2 p272 (by first | exact q272 | exact of_decide_eq_true (by with_reducible assumption) | (have e_ := (Kd.S_reads' HO266.out).1; omega)); obtain ⟨ve272_0, rfl, ge272_0⟩ := hMe272; have hv272_0 := hcc272 0 _ rfl; rw [Nat.add_zero, show ((Kd.slice 2 (Kd.int .i64))).sz = 1 from rfl, Nat.mul_one] at hv272_0; replace hv272_0 := Option.some.inj (hv272_0.symm.trans hx272_0); rw [hv272_0] at ge272_0; have HL272_0 := Aside0.mk (show Kd.R (Kd.int .i64) 2 _ _ _ _ (rd_L6 t264 a2) from ge272_0); clear hv272_0 ge272_0; clear hcc272 hce272; have HR272_0 := Aside0.mk hi272_0; have HC272_0 := Aside0.mk hl272_0; clear hi272_0 hl272_0; replace p272 := eq_true p272; replace q272 := eq_true q272; have p273 : 0 ≤ (a1 : Int) := of_decide_eq_true (by with_reducible assumption); have q273 : a1 < ((rd_L6 t264 a2).length : Int) := of_decide_eq_true (by with_reducible assumption); obtain ⟨ad273, e273, hx273_0⟩ := Kd.at_int (by repeat (first | (with_reducible exact HR272_0.out) | (with_reducible refine Kd.C_alloc ?_ _) | (with_reducible refine Kd.C_drewN ?_ _) | (with_reducible refine Kd.C_drew ?_) | exact HR272_0.out)) a1 p273 q273; cases e273; replace p273 := eq_true p273; replace q273 := eq_true q273)); try go_wp2_with (first | ((with_reducible refine gate_dst (N := 3) rfl ?_); refine box_event ?hg (N := 3) ?hd (cs := #[.int .i64 a0_0, .slice A0_1 l0_1.length c0_1]) (t := 26) ?hr ?_; (case hd => rfl); (case hg => rfl); (case hr => first | (go_simp; done) | (go_simp; rfl)); intro gb263 hg w26 hbox hb; have n0_ := Aside0.mk (below_step (by repeat (first | (with_reducible first | exact HB.out | apply below_alloc | apply pw_below_drewN | apply below_drew1) | exact HB.out)) hb); have n1_ := Aside0.mk (hbox); have n2_ := Aside0.mk ((by rw [hg]; exact (below_size (by repeat (first | (with_reducible first | exact HB.out | apply below_alloc | apply pw_below_drewN | apply below_drew1) | exact HB.out))) : w.heap.size ≤ gb263)); have n3_ := Aside0.mk ((by rw [hg]; exact (below_size (by repeat (first | (with_reducible first | exact HB.out | apply below_alloc | apply pw_below_drewN | apply below_drew1) | exact HB.out))) : w.heap.size ≤ gb263)); clear HB; have HB := n0_; have BK263 := n1_; have GW263 := n2_; have GE263 := n3_; clear n0_ n1_ n2_ n3_; clear hb hbox hg; have hcz27_0 : w26.cell? ⟨gb263, 0, none⟩ = some (.int .i64 a0_0) := (blk_cell BK263.out 0).trans rfl; have hcz27_1 : w26.cell? ⟨gb263, 1, none⟩ = some (.slice A0_1 l0_1.length c0_1) := (blk_cell BK263.out 1).trans rfl; have hfz27_0 := blk_frozen BK263.out 0; have hfz27_1 := blk_frozen BK263.out 1) | (go_at_call 16; (with_reducible refine (impl_TightestBounds.calls k a0_0 _ _ l0_1 t264 true _ ?side1 ?side2 A4.out).mono ?_); (case side1 => repeat (first | exact (Kd.C_below HR0_1.out HB.out) | (with_reducible refine Kd.C_alloc ?_ _) | (with_reducible refine Kd.C_drewN ?_ _) | (with_reducible refine Kd.C_drew ?_))); (case side2 => exact HC0_1.out); rintro e w28 ⟨v265, rfl, ho0, hb⟩; have n0_ := Aside0.mk (Kd.S_lower ho0 (below_size (by repeat (first | (with_reducible first | exact HB.out | apply below_alloc | apply pw_below_drewN | apply below_drew1 | refine below_set ?_ GE263.out) | exact HB.out)))); have n1_ := Aside0.mk (blk_below (g := gb263) (o := .cells #[.int .i64 a0_0, .slice A0_1 l0_1.length c0_1] 26 (0, 0)) (by (with_reducible repeat (first | refine blk_drewN ?_ _ | refine blk_drew ?_ | refine blk_alloc ?_ _)); exact BK263.out) hb); have n2_ := Aside0.mk (below_step (by repeat (first | (with_reducible first | exact HB.out | apply below_alloc | apply pw_below_drewN | apply below_drew1 | refine below_set ?_ GE263.out) | exact HB.out)) hb); clear BK263; clear HB; have HO266 := n0_; have BK263 := n1_; have HB := n2_; clear n0_ n1_ n2_; (try clear hb); (try clear hb2); (try clear hk); (try clear hi); (try clear ho0); have hcz29_0 : w28.cell? ⟨gb263, 0, none⟩ = some (.int .i64 a0_0) := (blk_cell BK263.out 0).trans rfl; have hcz29_1 : w28.cell? ⟨gb263, 1, none⟩ = some (.slice A0_1 l0_1.length c0_1) := (blk_cell BK263.out 1).trans rfl; have hfz29_0 := blk_frozen BK263.out 0; have hfz29_1 := blk_frozen BK263.out 1) | (go_at_call 41; (with_reducible refine (impl_Diagram_isEvent.calls a0_0 _ _ l0_1 a1 true _ ?side1 ?side2 A6.out).mono ?_); (case side1 => repeat (first | exact (Kd.C_below HR0_1.out HB.out) | (with_reducible refine Kd.C_alloc ?_ _) | (with_reducible refine Kd.C_drewN ?_ _) | (with_reducible refine Kd.C_drew ?_))); (case side2 => exact HC0_1.out); rintro e w30 ⟨rfl, hb⟩; have n0_ := Aside0.mk (Kd.S_below (by (with_reducible repeat (first | apply Kd.S_alloc | apply Kd.S_drewN | apply Kd.S_drew)); exact HO266.out) hb); have n1_ := Aside0.mk (blk_below (g := gb263) (o := .cells #[.int .i64 a0_0, .slice A0_1 l0_1.length c0_1] 26 (0, 0)) (by (with_reducible repeat (first | refine blk_drewN ?_ _ | refine blk_drew ?_ | refine blk_alloc ?_ _)); exact BK263.out) hb); have n2_ := Aside0.mk (below_step (by repeat (first | (with_reducible first | exact HB.out | apply below_alloc | apply pw_below_drewN | apply below_drew1 | refine below_set ?_ GE263.out) | exact HB.out)) hb); clear HO266; clear BK263; clear HB; have HO266 := n0_; have BK263 := n1_; have HB := n2_; clear n0_ n1_ n2_; (try clear hb); (try clear hb2); (try clear hk); (try clear hi); have hcz31_0 : w30.cell? ⟨gb263, 0, none⟩ = some (.int .i64 a0_0) := (blk_cell BK263.out 0).trans rfl; have hcz31_1 : w30.cell? ⟨gb263, 1, none⟩ = some (.slice A0_1 l0_1.length c0_1) := (blk_cell BK263.out 1).trans rfl; have hfz31_0 := blk_frozen BK263.out 0; have hfz31_1 := blk_frozen BK263.out 1) | (go_at_call 41; (with_reducible refine (impl_Diagram_isEvent.calls a0_0 _ _ l0_1 a2 true _ ?side1 ?side2 A8.out).mono ?_); (case side1 => repeat (first | exact (Kd.C_below HR0_1.out HB.out) | (with_reducible refine Kd.C_alloc ?_ _) | (with_reducible refine Kd.C_drewN ?_ _) | (with_reducible refine Kd.C_drew ?_))); (case side2 => exact HC0_1.out); rintro e w32 ⟨rfl, hb⟩; have n0_ := Aside0.mk (Kd.S_below (by (with_reducible repeat (first | apply Kd.S_alloc | apply Kd.S_drewN | apply Kd.S_drew)); exact HO266.out) hb); have n1_ := Aside0.mk (blk_below (g := gb263) (o := .cells #[.int .i64 a0_0, .slice A0_1 l0_1.length c0_1] 26 (0, 0)) (by (with_reducible repeat (first | refine blk_drewN ?_ _ | refine blk_drew ?_ | refine blk_alloc ?_ _)); exact BK263.out) hb); have n2_ := Aside0.mk (below_step (by repeat (first | (with_reducible first | exact HB.out | apply below_alloc | apply pw_below_drewN | apply below_drew1 | refine below_set ?_ GE263.out) | exact HB.out)) hb); clear HO266; clear BK263; clear HB; have HO266 := n0_; have BK263 := n1_; have HB := n2_; clear n0_ n1_ n2_; (try clear hb); (try clear hb2); (try clear hk); (try clear hi); obtain ⟨Ao33, co33, eo33⟩ := Kd.S_slice HO266.out; subst eo33; have p270 : 0 ≤ (a1 : Int) := of_decide_eq_true (by with_reducible assumption); have q270 : a1 < (t264.length : Int) := of_decide_eq_true (by with_reducible assumption); obtain ⟨ad270, A270_0, c270_0, e270, hx270_0, hl270_0, hi270_0⟩ := at_L6 (Kd.S_reads' HO266.out).2.2 a1 p270 q270; cases e270; obtain ⟨ce270, hce270, hMe270, hcc270⟩ := Kd.S_get HO266.out [] a1 p270 (by first | exact q270 | exact of_decide_eq_true (by with_reducible assumption) | (have e_ := (Kd.S_reads' HO266.out).1; omega)); obtain ⟨ve270_0, rfl, ge270_0⟩ := hMe270; have hv270_0 := hcc270 0 _ rfl; rw [Nat.add_zero, show ((Kd.slice 2 (Kd.int .i64))).sz = 1 from rfl, Nat.mul_one] at hv270_0; replace hv270_0 := Option.some.inj (hv270_0.symm.trans hx270_0); rw [hv270_0] at ge270_0; have HL270_0 := Aside0.mk (show Kd.R (Kd.int .i64) 2 _ _ _ _ (rd_L6 t264 a1) from ge270_0); clear hv270_0 ge270_0; clear hcc270 hce270; have HR270_0 := Aside0.mk hi270_0; have HC270_0 := Aside0.mk hl270_0; clear hi270_0 hl270_0; replace p270 := eq_true p270; replace q270 := eq_true q270; have p271 : 0 ≤ (a2 : Int) := of_decide_eq_true (by with_reducible assumption); have q271 : a2 < ((rd_L6 t264 a1).length : Int) := of_decide_eq_true (by with_reducible assumption); obtain ⟨ad271, e271, hx271_0⟩ := Kd.at_int (by repeat (first | (with_reducible exact HR270_0.out) | (with_reducible refine Kd.C_alloc ?_ _) | (with_reducible refine Kd.C_drewN ?_ _) | (with_reducible refine Kd.C_drew ?_) | exact HR270_0.out)) a2 p271 q271; cases e271; replace p271 := eq_true p271; replace q271 := eq_true q271; have p272 : 0 ≤ (a2 : Int) := of_decide_eq_true (by with_reducible assumption); have q272 : a2 < (t264.length : Int) := of_decide_eq_true (by with_reducible assumption); obtain ⟨ad272, A272_0, c272_0, e272, hx272_0, hl272_0, hi272_0⟩ := at_L6 (Kd.S_reads' HO266.out).2.2 a2 p272 q272; obtain rfl : ad270 = ad272 := (by injection e272); obtain ⟨ce272, hce272, hMe272, hcc272⟩ := Kd.S_get HO266.out [] a2 p272 (by first | exact q272 | exact of_decide_eq_true (by with_reducible assumption) | (have e_ := (Kd.S_reads' HO266.out).1; omega)); obtain ⟨ve272_0, rfl, ge272_0⟩ := hMe272; have hv272_0 := hcc272 0 _ rfl; rw [Nat.add_zero, show ((Kd.slice 2 (Kd.int .i64))).sz = 1 from rfl, Nat.mul_one] at hv272_0; replace hv272_0 := Option.some.inj (hv272_0.symm.trans hx272_0); rw [hv272_0] at ge272_0; have HL272_0 := Aside0.mk (show Kd.R (Kd.int .i64) 2 _ _ _ _ (rd_L6 t264 a2) from ge272_0); clear hv272_0 ge272_0; clear hcc272 hce272; have HR272_0 := Aside0.mk hi272_0; have HC272_0 := Aside0.mk hl272_0; clear hi272_0 hl272_0; replace p272 := eq_true p272; replace q272 := eq_true q272; have p273 : 0 ≤ (a1 : Int) := of_decide_eq_true (by with_reducible assumption); have q273 : a1 < ((rd_L6 t264 a2).length : Int) := of_decide_eq_true (by with_reducible assumption); obtain ⟨ad273, e273, hx273_0⟩ := Kd.at_int (by repeat (first | (with_reducible exact HR272_0.out) | (with_reducible refine Kd.C_alloc ?_ _) | (with_reducible refine Kd.C_drewN ?_ _) | (with_reducible refine Kd.C_drew ?_) | exact HR272_0.out)) a1 p273 q273; cases e273; replace p273 := eq_true p273; replace q273 := eq_true q273)))
            go_ret3
            exact ⟨by first | rfl | (simp [errW_none, errW_some] <;> rfl) | (simp [*, errW_none, errW_some] <;> rfl), by repeat (first | (with_reducible first | exact HB.out | apply below_alloc | apply pw_below_drewN | apply below_drew1 | refine below_set ?_ GE263.out) | exact HB.out)⟩
           ·rw [if_neg c25] at H
            have c25b0 : ((rd (rd_L6 t264 a2) a1) == 1000000) = false := beq_eq_false_iff_ne.mpr c25
            have c25b1 : ((rd (rd_L6 t264 a2) a1) != 1000000) = true := bne_iff_ne.mpr c25
            simp only [Option.some.injEq, Prod.mk.injEq] at H
            obtain ⟨rfl, rfl, rfl⟩ := H
            go_enter Try.func15, Try.ntmps15
            go_wp2_with (first | ((with_reducible refine gate_dst (N := 3) rfl ?_); refine box_event ?hg (N := 3) ?hd (cs := #[.int .i64 a0_0, .slice A0_1 l0_1.length c0_1]) (t := 26) ?hr ?_; (case hd => rfl); (case hg => rfl); (case hr => first | (go_simp; done) | (go_simp; rfl)); intro gb263 hg w34 hbox hb; have n0_ := Aside0.mk (below_step (by repeat (first | (with_reducible first | exact HB.out | apply below_alloc | apply pw_below_drewN | apply below_drew1) | exact HB.out)) hb); have n1_ := Aside0.mk (hbox); have n2_ := Aside0.mk ((by rw [hg]; exact (below_size (by repeat (first | (with_reducible first | exact HB.out | apply below_alloc | apply pw_below_drewN | apply below_drew1) | exact HB.out))) : w.heap.size ≤ gb263)); have n3_ := Aside0.mk ((by rw [hg]; exact (below_size (by repeat (first | (with_reducible first | exact HB.out | apply below_alloc | apply pw_below_drewN | apply below_drew1) | exact HB.out))) : w.heap.size ≤ gb263)); clear HB; have HB := n0_; have BK263 := n1_; have GW263 := n2_; have GE263 := n3_; clear n0_ n1_ n2_ n3_; clear hb hbox hg; have hcz35_0 : w34.cell? ⟨gb263, 0, none⟩ = some (.int .i64 a0_0) := (blk_cell BK263.out 0).trans rfl; have hcz35_1 : w34.cell? ⟨gb263, 1, none⟩ = some (.slice A0_1 l0_1.length c0_1) := (blk_cell BK263.out 1).trans rfl; have hfz35_0 := blk_frozen BK263.out 0; have hfz35_1 := blk_frozen BK263.out 1) | (go_at_call 16; (with_reducible refine (impl_TightestBounds.calls k a0_0 _ _ l0_1 t264 true _ ?side1 ?side2 A4.out).mono ?_); (case side1 => repeat (first | exact (Kd.C_below HR0_1.out HB.out) | (with_reducible refine Kd.C_alloc ?_ _) | (with_reducible refine Kd.C_drewN ?_ _) | (with_reducible refine Kd.C_drew ?_))); (case side2 => exact HC0_1.out); rintro e w36 ⟨v265, rfl, ho0, hb⟩; have n0_ := Aside0.mk (Kd.S_lower ho0 (below_size (by repeat (first | (with_reducible first | exact HB.out | apply below_alloc | apply pw_below_drewN | apply below_drew1 | refine below_set ?_ GE263.out) | exact HB.out)))); have n1_ := Aside0.mk (blk_below (g := gb263) (o := .cells #[.int .i64 a0_0, .slice A0_1 l0_1.length c0_1] 26 (0, 0)) (by (with_reducible repeat (first | refine blk_drewN ?_ _ | refine blk_drew ?_ | refine blk_alloc ?_ _)); exact BK263.out) hb); have n2_ := Aside0.mk (below_step (by repeat (first | (with_reducible first | exact HB.out | apply below_alloc | apply pw_below_drewN | apply below_drew1 | refine below_set ?_ GE263.out) | exact HB.out)) hb); clear BK263; clear HB; have HO266 := n0_; have BK263 := n1_; have HB := n2_; clear n0_ n1_ n2_; (try clear hb); (try clear hb2); (try clear hk); (try clear hi); (try clear ho0); have hcz37_0 : w36.cell? ⟨gb263, 0, none⟩ = some (.int .i64 a0_0) := (blk_cell BK263.out 0).trans rfl; have hcz37_1 : w36.cell? ⟨gb263, 1, none⟩ = some (.slice A0_1 l0_1.length c0_1) := (blk_cell BK263.out 1).trans rfl; have hfz37_0 := blk_frozen BK263.out 0; have hfz37_1 := blk_frozen BK263.out 1) | (go_at_call 41; (with_reducible refine (impl_Diagram_isEvent.calls a0_0 _ _ l0_1 a1 true _ ?side1 ?side2 A6.out).mono ?_); (case side1 => repeat (first | exact (Kd.C_below HR0_1.out HB.out) | (with_reducible refine Kd.C_alloc ?_ _) | (with_reducible refine Kd.C_drewN ?_ _) | (with_reducible refine Kd.C_drew ?_))); (case side2 => exact HC0_1.out); rintro e w38 ⟨rfl, hb⟩; have n0_ := Aside0.mk (Kd.S_below (by (with_reducible repeat (first | apply Kd.S_alloc | apply Kd.S_drewN | apply Kd.S_drew)); exact HO266.out) hb); have n1_ := Aside0.mk (blk_below (g := gb263) (o := .cells #[.int .i64 a0_0, .slice A0_1 l0_1.length c0_1] 26 (0, 0)) (by (with_reducible repeat (first | refine blk_drewN ?_ _ | refine blk_drew ?_ | refine blk_alloc ?_ _)); exact BK263.out) hb); have n2_ := Aside0.mk (below_step (by repeat (first | (with_reducible first | exact HB.out | apply below_alloc | apply pw_below_drewN | apply below_drew1 | refine below_set ?_ GE263.out) | exact HB.out)) hb); clear HO266; clear BK263; clear HB; have HO266 := n0_; have BK263 := n1_; have HB := n2_; clear n0_ n1_ n2_; (try clear hb); (try clear hb2); (try clear hk); (try clear hi); have hcz39_0 : w38.cell? ⟨gb263, 0, none⟩ = some (.int .i64 a0_0) := (blk_cell BK263.out 0).trans rfl; have hcz39_1 : w38.cell? ⟨gb263, 1, none⟩ = some (.slice A0_1 l0_1.length c0_1) := (blk_cell BK263.out 1).trans rfl; have hfz39_0 := blk_frozen BK263.out 0; have hfz39_1 := blk_frozen BK263.out 1) | (go_at_call 41; (with_reducible refine (impl_Diagram_isEvent.calls a0_0 _ _ l0_1 a2 true _ ?side1 ?side2 A8.out).mono ?_); (case side1 => repeat (first | exact (Kd.C_below HR0_1.out HB.out) | (with_reducible refine Kd.C_alloc ?_ _) | (with_reducible refine Kd.C_drewN ?_ _) | (with_reducible refine Kd.C_drew ?_))); (case side2 => exact HC0_1.out); rintro e w40 ⟨rfl, hb⟩; have n0_ := Aside0.mk (Kd.S_below (by (with_reducible repeat (first | apply Kd.S_alloc | apply Kd.S_drewN | apply Kd.S_drew)); exact HO266.out) hb); have n1_ := Aside0.mk (blk_below (g := gb263) (o := .cells #[.int .i64 a0_0, .slice A0_1 l0_1.length c0_1] 26 (0, 0)) (by (with_reducible repeat (first | refine blk_drewN ?_ _ | refine blk_drew ?_ | refine blk_alloc ?_ _)); exact BK263.out) hb); have n2_ := Aside0.mk (below_step (by repeat (first | (with_reducible first | exact HB.out | apply below_alloc | apply pw_below_drewN | apply below_drew1 | refine below_set ?_ GE263.out) | exact HB.out)) hb); clear HO266; clear BK263; clear HB; have HO266 := n0_; have BK263 := n1_; have HB := n2_; clear n0_ n1_ n2_; (try clear hb); (try clear hb2); (try clear hk); (try clear hi); obtain ⟨Ao41, co41, eo41⟩ := Kd.S_slice HO266.out; subst eo41; have p270 : 0 ≤ (a1 : Int) := of_decide_eq_true (by with_reducible assumption); have q270 : a1 < (t264.length : Int) := of_decide_eq_true (by with_reducible assumption); obtain ⟨ad270, A270_0, c270_0, e270, hx270_0, hl270_0, hi270_0⟩ := at_L6 (Kd.S_reads' HO266.out).2.2 a1 p270 q270; cases e270; obtain ⟨ce270, hce270, hMe270, hcc270⟩ := Kd.S_get HO266.out [] a1 p270 (by first | exact q270 | exact of_decide_eq_true (by with_reducible assumption) | (have e_ := (Kd.S_reads' HO266.out).1; omega)); obtain ⟨ve270_0, rfl, ge270_0⟩ := hMe270; have hv270_0 := hcc270 0 _ rfl; rw [Nat.add_zero, show ((Kd.slice 2 (Kd.int .i64))).sz = 1 from rfl, Nat.mul_one] at hv270_0; replace hv270_0 := Option.some.inj (hv270_0.symm.trans hx270_0); rw [hv270_0] at ge270_0; have HL270_0 := Aside0.mk (show Kd.R (Kd.int .i64) 2 _ _ _ _ (rd_L6 t264 a1) from ge270_0); clear hv270_0 ge270_0; clear hcc270 hce270; have HR270_0 := Aside0.mk hi270_0; have HC270_0 := Aside0.mk hl270_0; clear hi270_0 hl270_0; replace p270 := eq_true p270; replace q270 := eq_true q270; have p271 : 0 ≤ (a2 : Int) := of_decide_eq_true (by with_reducible assumption); have q271 : a2 < ((rd_L6 t264 a1).length : Int) := of_decide_eq_true (by with_reducible assumption); obtain ⟨ad271, e271, hx271_0⟩ := Kd.at_int (by repeat (first | (with_reducible exact HR270_0.out) | (with_reducible refine Kd.C_alloc ?_ _) | (with_reducible refine Kd.C_drewN ?_ _) | (with_reducible refine Kd.C_drew ?_) | exact HR270_0.out)) a2 p271 q271; cases e271; replace p271 := eq_true p271; replace q271 := eq_true q271; have p272 : 0 ≤ (a2 : Int) := of_decide_eq_true (by with_reducible assumption); have q272 : a2 < (t264.length : Int) := of_decide_eq_true (by with_reducible assumption); obtain ⟨ad272, A272_0, c272_0, e272, hx272_0, hl272_0, hi272_0⟩ := at_L6 (Kd.S_reads' HO266.out).2.2 a2 p272 q272; obtain rfl : ad270 = ad272 := (by injection e272); obtain ⟨ce272, hce272, hMe272, hcc272⟩ := Kd.S_get HO266.out [] a2 p272 (by first | exact q272 | exact of_decide_eq_true (by with_reducible assumption) | (have e_ := (Kd.S_reads' HO266.out).1; omega)); obtain ⟨ve272_0, rfl, ge272_0⟩ := hMe272; have hv272_0 := hcc272 0 _ rfl; rw [Nat.add_zero, show ((Kd.slice 2 (Kd.int .i64))).sz = 1 from rfl, Nat.mul_one] at hv272_0; replace hv272_0 := Option.some.inj (hv272_0.symm.trans hx272_0); rw [hv272_0] at ge272_0; have HL272_0 := Aside0.mk (show Kd.R (Kd.int .i64) 2 _ _ _ _ (rd_L6 t264 a2) from ge272_0); clear hv272_0 ge272_0; clear hcc272 hce272; have HR272_0 := Aside0.mk hi272_0; have HC272_0 := Aside0.mk hl272_0; clear hi272_0 hl272_0; replace p272 := eq_true p272; replace q272 := eq_true q272; have p273 : 0 ≤ (a1 : Int) := of_decide_eq_true (by with_reducible assumption); have q273 : a1 < ((rd_L6 t264 a2).length : Int) := of_decide_eq_true (by with_reducible assumption); obtain ⟨ad273, e273, hx273_0⟩ := Kd.at_int (by repeat (first | (with_reducible exact HR272_0.out) | (with_reducible refine Kd.C_alloc ?_ _) | (with_reducible refine Kd.C_drewN ?_ _) | (with_reducible refine Kd.C_drew ?_) | exact HR272_0.out)) a1 p273 q273; cases e273; replace p273 := eq_true p273; replace q273 := eq_true q273; have p274 : 0 ≤ (a2 : Int) := of_decide_eq_true (by with_reducible assumption); have q274 : a2 < (t264.length : Int) := of_decide_eq_true (by with_reducible assumption); obtain ⟨ad274, A274_0, c274_0, e274, hx274_0, hl274_0, hi274_0⟩ := at_L6 (Kd.S_reads' HO266.out).2.2 a2 p274 q274; obtain rfl : ad270 = ad274 := (by injection e274); obtain ⟨ce274, hce274, hMe274, hcc274⟩ := Kd.S_get HO266.out [] a2 p274 (by first | exact q274 | exact of_decide_eq_true (by with_reducible assumption) | (have e_ := (Kd.S_reads' HO266.out).1; omega)); obtain ⟨ve274_0, rfl, ge274_0⟩ := hMe274; have hv274_0 := hcc274 0 _ rfl; rw [Nat.add_zero, show ((Kd.slice 2 (Kd.int .i64))).sz = 1 from rfl, Nat.mul_one] at hv274_0; replace hv274_0 := Option.some.inj (hv274_0.symm.trans hx274_0); rw [hv274_0] at ge274_0; have HL274_0 := Aside0.mk (show Kd.R (Kd.int .i64) 2 _ _ _ _ (rd_L6 t264 a2) from ge274_0); clear hv274_0 ge274_0; clear hcc274 hce274; have HR274_0 := Aside0.mk hi274_0; have HC274_0 := Aside0.mk hl274_0; clear hi274_0 hl274_0; replace p274 := eq_true p274; replace q274 := eq_true q274; have ea_ := Option.some.inj (hx272_0.symm.trans hx274_0); injection ea_ with ea_ en_ ec_; subst ea_; subst ec_; clear en_; have p275 : 0 ≤ (a1 : Int) := of_decide_eq_true (by with_reducible assumption); have q275 : a1 < ((rd_L6 t264 a2).length : Int) := of_decide_eq_true (by with_reducible assumption); obtain ⟨ad275, e275, hx275_0⟩ := Kd.at_int (by repeat (first | (with_reducible exact HR274_0.out) | (with_reducible refine Kd.C_alloc ?_ _) | (with_reducible refine Kd.C_drewN ?_ _) | (with_reducible refine Kd.C_drew ?_) | exact HR274_0.out)) a1 p275 q275; cases e275; replace p275 := eq_true p275; replace q275 := eq_true q275; have p276 : 0 ≤ (a1 : Int) := of_decide_eq_true (by with_reducible assumption); have q276 : a1 < (t264.length : Int) := of_decide_eq_true (by with_reducible assumption); obtain ⟨ad276, A276_0, c276_0, e276, hx276_0, hl276_0, hi276_0⟩ := at_L6 (Kd.S_reads' HO266.out).2.2 a1 p276 q276; obtain rfl : ad270 = ad276 := (by injection e276); obtain ⟨ce276, hce276, hMe276, hcc276⟩ := Kd.S_get HO266.out [] a1 p276 (by first | exact q276 | exact of_decide_eq_true (by with_reducible assumption) | (have e_ := (Kd.S_reads' HO266.out).1; omega)); obtain ⟨ve276_0, rfl, ge276_0⟩ := hMe276; have hv276_0 := hcc276 0 _ rfl; rw [Nat.add_zero, show ((Kd.slice 2 (Kd.int .i64))).sz = 1 from rfl, Nat.mul_one] at hv276_0; replace hv276_0 := Option.some.inj (hv276_0.symm.trans hx276_0); rw [hv276_0] at ge276_0; have HL276_0 := Aside0.mk (show Kd.R (Kd.int .i64) 2 _ _ _ _ (rd_L6 t264 a1) from ge276_0); clear hv276_0 ge276_0; clear hcc276 hce276; have HR276_0 := Aside0.mk hi276_0; have HC276_0 := Aside0.mk hl276_0; clear hi276_0 hl276_0; replace p276 := eq_true p276; replace q276 := eq_true q276; have ea_ := Option.some.inj (hx270_0.symm.trans hx276_0); injection ea_ with ea_ en_ ec_; subst ea_; subst ec_; clear en_; have p277 : 0 ≤ (a2 : Int) := of_decide_eq_true (by with_reducible assumption); have q277 : a2 < ((rd_L6 t264 a1).length : Int) := of_decide_eq_true (by with_reducible assumption); obtain ⟨ad277, e277, hx277_0⟩ := Kd.at_int (by repeat (first | (with_reducible exact HR276_0.out) | (with_reducible refine Kd.C_alloc ?_ _) | (with_reducible refine Kd.C_drewN ?_ _) | (with_reducible refine Kd.C_drew ?_) | exact HR276_0.out)) a2 p277 q277; cases e277; replace p277 := eq_true p277; replace q277 := eq_true q277))
            repeat (go_quiet (first | ((with_reducible refine gate_dst (N := 3) rfl ?_); refine box_event ?hg (N := 3) ?hd (cs := #[.int .i64 a0_0, .slice A0_1 l0_1.length c0_1]) (t := 26) ?hr ?_; (case hd => rfl); (case hg => rfl); (case hr => first | (go_simp; done) | (go_simp; rfl)); intro gb263 hg w34 hbox hb; have n0_ := Aside0.mk (below_step (by repeat (first | (with_reducible first | exact HB.out | apply below_alloc | apply pw_below_drewN | apply below_drew1) | exact HB.out)) hb); have n1_ := Aside0.mk (hbox); have n2_ := Aside0.mk ((by rw [hg]; exact (below_size (by repeat (first | (with_reducible first | exact HB.out | apply below_alloc | apply pw_below_drewN | apply below_drew1) | exact HB.out))) : w.heap.size ≤ gb263)); have n3_ := Aside0.mk ((by rw [hg]; exact (below_size (by repeat (first | (with_reducible first | exact HB.out | apply below_alloc | apply pw_below_drewN | apply below_drew1) | exact HB.out))) : w.heap.size ≤ gb263)); clear HB; have HB := n0_; have BK263 := n1_; have GW263 := n2_; have GE263 := n3_; clear n0_ n1_ n2_ n3_; clear hb hbox hg; have hcz35_0 : w34.cell? ⟨gb263, 0, none⟩ = some (.int .i64 a0_0) := (blk_cell BK263.out 0).trans rfl; have hcz35_1 : w34.cell? ⟨gb263, 1, none⟩ = some (.slice A0_1 l0_1.length c0_1) := (blk_cell BK263.out 1).trans rfl; have hfz35_0 := blk_frozen BK263.out 0; have hfz35_1 := blk_frozen BK263.out 1) | (go_at_call 16; (with_reducible refine (impl_TightestBounds.calls k a0_0 _ _ l0_1 t264 true _ ?side1 ?side2 A4.out).mono ?_); (case side1 => repeat (first | exact (Kd.C_below HR0_1.out HB.out) | (with_reducible refine Kd.C_alloc ?_ _) | (with_reducible refine Kd.C_drewN ?_ _) | (with_reducible refine Kd.C_drew ?_))); (case side2 => exact HC0_1.out); rintro e w36 ⟨v265, rfl, ho0, hb⟩; have n0_ := Aside0.mk (Kd.S_lower ho0 (below_size (by repeat (first | (with_reducible first | exact HB.out | apply below_alloc | apply pw_below_drewN | apply below_drew1 | refine below_set ?_ GE263.out) | exact HB.out)))); have n1_ := Aside0.mk (blk_below (g := gb263) (o := .cells #[.int .i64 a0_0, .slice A0_1 l0_1.length c0_1] 26 (0, 0)) (by (with_reducible repeat (first | refine blk_drewN ?_ _ | refine blk_drew ?_ | refine blk_alloc ?_ _)); exact BK263.out) hb); have n2_ := Aside0.mk (below_step (by repeat (first | (with_reducible first | exact HB.out | apply below_alloc | apply pw_below_drewN | apply below_drew1 | refine below_set ?_ GE263.out) | exact HB.out)) hb); clear BK263; clear HB; have HO266 := n0_; have BK263 := n1_; have HB := n2_; clear n0_ n1_ n2_; (try clear hb); (try clear hb2); (try clear hk); (try clear hi); (try clear ho0); have hcz37_0 : w36.cell? ⟨gb263, 0, none⟩ = some (.int .i64 a0_0) := (blk_cell BK263.out 0).trans rfl; have hcz37_1 : w36.cell? ⟨gb263, 1, none⟩ = some (.slice A0_1 l0_1.length c0_1) := (blk_cell BK263.out 1).trans rfl; have hfz37_0 := blk_frozen BK263.out 0; have hfz37_1 := blk_frozen BK263.out 1) | (go_at_call 41; (with_reducible refine (impl_Diagram_isEvent.calls a0_0 _ _ l0_1 a1 true _ ?side1 ?side2 A6.out).mono ?_); (case side1 => repeat (first | exact (Kd.C_below HR0_1.out HB.out) | (with_reducible refine Kd.C_alloc ?_ _) | (with_reducible refine Kd.C_drewN ?_ _) | (with_reducible refine Kd.C_drew ?_))); (case side2 => exact HC0_1.out); rintro e w38 ⟨rfl, hb⟩; have n0_ := Aside0.mk (Kd.S_below (by (with_reducible repeat (first | apply Kd.S_alloc | apply Kd.S_drewN | apply Kd.S_drew)); exact HO266.out) hb); have n1_ := Aside0.mk (blk_below (g := gb263) (o := .cells #[.int .i64 a0_0, .slice A0_1 l0_1.length c0_1] 26 (0, 0)) (by (with_reducible repeat (first | refine blk_drewN ?_ _ | refine blk_drew ?_ | refine blk_alloc ?_ _)); exact BK263.out) hb); have n2_ := Aside0.mk (below_step (by repeat (first | (with_reducible first | exact HB.out | apply below_alloc | apply pw_below_drewN | apply below_drew1 | refine below_set ?_ GE263.out) | exact HB.out)) hb); clear HO266; clear BK263; clear HB; have HO266 := n0_; have BK263 := n1_; have HB := n2_; clear n0_ n1_ n2_; (try clear hb); (try clear hb2); (try clear hk); (try clear hi); have hcz39_0 : w38.cell? ⟨gb263, 0, none⟩ = some (.int .i64 a0_0) := (blk_cell BK263.out 0).trans rfl; have hcz39_1 : w38.cell? ⟨gb263, 1, none⟩ = some (.slice A0_1 l0_1.length c0_1) := (blk_cell BK263.out 1).trans rfl; have hfz39_0 := blk_frozen BK263.out 0; have hfz39_1 := blk_frozen BK263.out 1) | (go_at_call 41; (with_reducible refine (impl_Diagram_isEvent.calls a0_0 _ _ l0_1 a2 true _ ?side1 ?side2 A8.out).mono ?_); (case side1 => repeat (first | exact (Kd.C_below HR0_1.out HB.out) | (with_reducible refine Kd.C_alloc ?_ _) | (with_reducible refine Kd.C_drewN ?_ _) | (with_reducible refine Kd.C_drew ?_))); (case side2 => exact HC0_1.out); rintro e w40 ⟨rfl, hb⟩; have n0_ := Aside0.mk (Kd.S_below (by (with_reducible repeat (first | apply Kd.S_alloc | apply Kd.S_drewN | apply Kd.S_drew)); exact HO266.out) hb); have n1_ := Aside0.mk (blk_below (g := gb263) (o := .cells #[.int .i64 a0_0, .slice A0_1 l0_1.length c0_1] 26 (0, 0)) (by (with_reducible repeat (first | refine blk_drewN ?_ _ | refine blk_drew ?_ | refine blk_alloc ?_ _)); exact BK263.out) hb); have n2_ := Aside0.mk (below_step (by repeat (first | (with_reducible first | exact HB.out | apply below_alloc | apply pw_below_drewN | apply below_drew1 | refine below_set ?_ GE263.out) | exact HB.out)) hb); clear HO266; clear BK263; clear HB; have HO266 := n0_; have BK263 := n1_; have HB := n2_; clear n0_ n1_ n2_; (try clear hb); (try clear hb2); (try clear hk); (try clear hi); obtain ⟨Ao41, co41, eo41⟩ := Kd.S_slice HO266.out; subst eo41; have p270 : 0 ≤ (a1 : Int) := of_decide_eq_true (by with_reducible assumption); have q270 : a1 < (t264.length : Int) := of_decide_eq_true (by with_reducible assumption); obtain ⟨ad270, A270_0, c270_0, e270, hx270_0, hl270_0, hi270_0⟩ := at_L6 (Kd.S_reads' HO266.out).2.2 a1 p270 q270; cases e270; obtain ⟨ce270, hce270, hMe270, hcc270⟩ := Kd.S_get HO266.out [] a1 p270 (by first | exact q270 | exact of_decide_eq_true (by with_reducible assumption) | (have e_ := (Kd.S_reads' HO266.out).1; omega)); obtain ⟨ve270_0, rfl, ge270_0⟩ := hMe270; have hv270_0 := hcc270 0 _ rfl; rw [Nat.add_zero, show ((Kd.slice 2 (Kd.int .i64))).sz = 1 from rfl, Nat.mul_one] at hv270_0; replace hv270_0 := Option.some.inj (hv270_0.symm.trans hx270_0); rw [hv270_0] at ge270_0; have HL270_0 := Aside0.mk (show Kd.R (Kd.int .i64) 2 _ _ _ _ (rd_L6 t264 a1) from ge270_0); clear hv270_0 ge270_0; clear hcc270 hce270; have HR270_0 := Aside0.mk hi270_0; have HC270_0 := Aside0.mk hl270_0; clear hi270_0 hl270_0; replace p270 := eq_true p270; replace q270 := eq_true q270; have p271 : 0 ≤ (a2 : Int) := of_decide_eq_true (by with_reducible assumption); have q271 : a2 < ((rd_L6 t264 a1).length : Int) := of_decide_eq_true (by with_reducible assumption); obtain ⟨ad271, e271, hx271_0⟩ := Kd.at_int (by repeat (first | (with_reducible exact HR270_0.out) | (with_reducible refine Kd.C_alloc ?_ _) | (with_reducible refine Kd.C_drewN ?_ _) | (with_reducible refine Kd.C_drew ?_) | exact HR270_0.out)) a2 p271 q271; cases e271; replace p271 := eq_true p271; replace q271 := eq_true q271; have p272 : 0 ≤ (a2 : Int) := of_decide_eq_true (by with_reducible assumption); have q272 : a2 < (t264.length : Int) := of_decide_eq_true (by with_reducible assumption); obtain ⟨ad272, A272_0, c272_0, e272, hx272_0, hl272_0, hi272_0⟩ := at_L6 (Kd.S_reads' HO266.out).2.2 a2 p272 q272; obtain rfl : ad270 = ad272 := (by injection e272); obtain ⟨ce272, hce272, hMe272, hcc272⟩ := Kd.S_get HO266.out [] a2 p272 (by first | exact q272 | exact of_decide_eq_true (by with_reducible assumption) | (have e_ := (Kd.S_reads' HO266.out).1; omega)); obtain ⟨ve272_0, rfl, ge272_0⟩ := hMe272; have hv272_0 := hcc272 0 _ rfl; rw [Nat.add_zero, show ((Kd.slice 2 (Kd.int .i64))).sz = 1 from rfl, Nat.mul_one] at hv272_0; replace hv272_0 := Option.some.inj (hv272_0.symm.trans hx272_0); rw [hv272_0] at ge272_0; have HL272_0 := Aside0.mk (show Kd.R (Kd.int .i64) 2 _ _ _ _ (rd_L6 t264 a2) from ge272_0); clear hv272_0 ge272_0; clear hcc272 hce272; have HR272_0 := Aside0.mk hi272_0; have HC272_0 := Aside0.mk hl272_0; clear hi272_0 hl272_0; replace p272 := eq_true p272; replace q272 := eq_true q272; have p273 : 0 ≤ (a1 : Int) := of_decide_eq_true (by with_reducible assumption); have q273 : a1 < ((rd_L6 t264 a2).length : Int) := of_decide_eq_true (by with_reducible assumption); obtain ⟨ad273, e273, hx273_0⟩ := Kd.at_int (by repeat (first | (with_reducible exact HR272_0.out) | (with_reducible refine Kd.C_alloc ?_ _) | (with_reducible refine Kd.C_drewN ?_ _) | (with_reducible refine Kd.C_drew ?_) | exact HR272_0.out)) a1 p273 q273; cases e273; replace p273 := eq_true p273; replace q273 := eq_true q273; have p274 : 0 ≤ (a2 : Int) := of_decide_eq_true (by with_reducible assumption); have q274 : a2 < (t264.length : Int) := of_decide_eq_true (by with_reducible assumption); obtain ⟨ad274, A274_0, c274_0, e274, hx274_0, hl274_0, hi274_0⟩ := at_L6 (Kd.S_reads' HO266.out).2.2 a2 p274 q274; obtain rfl : ad270 = ad274 := (by injection e274); obtain ⟨ce274, hce274, hMe274, hcc274⟩ := Kd.S_get HO266.out [] a2 p274 (by first | exact q274 | exact of_decide_eq_true (by with_reducible assumption) | (have e_ := (Kd.S_reads' HO266.out).1; omega)); obtain ⟨ve274_0, rfl, ge274_0⟩ := hMe274; have hv274_0 := hcc274 0 _ rfl; rw [Nat.add_zero, show ((Kd.slice 2 (Kd.int .i64))).sz = 1 from rfl, Nat.mul_one] at hv274_0; replace hv274_0 := Option.some.inj (hv274_0.symm.trans hx274_0); rw [hv274_0] at ge274_0; have HL274_0 := Aside0.mk (show Kd.R (Kd.int .i64) 2 _ _ _ _ (rd_L6 t264 a2) from ge274_0); clear hv274_0 ge274_0; clear hcc274 hce274; have HR274_0 := Aside0.mk hi274_0; have HC274_0 := Aside0.mk hl274_0; clear hi274_0 hl274_0; replace p274 := eq_true p274; replace q274 := eq_true q274; have ea_ := Option.some.inj (hx272_0.symm.trans hx274_0); injection ea_ with ea_ en_ ec_; subst ea_; subst ec_; clear en_; have p275 : 0 ≤ (a1 : Int) := of_decide_eq_true (by with_reducible assumption); have q275 : a1 < ((rd_L6 t264 a2).length : Int) := of_decide_eq_true (by with_reducible assumption); obtain ⟨ad275, e275, hx275_0⟩ := Kd.at_int (by repeat (first | (with_reducible exact HR274_0.out) | (with_reducible refine Kd.C_alloc ?_ _) | (with_reducible refine Kd.C_drewN ?_ _) | (with_reducible refine Kd.C_drew ?_) | exact HR274_0.out)) a1 p275 q275; cases e275; replace p275 := eq_true p275; replace q275 := eq_true q275; have p276 : 0 ≤ (a1 : Int) := of_decide_eq_true (by with_reducible assumption); have q276 : a1 < (t264.length : Int) := of_decide_eq_true (by with_reducible assumption); obtain ⟨ad276, A276_0, c276_0, e276, hx276_0, hl276_0, hi276_0⟩ := at_L6 (Kd.S_reads' HO266.out).2.2 a1 p276 q276; obtain rfl : ad270 = ad276 := (by injection e276); obtain ⟨ce276, hce276, hMe276, hcc276⟩ := Kd.S_get HO266.out [] a1 p276 (by first | exact q276 | exact of_decide_eq_true (by with_reducible assumption) | (have e_ := (Kd.S_reads' HO266.out).1; omega)); obtain ⟨ve276_0, rfl, ge276_0⟩ := hMe276; have hv276_0 := hcc276 0 _ rfl; rw [Nat.add_zero, show ((Kd.slice 2 (Kd.int .i64))).sz = 1 from rfl, Nat.mul_one] at hv276_0; replace hv276_0 := Option.some.inj (hv276_0.symm.trans hx276_0); rw [hv276_0] at ge276_0; have HL276_0 := Aside0.mk (show Kd.R (Kd.int .i64) 2 _ _ _ _ (rd_L6 t264 a1) from ge276_0); clear hv276_0 ge276_0; clear hcc276 hce276; have HR276_0 := Aside0.mk hi276_0; have HC276_0 := Aside0.mk hl276_0; clear hi276_0 hl276_0; replace p276 := eq_true p276; replace q276 := eq_true q276; have ea_ := Option.some.inj (hx270_0.symm.trans hx276_0); injection ea_ with ea_ en_ ec_; subst ea_; subst ec_; clear en_; have p277 : 0 ≤ (a2 : Int) := of_decide_eq_true (by with_reducible assumption); have q277 : a2 < ((rd_L6 t264 a1).length : Int) := of_decide_eq_true (by with_reducible assumption); obtain ⟨ad277, e277, hx277_0⟩ := Kd.at_int (by repeat (first | (with_reducible exact HR276_0.out) | (with_reducible refine Kd.C_alloc ?_ _) | (with_reducible refine Kd.C_drewN ?_ _) | (with_reducible refine Kd.C_drew ?_) | exact HR276_0.out)) a2 p277 q277; cases e277; replace p277 := eq_true p277; replace q277 := eq_true q277)); try go_wp2_with (first | ((with_reducible refine gate_dst (N := 3) rfl ?_); refine box_event ?hg (N := 3) ?hd (cs := #[.int .i64 a0_0, .slice A0_1 l0_1.length c0_1]) (t := 26) ?hr ?_; (case hd => rfl); (case hg => rfl); (case hr => first | (go_simp; done) | (go_simp; rfl)); intro gb263 hg w34 hbox hb; have n0_ := Aside0.mk (below_step (by repeat (first | (with_reducible first | exact HB.out | apply below_alloc | apply pw_below_drewN | apply below_drew1) | exact HB.out)) hb); have n1_ := Aside0.mk (hbox); have n2_ := Aside0.mk ((by rw [hg]; exact (below_size (by repeat (first | (with_reducible first | exact HB.out | apply below_alloc | apply pw_below_drewN | apply below_drew1) | exact HB.out))) : w.heap.size ≤ gb263)); have n3_ := Aside0.mk ((by rw [hg]; exact (below_size (by repeat (first | (with_reducible first | exact HB.out | apply below_alloc | apply pw_below_drewN | apply below_drew1) | exact HB.out))) : w.heap.size ≤ gb263)); clear HB; have HB := n0_; have BK263 := n1_; have GW263 := n2_; have GE263 := n3_; clear n0_ n1_ n2_ n3_; clear hb hbox hg; have hcz35_0 : w34.cell? ⟨gb263, 0, none⟩ = some (.int .i64 a0_0) := (blk_cell BK263.out 0).trans rfl; have hcz35_1 : w34.cell? ⟨gb263, 1, none⟩ = some (.slice A0_1 l0_1.length c0_1) := (blk_cell BK263.out 1).trans rfl; have hfz35_0 := blk_frozen BK263.out 0; have hfz35_1 := blk_frozen BK263.out 1) | (go_at_call 16; (with_reducible refine (impl_TightestBounds.calls k a0_0 _ _ l0_1 t264 true _ ?side1 ?side2 A4.out).mono ?_); (case side1 => repeat (first | exact (Kd.C_below HR0_1.out HB.out) | (with_reducible refine Kd.C_alloc ?_ _) | (with_reducible refine Kd.C_drewN ?_ _) | (with_reducible refine Kd.C_drew ?_))); (case side2 => exact HC0_1.out); rintro e w36 ⟨v265, rfl, ho0, hb⟩; have n0_ := Aside0.mk (Kd.S_lower ho0 (below_size (by repeat (first | (with_reducible first | exact HB.out | apply below_alloc | apply pw_below_drewN | apply below_drew1 | refine below_set ?_ GE263.out) | exact HB.out)))); have n1_ := Aside0.mk (blk_below (g := gb263) (o := .cells #[.int .i64 a0_0, .slice A0_1 l0_1.length c0_1] 26 (0, 0)) (by (with_reducible repeat (first | refine blk_drewN ?_ _ | refine blk_drew ?_ | refine blk_alloc ?_ _)); exact BK263.out) hb); have n2_ := Aside0.mk (below_step (by repeat (first | (with_reducible first | exact HB.out | apply below_alloc | apply pw_below_drewN | apply below_drew1 | refine below_set ?_ GE263.out) | exact HB.out)) hb); clear BK263; clear HB; have HO266 := n0_; have BK263 := n1_; have HB := n2_; clear n0_ n1_ n2_; (try clear hb); (try clear hb2); (try clear hk); (try clear hi); (try clear ho0); have hcz37_0 : w36.cell? ⟨gb263, 0, none⟩ = some (.int .i64 a0_0) := (blk_cell BK263.out 0).trans rfl; have hcz37_1 : w36.cell? ⟨gb263, 1, none⟩ = some (.slice A0_1 l0_1.length c0_1) := (blk_cell BK263.out 1).trans rfl; have hfz37_0 := blk_frozen BK263.out 0; have hfz37_1 := blk_frozen BK263.out 1) | (go_at_call 41; (with_reducible refine (impl_Diagram_isEvent.calls a0_0 _ _ l0_1 a1 true _ ?side1 ?side2 A6.out).mono ?_); (case side1 => repeat (first | exact (Kd.C_below HR0_1.out HB.out) | (with_reducible refine Kd.C_alloc ?_ _) | (with_reducible refine Kd.C_drewN ?_ _) | (with_reducible refine Kd.C_drew ?_))); (case side2 => exact HC0_1.out); rintro e w38 ⟨rfl, hb⟩; have n0_ := Aside0.mk (Kd.S_below (by (with_reducible repeat (first | apply Kd.S_alloc | apply Kd.S_drewN | apply Kd.S_drew)); exact HO266.out) hb); have n1_ := Aside0.mk (blk_below (g := gb263) (o := .cells #[.int .i64 a0_0, .slice A0_1 l0_1.length c0_1] 26 (0, 0)) (by (with_reducible repeat (first | refine blk_drewN ?_ _ | refine blk_drew ?_ | refine blk_alloc ?_ _)); exact BK263.out) hb); have n2_ := Aside0.mk (below_step (by repeat (first | (with_reducible first | exact HB.out | apply below_alloc | apply pw_below_drewN | apply below_drew1 | refine below_set ?_ GE263.out) | exact HB.out)) hb); clear HO266; clear BK263; clear HB; have HO266 := n0_; have BK263 := n1_; have HB := n2_; clear n0_ n1_ n2_; (try clear hb); (try clear hb2); (try clear hk); (try clear hi); have hcz39_0 : w38.cell? ⟨gb263, 0, none⟩ = some (.int .i64 a0_0) := (blk_cell BK263.out 0).trans rfl; have hcz39_1 : w38.cell? ⟨gb263, 1, none⟩ = some (.slice A0_1 l0_1.length c0_1) := (blk_cell BK263.out 1).trans rfl; have hfz39_0 := blk_frozen BK263.out 0; have hfz39_1 := blk_frozen BK263.out 1) | (go_at_call 41; (with_reducible refine (impl_Diagram_isEvent.calls a0_0 _ _ l0_1 a2 true _ ?side1 ?side2 A8.out).mono ?_); (case side1 => repeat (first | exact (Kd.C_below HR0_1.out HB.out) | (with_reducible refine Kd.C_alloc ?_ _) | (with_reducible refine Kd.C_drewN ?_ _) | (with_reducible refine Kd.C_drew ?_))); (case side2 => exact HC0_1.out); rintro e w40 ⟨rfl, hb⟩; have n0_ := Aside0.mk (Kd.S_below (by (with_reducible repeat (first | apply Kd.S_alloc | apply Kd.S_drewN | apply Kd.S_drew)); exact HO266.out) hb); have n1_ := Aside0.mk (blk_below (g := gb263) (o := .cells #[.int .i64 a0_0, .slice A0_1 l0_1.length c0_1] 26 (0, 0)) (by (with_reducible repeat (first | refine blk_drewN ?_ _ | refine blk_drew ?_ | refine blk_alloc ?_ _)); exact BK263.out) hb); have n2_ := Aside0.mk (below_step (by repeat (first | (with_reducible first | exact HB.out | apply below_alloc | apply pw_below_drewN | apply below_drew1 | refine below_set ?_ GE263.out) | exact HB.out)) hb); clear HO266; clear BK263; clear HB; have HO266 := n0_; have BK263 := n1_; have HB := n2_; clear n0_ n1_ n2_; (try clear hb); (try clear hb2); (try clear hk); (try clear hi); obtain ⟨Ao41, co41, eo41⟩ := Kd.S_slice HO266.out; subst eo41; have p270 : 0 ≤ (a1 : Int) := of_decide_eq_true (by with_reducible assumption); have q270 : a1 < (t264.length : Int) := of_decide_eq_true (by with_reducible assumption); obtain ⟨ad270, A270_0, c270_0, e270, hx270_0, hl270_0, hi270_0⟩ := at_L6 (Kd.S_reads' HO266.out).2.2 a1 p270 q270; cases e270; obtain ⟨ce270, hce270, hMe270, hcc270⟩ := Kd.S_get HO266.out [] a1 p270 (by first | exact q270 | exact of_decide_eq_true (by with_reducible assumption) | (have e_ := (Kd.S_reads' HO266.out).1; omega)); obtain ⟨ve270_0, rfl, ge270_0⟩ := hMe270; have hv270_0 := hcc270 0 _ rfl; rw [Nat.add_zero, show ((Kd.slice 2 (Kd.int .i64))).sz = 1 from rfl, Nat.mul_one] at hv270_0; replace hv270_0 := Option.some.inj (hv270_0.symm.trans hx270_0); rw [hv270_0] at ge270_0; have HL270_0 := Aside0.mk (show Kd.R (Kd.int .i64) 2 _ _ _ _ (rd_L6 t264 a1) from ge270_0); clear hv270_0 ge270_0; clear hcc270 hce270; have HR270_0 := Aside0.mk hi270_0; have HC270_0 := Aside0.mk hl270_0; clear hi270_0 hl270_0; replace p270 := eq_true p270; replace q270 := eq_true q270; have p271 : 0 ≤ (a2 : Int) := of_decide_eq_true (by with_reducible assumption); have q271 : a2 < ((rd_L6 t264 a1).length : Int) := of_decide_eq_true (by with_reducible assumption); obtain ⟨ad271, e271, hx271_0⟩ := Kd.at_int (by repeat (first | (with_reducible exact HR270_0.out) | (with_reducible refine Kd.C_alloc ?_ _) | (with_reducible refine Kd.C_drewN ?_ _) | (with_reducible refine Kd.C_drew ?_) | exact HR270_0.out)) a2 p271 q271; cases e271; replace p271 := eq_true p271; replace q271 := eq_true q271; have p272 : 0 ≤ (a2 : Int) := of_decide_eq_true (by with_reducible assumption); have q272 : a2 < (t264.length : Int) := of_decide_eq_true (by with_reducible assumption); obtain ⟨ad272, A272_0, c272_0, e272, hx272_0, hl272_0, hi272_0⟩ := at_L6 (Kd.S_reads' HO266.out).2.2 a2 p272 q272; obtain rfl : ad270 = ad272 := (by injection e272); obtain ⟨ce272, hce272, hMe272, hcc272⟩ := Kd.S_get HO266.out [] a2 p272 (by first | exact q272 | exact of_decide_eq_true (by with_reducible assumption) | (have e_ := (Kd.S_reads' HO266.out).1; omega)); obtain ⟨ve272_0, rfl, ge272_0⟩ := hMe272; have hv272_0 := hcc272 0 _ rfl; rw [Nat.add_zero, show ((Kd.slice 2 (Kd.int .i64))).sz = 1 from rfl, Nat.mul_one] at hv272_0; replace hv272_0 := Option.some.inj (hv272_0.symm.trans hx272_0); rw [hv272_0] at ge272_0; have HL272_0 := Aside0.mk (show Kd.R (Kd.int .i64) 2 _ _ _ _ (rd_L6 t264 a2) from ge272_0); clear hv272_0 ge272_0; clear hcc272 hce272; have HR272_0 := Aside0.mk hi272_0; have HC272_0 := Aside0.mk hl272_0; clear hi272_0 hl272_0; replace p272 := eq_true p272; replace q272 := eq_true q272; have p273 : 0 ≤ (a1 : Int) := of_decide_eq_true (by with_reducible assumption); have q273 : a1 < ((rd_L6 t264 a2).length : Int) := of_decide_eq_true (by with_reducible assumption); obtain ⟨ad273, e273, hx273_0⟩ := Kd.at_int (by repeat (first | (with_reducible exact HR272_0.out) | (with_reducible refine Kd.C_alloc ?_ _) | (with_reducible refine Kd.C_drewN ?_ _) | (with_reducible refine Kd.C_drew ?_) | exact HR272_0.out)) a1 p273 q273; cases e273; replace p273 := eq_true p273; replace q273 := eq_true q273; have p274 : 0 ≤ (a2 : Int) := of_decide_eq_true (by with_reducible assumption); have q274 : a2 < (t264.length : Int) := of_decide_eq_true (by with_reducible assumption); obtain ⟨ad274, A274_0, c274_0, e274, hx274_0, hl274_0, hi274_0⟩ := at_L6 (Kd.S_reads' HO266.out).2.2 a2 p274 q274; obtain rfl : ad270 = ad274 := (by injection e274); obtain ⟨ce274, hce274, hMe274, hcc274⟩ := Kd.S_get HO266.out [] a2 p274 (by first | exact q274 | exact of_decide_eq_true (by with_reducible assumption) | (have e_ := (Kd.S_reads' HO266.out).1; omega)); obtain ⟨ve274_0, rfl, ge274_0⟩ := hMe274; have hv274_0 := hcc274 0 _ rfl; rw [Nat.add_zero, show ((Kd.slice 2 (Kd.int .i64))).sz = 1 from rfl, Nat.mul_one] at hv274_0; replace hv274_0 := Option.some.inj (hv274_0.symm.trans hx274_0); rw [hv274_0] at ge274_0; have HL274_0 := Aside0.mk (show Kd.R (Kd.int .i64) 2 _ _ _ _ (rd_L6 t264 a2) from ge274_0); clear hv274_0 ge274_0; clear hcc274 hce274; have HR274_0 := Aside0.mk hi274_0; have HC274_0 := Aside0.mk hl274_0; clear hi274_0 hl274_0; replace p274 := eq_true p274; replace q274 := eq_true q274; have ea_ := Option.some.inj (hx272_0.symm.trans hx274_0); injection ea_ with ea_ en_ ec_; subst ea_; subst ec_; clear en_; have p275 : 0 ≤ (a1 : Int) := of_decide_eq_true (by with_reducible assumption); have q275 : a1 < ((rd_L6 t264 a2).length : Int) := of_decide_eq_true (by with_reducible assumption); obtain ⟨ad275, e275, hx275_0⟩ := Kd.at_int (by repeat (first | (with_reducible exact HR274_0.out) | (with_reducible refine Kd.C_alloc ?_ _) | (with_reducible refine Kd.C_drewN ?_ _) | (with_reducible refine Kd.C_drew ?_) | exact HR274_0.out)) a1 p275 q275; cases e275; replace p275 := eq_true p275; replace q275 := eq_true q275; have p276 : 0 ≤ (a1 : Int) := of_decide_eq_true (by with_reducible assumption); have q276 : a1 < (t264.length : Int) := of_decide_eq_true (by with_reducible assumption); obtain ⟨ad276, A276_0, c276_0, e276, hx276_0, hl276_0, hi276_0⟩ := at_L6 (Kd.S_reads' HO266.out).2.2 a1 p276 q276; obtain rfl : ad270 = ad276 := (by injection e276); obtain ⟨ce276, hce276, hMe276, hcc276⟩ := Kd.S_get HO266.out [] a1 p276 (by first | exact q276 | exact of_decide_eq_true (by with_reducible assumption) | (have e_ := (Kd.S_reads' HO266.out).1; omega)); obtain ⟨ve276_0, rfl, ge276_0⟩ := hMe276; have hv276_0 := hcc276 0 _ rfl; rw [Nat.add_zero, show ((Kd.slice 2 (Kd.int .i64))).sz = 1 from rfl, Nat.mul_one] at hv276_0; replace hv276_0 := Option.some.inj (hv276_0.symm.trans hx276_0); rw [hv276_0] at ge276_0; have HL276_0 := Aside0.mk (show Kd.R (Kd.int .i64) 2 _ _ _ _ (rd_L6 t264 a1) from ge276_0); clear hv276_0 ge276_0; clear hcc276 hce276; have HR276_0 := Aside0.mk hi276_0; have HC276_0 := Aside0.mk hl276_0; clear hi276_0 hl276_0; replace p276 := eq_true p276; replace q276 := eq_true q276; have ea_ := Option.some.inj (hx270_0.symm.trans hx276_0); injection ea_ with ea_ en_ ec_; subst ea_; subst ec_; clear en_; have p277 : 0 ≤ (a2 : Int) := of_decide_eq_true (by with_reducible assumption); have q277 : a2 < ((rd_L6 t264 a1).length : Int) := of_decide_eq_true (by with_reducible assumption); obtain ⟨ad277, e277, hx277_0⟩ := Kd.at_int (by repeat (first | (with_reducible exact HR276_0.out) | (with_reducible refine Kd.C_alloc ?_ _) | (with_reducible refine Kd.C_drewN ?_ _) | (with_reducible refine Kd.C_drew ?_) | exact HR276_0.out)) a2 p277 q277; cases e277; replace p277 := eq_true p277; replace q277 := eq_true q277)))
            go_ret3
            exact ⟨by first | rfl | (simp [errW_none, errW_some] <;> rfl) | (simp [*, errW_none, errW_some] <;> rfl), by repeat (first | (with_reducible first | exact HB.out | apply below_alloc | apply pw_below_drewN | apply below_drew1 | refine below_set ?_ GE263.out) | exact HB.out)⟩
          ·rw [if_neg c24] at H
           exact absurd H (by simp)
         ·rw [if_neg c23] at H
          exact absurd H (by simp)
       ·rw [if_neg c13] at H
        exact absurd H (by simp)
      ·rw [if_neg c12] at H
       exact absurd H (by simp)
     ·rw [if_neg c11] at H
      exact absurd H (by simp)
    ·rw [if_neg c10] at H
     exact absurd H (by simp)
   ·replace c9 := Bool.eq_false_iff.mpr c9
    subst c9
    have H1 : (some (0, 0, false)) = some (r1, r2, r3) := by rw [if_neg (show ¬ (false = true) by decide)] at H; exact H
    clear H
    have H := H1
    clear H1
    simp only [Option.some.injEq, Prod.mk.injEq] at H
    obtain ⟨rfl, rfl, rfl⟩ := H
    go_enter Try.func15, Try.ntmps15
    go_wp2_with (first | ((with_reducible refine gate_dst (N := 3) rfl ?_); refine box_event ?hg (N := 3) ?hd (cs := #[.int .i64 a0_0, .slice A0_1 l0_1.length c0_1]) (t := 26) ?hr ?_; (case hd => rfl); (case hg => rfl); (case hr => first | (go_simp; done) | (go_simp; rfl)); intro gb263 hg w42 hbox hb; have n0_ := Aside0.mk (below_step (by repeat (first | (with_reducible first | exact HB.out | apply below_alloc | apply pw_below_drewN | apply below_drew1) | exact HB.out)) hb); have n1_ := Aside0.mk (hbox); have n2_ := Aside0.mk ((by rw [hg]; exact (below_size (by repeat (first | (with_reducible first | exact HB.out | apply below_alloc | apply pw_below_drewN | apply below_drew1) | exact HB.out))) : w.heap.size ≤ gb263)); have n3_ := Aside0.mk ((by rw [hg]; exact (below_size (by repeat (first | (with_reducible first | exact HB.out | apply below_alloc | apply pw_below_drewN | apply below_drew1) | exact HB.out))) : w.heap.size ≤ gb263)); clear HB; have HB := n0_; have BK263 := n1_; have GW263 := n2_; have GE263 := n3_; clear n0_ n1_ n2_ n3_; clear hb hbox hg; have hcz43_0 : w42.cell? ⟨gb263, 0, none⟩ = some (.int .i64 a0_0) := (blk_cell BK263.out 0).trans rfl; have hcz43_1 : w42.cell? ⟨gb263, 1, none⟩ = some (.slice A0_1 l0_1.length c0_1) := (blk_cell BK263.out 1).trans rfl; have hfz43_0 := blk_frozen BK263.out 0; have hfz43_1 := blk_frozen BK263.out 1) | (go_at_call 16; (with_reducible refine (impl_TightestBounds.calls k a0_0 _ _ l0_1 t264 true _ ?side1 ?side2 A4.out).mono ?_); (case side1 => repeat (first | exact (Kd.C_below HR0_1.out HB.out) | (with_reducible refine Kd.C_alloc ?_ _) | (with_reducible refine Kd.C_drewN ?_ _) | (with_reducible refine Kd.C_drew ?_))); (case side2 => exact HC0_1.out); rintro e w44 ⟨v265, rfl, ho0, hb⟩; have n0_ := Aside0.mk (Kd.S_lower ho0 (below_size (by repeat (first | (with_reducible first | exact HB.out | apply below_alloc | apply pw_below_drewN | apply below_drew1 | refine below_set ?_ GE263.out) | exact HB.out)))); have n1_ := Aside0.mk (blk_below (g := gb263) (o := .cells #[.int .i64 a0_0, .slice A0_1 l0_1.length c0_1] 26 (0, 0)) (by (with_reducible repeat (first | refine blk_drewN ?_ _ | refine blk_drew ?_ | refine blk_alloc ?_ _)); exact BK263.out) hb); have n2_ := Aside0.mk (below_step (by repeat (first | (with_reducible first | exact HB.out | apply below_alloc | apply pw_below_drewN | apply below_drew1 | refine below_set ?_ GE263.out) | exact HB.out)) hb); clear BK263; clear HB; have HO266 := n0_; have BK263 := n1_; have HB := n2_; clear n0_ n1_ n2_; (try clear hb); (try clear hb2); (try clear hk); (try clear hi); (try clear ho0); have hcz45_0 : w44.cell? ⟨gb263, 0, none⟩ = some (.int .i64 a0_0) := (blk_cell BK263.out 0).trans rfl; have hcz45_1 : w44.cell? ⟨gb263, 1, none⟩ = some (.slice A0_1 l0_1.length c0_1) := (blk_cell BK263.out 1).trans rfl; have hfz45_0 := blk_frozen BK263.out 0; have hfz45_1 := blk_frozen BK263.out 1) | (go_at_call 41; (with_reducible refine (impl_Diagram_isEvent.calls a0_0 _ _ l0_1 a1 true _ ?side1 ?side2 A6.out).mono ?_); (case side1 => repeat (first | exact (Kd.C_below HR0_1.out HB.out) | (with_reducible refine Kd.C_alloc ?_ _) | (with_reducible refine Kd.C_drewN ?_ _) | (with_reducible refine Kd.C_drew ?_))); (case side2 => exact HC0_1.out); rintro e w46 ⟨rfl, hb⟩; have n0_ := Aside0.mk (Kd.S_below (by (with_reducible repeat (first | apply Kd.S_alloc | apply Kd.S_drewN | apply Kd.S_drew)); exact HO266.out) hb); have n1_ := Aside0.mk (blk_below (g := gb263) (o := .cells #[.int .i64 a0_0, .slice A0_1 l0_1.length c0_1] 26 (0, 0)) (by (with_reducible repeat (first | refine blk_drewN ?_ _ | refine blk_drew ?_ | refine blk_alloc ?_ _)); exact BK263.out) hb); have n2_ := Aside0.mk (below_step (by repeat (first | (with_reducible first | exact HB.out | apply below_alloc | apply pw_below_drewN | apply below_drew1 | refine below_set ?_ GE263.out) | exact HB.out)) hb); clear HO266; clear BK263; clear HB; have HO266 := n0_; have BK263 := n1_; have HB := n2_; clear n0_ n1_ n2_; (try clear hb); (try clear hb2); (try clear hk); (try clear hi); have hcz47_0 : w46.cell? ⟨gb263, 0, none⟩ = some (.int .i64 a0_0) := (blk_cell BK263.out 0).trans rfl; have hcz47_1 : w46.cell? ⟨gb263, 1, none⟩ = some (.slice A0_1 l0_1.length c0_1) := (blk_cell BK263.out 1).trans rfl; have hfz47_0 := blk_frozen BK263.out 0; have hfz47_1 := blk_frozen BK263.out 1) | (go_at_call 41; (with_reducible refine (impl_Diagram_isEvent.calls a0_0 _ _ l0_1 a2 false _ ?side1 ?side2 A8.out).mono ?_); (case side1 => repeat (first | exact (Kd.C_below HR0_1.out HB.out) | (with_reducible refine Kd.C_alloc ?_ _) | (with_reducible refine Kd.C_drewN ?_ _) | (with_reducible refine Kd.C_drew ?_))); (case side2 => exact HC0_1.out); rintro e w48 ⟨rfl, hb⟩; have n0_ := Aside0.mk (Kd.S_below (by (with_reducible repeat (first | apply Kd.S_alloc | apply Kd.S_drewN | apply Kd.S_drew)); exact HO266.out) hb); have n1_ := Aside0.mk (blk_below (g := gb263) (o := .cells #[.int .i64 a0_0, .slice A0_1 l0_1.length c0_1] 26 (0, 0)) (by (with_reducible repeat (first | refine blk_drewN ?_ _ | refine blk_drew ?_ | refine blk_alloc ?_ _)); exact BK263.out) hb); have n2_ := Aside0.mk (below_step (by repeat (first | (with_reducible first | exact HB.out | apply below_alloc | apply pw_below_drewN | apply below_drew1 | refine below_set ?_ GE263.out) | exact HB.out)) hb); clear HO266; clear BK263; clear HB; have HO266 := n0_; have BK263 := n1_; have HB := n2_; clear n0_ n1_ n2_; (try clear hb); (try clear hb2); (try clear hk); (try clear hi)))
    repeat (go_quiet (first | ((with_reducible refine gate_dst (N := 3) rfl ?_); refine box_event ?hg (N := 3) ?hd (cs := #[.int .i64 a0_0, .slice A0_1 l0_1.length c0_1]) (t := 26) ?hr ?_; (case hd => rfl); (case hg => rfl); (case hr => first | (go_simp; done) | (go_simp; rfl)); intro gb263 hg w42 hbox hb; have n0_ := Aside0.mk (below_step (by repeat (first | (with_reducible first | exact HB.out | apply below_alloc | apply pw_below_drewN | apply below_drew1) | exact HB.out)) hb); have n1_ := Aside0.mk (hbox); have n2_ := Aside0.mk ((by rw [hg]; exact (below_size (by repeat (first | (with_reducible first | exact HB.out | apply below_alloc | apply pw_below_drewN | apply below_drew1) | exact HB.out))) : w.heap.size ≤ gb263)); have n3_ := Aside0.mk ((by rw [hg]; exact (below_size (by repeat (first | (with_reducible first | exact HB.out | apply below_alloc | apply pw_below_drewN | apply below_drew1) | exact HB.out))) : w.heap.size ≤ gb263)); clear HB; have HB := n0_; have BK263 := n1_; have GW263 := n2_; have GE263 := n3_; clear n0_ n1_ n2_ n3_; clear hb hbox hg; have hcz43_0 : w42.cell? ⟨gb263, 0, none⟩ = some (.int .i64 a0_0) := (blk_cell BK263.out 0).trans rfl; have hcz43_1 : w42.cell? ⟨gb263, 1, none⟩ = some (.slice A0_1 l0_1.length c0_1) := (blk_cell BK263.out 1).trans rfl; have hfz43_0 := blk_frozen BK263.out 0; have hfz43_1 := blk_frozen BK263.out 1) | (go_at_call 16; (with_reducible refine (impl_TightestBounds.calls k a0_0 _ _ l0_1 t264 true _ ?side1 ?side2 A4.out).mono ?_); (case side1 => repeat (first | exact (Kd.C_below HR0_1.out HB.out) | (with_reducible refine Kd.C_alloc ?_ _) | (with_reducible refine Kd.C_drewN ?_ _) | (with_reducible refine Kd.C_drew ?_))); (case side2 => exact HC0_1.out); rintro e w44 ⟨v265, rfl, ho0, hb⟩; have n0_ := Aside0.mk (Kd.S_lower ho0 (below_size (by repeat (first | (with_reducible first | exact HB.out | apply below_alloc | apply pw_below_drewN | apply below_drew1 | refine below_set ?_ GE263.out) | exact HB.out)))); have n1_ := Aside0.mk (blk_below (g := gb263) (o := .cells #[.int .i64 a0_0, .slice A0_1 l0_1.length c0_1] 26 (0, 0)) (by (with_reducible repeat (first | refine blk_drewN ?_ _ | refine blk_drew ?_ | refine blk_alloc ?_ _)); exact BK263.out) hb); have n2_ := Aside0.mk (below_step (by repeat (first | (with_reducible first | exact HB.out | apply below_alloc | apply pw_below_drewN | apply below_drew1 | refine below_set ?_ GE263.out) | exact HB.out)) hb); clear BK263; clear HB; have HO266 := n0_; have BK263 := n1_; have HB := n2_; clear n0_ n1_ n2_; (try clear hb); (try clear hb2); (try clear hk); (try clear hi); (try clear ho0); have hcz45_0 : w44.cell? ⟨gb263, 0, none⟩ = some (.int .i64 a0_0) := (blk_cell BK263.out 0).trans rfl; have hcz45_1 : w44.cell? ⟨gb263, 1, none⟩ = some (.slice A0_1 l0_1.length c0_1) := (blk_cell BK263.out 1).trans rfl; have hfz45_0 := blk_frozen BK263.out 0; have hfz45_1 := blk_frozen BK263.out 1) | (go_at_call 41; (with_reducible refine (impl_Diagram_isEvent.calls a0_0 _ _ l0_1 a1 true _ ?side1 ?side2 A6.out).mono ?_); (case side1 => repeat (first | exact (Kd.C_below HR0_1.out HB.out) | (with_reducible refine Kd.C_alloc ?_ _) | (with_reducible refine Kd.C_drewN ?_ _) | (with_reducible refine Kd.C_drew ?_))); (case side2 => exact HC0_1.out); rintro e w46 ⟨rfl, hb⟩; have n0_ := Aside0.mk (Kd.S_below (by (with_reducible repeat (first | apply Kd.S_alloc | apply Kd.S_drewN | apply Kd.S_drew)); exact HO266.out) hb); have n1_ := Aside0.mk (blk_below (g := gb263) (o := .cells #[.int .i64 a0_0, .slice A0_1 l0_1.length c0_1] 26 (0, 0)) (by (with_reducible repeat (first | refine blk_drewN ?_ _ | refine blk_drew ?_ | refine blk_alloc ?_ _)); exact BK263.out) hb); have n2_ := Aside0.mk (below_step (by repeat (first | (with_reducible first | exact HB.out | apply below_alloc | apply pw_below_drewN | apply below_drew1 | refine below_set ?_ GE263.out) | exact HB.out)) hb); clear HO266; clear BK263; clear HB; have HO266 := n0_; have BK263 := n1_; have HB := n2_; clear n0_ n1_ n2_; (try clear hb); (try clear hb2); (try clear hk); (try clear hi); have hcz47_0 : w46.cell? ⟨gb263, 0, none⟩ = some (.int .i64 a0_0) := (blk_cell BK263.out 0).trans rfl; have hcz47_1 : w46.cell? ⟨gb263, 1, none⟩ = some (.slice A0_1 l0_1.length c0_1) := (blk_cell BK263.out 1).trans rfl; have hfz47_0 := blk_frozen BK263.out 0; have hfz47_1 := blk_frozen BK263.out 1) | (go_at_call 41; (with_reducible refine (impl_Diagram_isEvent.calls a0_0 _ _ l0_1 a2 false _ ?side1 ?side2 A8.out).mono ?_); (case side1 => repeat (first | exact (Kd.C_below HR0_1.out HB.out) | (with_reducible refine Kd.C_alloc ?_ _) | (with_reducible refine Kd.C_drewN ?_ _) | (with_reducible refine Kd.C_drew ?_))); (case side2 => exact HC0_1.out); rintro e w48 ⟨rfl, hb⟩; have n0_ := Aside0.mk (Kd.S_below (by (with_reducible repeat (first | apply Kd.S_alloc | apply Kd.S_drewN | apply Kd.S_drew)); exact HO266.out) hb); have n1_ := Aside0.mk (blk_below (g := gb263) (o := .cells #[.int .i64 a0_0, .slice A0_1 l0_1.length c0_1] 26 (0, 0)) (by (with_reducible repeat (first | refine blk_drewN ?_ _ | refine blk_drew ?_ | refine blk_alloc ?_ _)); exact BK263.out) hb); have n2_ := Aside0.mk (below_step (by repeat (first | (with_reducible first | exact HB.out | apply below_alloc | apply pw_below_drewN | apply below_drew1 | refine below_set ?_ GE263.out) | exact HB.out)) hb); clear HO266; clear BK263; clear HB; have HO266 := n0_; have BK263 := n1_; have HB := n2_; clear n0_ n1_ n2_; (try clear hb); (try clear hb2); (try clear hk); (try clear hi))); try go_wp2_with (first | ((with_reducible refine gate_dst (N := 3) rfl ?_); refine box_event ?hg (N := 3) ?hd (cs := #[.int .i64 a0_0, .slice A0_1 l0_1.length c0_1]) (t := 26) ?hr ?_; (case hd => rfl); (case hg => rfl); (case hr => first | (go_simp; done) | (go_simp; rfl)); intro gb263 hg w42 hbox hb; have n0_ := Aside0.mk (below_step (by repeat (first | (with_reducible first | exact HB.out | apply below_alloc | apply pw_below_drewN | apply below_drew1) | exact HB.out)) hb); have n1_ := Aside0.mk (hbox); have n2_ := Aside0.mk ((by rw [hg]; exact (below_size (by repeat (first | (with_reducible first | exact HB.out | apply below_alloc | apply pw_below_drewN | apply below_drew1) | exact HB.out))) : w.heap.size ≤ gb263)); have n3_ := Aside0.mk ((by rw [hg]; exact (below_size (by repeat (first | (with_reducible first | exact HB.out | apply below_alloc | apply pw_below_drewN | apply below_drew1) | exact HB.out))) : w.heap.size ≤ gb263)); clear HB; have HB := n0_; have BK263 := n1_; have GW263 := n2_; have GE263 := n3_; clear n0_ n1_ n2_ n3_; clear hb hbox hg; have hcz43_0 : w42.cell? ⟨gb263, 0, none⟩ = some (.int .i64 a0_0) := (blk_cell BK263.out 0).trans rfl; have hcz43_1 : w42.cell? ⟨gb263, 1, none⟩ = some (.slice A0_1 l0_1.length c0_1) := (blk_cell BK263.out 1).trans rfl; have hfz43_0 := blk_frozen BK263.out 0; have hfz43_1 := blk_frozen BK263.out 1) | (go_at_call 16; (with_reducible refine (impl_TightestBounds.calls k a0_0 _ _ l0_1 t264 true _ ?side1 ?side2 A4.out).mono ?_); (case side1 => repeat (first | exact (Kd.C_below HR0_1.out HB.out) | (with_reducible refine Kd.C_alloc ?_ _) | (with_reducible refine Kd.C_drewN ?_ _) | (with_reducible refine Kd.C_drew ?_))); (case side2 => exact HC0_1.out); rintro e w44 ⟨v265, rfl, ho0, hb⟩; have n0_ := Aside0.mk (Kd.S_lower ho0 (below_size (by repeat (first | (with_reducible first | exact HB.out | apply below_alloc | apply pw_below_drewN | apply below_drew1 | refine below_set ?_ GE263.out) | exact HB.out)))); have n1_ := Aside0.mk (blk_below (g := gb263) (o := .cells #[.int .i64 a0_0, .slice A0_1 l0_1.length c0_1] 26 (0, 0)) (by (with_reducible repeat (first | refine blk_drewN ?_ _ | refine blk_drew ?_ | refine blk_alloc ?_ _)); exact BK263.out) hb); have n2_ := Aside0.mk (below_step (by repeat (first | (with_reducible first | exact HB.out | apply below_alloc | apply pw_below_drewN | apply below_drew1 | refine below_set ?_ GE263.out) | exact HB.out)) hb); clear BK263; clear HB; have HO266 := n0_; have BK263 := n1_; have HB := n2_; clear n0_ n1_ n2_; (try clear hb); (try clear hb2); (try clear hk); (try clear hi); (try clear ho0); have hcz45_0 : w44.cell? ⟨gb263, 0, none⟩ = some (.int .i64 a0_0) := (blk_cell BK263.out 0).trans rfl; have hcz45_1 : w44.cell? ⟨gb263, 1, none⟩ = some (.slice A0_1 l0_1.length c0_1) := (blk_cell BK263.out 1).trans rfl; have hfz45_0 := blk_frozen BK263.out 0; have hfz45_1 := blk_frozen BK263.out 1) | (go_at_call 41; (with_reducible refine (impl_Diagram_isEvent.calls a0_0 _ _ l0_1 a1 true _ ?side1 ?side2 A6.out).mono ?_); (case side1 => repeat (first | exact (Kd.C_below HR0_1.out HB.out) | (with_reducible refine Kd.C_alloc ?_ _) | (with_reducible refine Kd.C_drewN ?_ _) | (with_reducible refine Kd.C_drew ?_))); (case side2 => exact HC0_1.out); rintro e w46 ⟨rfl, hb⟩; have n0_ := Aside0.mk (Kd.S_below (by (with_reducible repeat (first | apply Kd.S_alloc | apply Kd.S_drewN | apply Kd.S_drew)); exact HO266.out) hb); have n1_ := Aside0.mk (blk_below (g := gb263) (o := .cells #[.int .i64 a0_0, .slice A0_1 l0_1.length c0_1] 26 (0, 0)) (by (with_reducible repeat (first | refine blk_drewN ?_ _ | refine blk_drew ?_ | refine blk_alloc ?_ _)); exact BK263.out) hb); have n2_ := Aside0.mk (below_step (by repeat (first | (with_reducible first | exact HB.out | apply below_alloc | apply pw_below_drewN | apply below_drew1 | refine below_set ?_ GE263.out) | exact HB.out)) hb); clear HO266; clear BK263; clear HB; have HO266 := n0_; have BK263 := n1_; have HB := n2_; clear n0_ n1_ n2_; (try clear hb); (try clear hb2); (try clear hk); (try clear hi); have hcz47_0 : w46.cell? ⟨gb263, 0, none⟩ = some (.int .i64 a0_0) := (blk_cell BK263.out 0).trans rfl; have hcz47_1 : w46.cell? ⟨gb263, 1, none⟩ = some (.slice A0_1 l0_1.length c0_1) := (blk_cell BK263.out 1).trans rfl; have hfz47_0 := blk_frozen BK263.out 0; have hfz47_1 := blk_frozen BK263.out 1) | (go_at_call 41; (with_reducible refine (impl_Diagram_isEvent.calls a0_0 _ _ l0_1 a2 false _ ?side1 ?side2 A8.out).mono ?_); (case side1 => repeat (first | exact (Kd.C_below HR0_1.out HB.out) | (with_reducible refine Kd.C_alloc ?_ _) | (with_reducible refine Kd.C_drewN ?_ _) | (with_reducible refine Kd.C_drew ?_))); (case side2 => exact HC0_1.out); rintro e w48 ⟨rfl, hb⟩; have n0_ := Aside0.mk (Kd.S_below (by (with_reducible repeat (first | apply Kd.S_alloc | apply Kd.S_drewN | apply Kd.S_drew)); exact HO266.out) hb); have n1_ := Aside0.mk (blk_below (g := gb263) (o := .cells #[.int .i64 a0_0, .slice A0_1 l0_1.length c0_1] 26 (0, 0)) (by (with_reducible repeat (first | refine blk_drewN ?_ _ | refine blk_drew ?_ | refine blk_alloc ?_ _)); exact BK263.out) hb); have n2_ := Aside0.mk (below_step (by repeat (first | (with_reducible first | exact HB.out | apply below_alloc | apply pw_below_drewN | apply below_drew1 | refine below_set ?_ GE263.out) | exact HB.out)) hb); clear HO266; clear BK263; clear HB; have HO266 := n0_; have BK263 := n1_; have HB := n2_; clear n0_ n1_ n2_; (try clear hb); (try clear hb2); (try clear hk); (try clear hi))))
    go_ret3
    exact ⟨by first | rfl | (simp [errW_none, errW_some] <;> rfl) | (simp [*, errW_none, errW_some] <;> rfl), by repeat (first | (with_reducible first | exact HB.out | apply below_alloc | apply pw_below_drewN | apply below_drew1 | refine below_set ?_ GE263.out) | exact HB.out)⟩
  ·replace c7 := Bool.eq_false_iff.mpr c7
   subst c7
   have H1 : (some (0, 0, false)) = some (r1, r2, r3) := by rw [if_neg (show ¬ (false = true) by decide)] at H; exact H
   clear H
   have H := H1
   clear H1
   simp only [Option.some.injEq, Prod.mk.injEq] at H
   obtain ⟨rfl, rfl, rfl⟩ := H
   go_enter Try.func15, Try.ntmps15
   go_wp2_with (first | ((with_reducible refine gate_dst (N := 3) rfl ?_); refine box_event ?hg (N := 3) ?hd (cs := #[.int .i64 a0_0, .slice A0_1 l0_1.length c0_1]) (t := 26) ?hr ?_; (case hd => rfl); (case hg => rfl); (case hr => first | (go_simp; done) | (go_simp; rfl)); intro gb263 hg w49 hbox hb; have n0_ := Aside0.mk (below_step (by repeat (first | (with_reducible first | exact HB.out | apply below_alloc | apply pw_below_drewN | apply below_drew1) | exact HB.out)) hb); have n1_ := Aside0.mk (hbox); have n2_ := Aside0.mk ((by rw [hg]; exact (below_size (by repeat (first | (with_reducible first | exact HB.out | apply below_alloc | apply pw_below_drewN | apply below_drew1) | exact HB.out))) : w.heap.size ≤ gb263)); have n3_ := Aside0.mk ((by rw [hg]; exact (below_size (by repeat (first | (with_reducible first | exact HB.out | apply below_alloc | apply pw_below_drewN | apply below_drew1) | exact HB.out))) : w.heap.size ≤ gb263)); clear HB; have HB := n0_; have BK263 := n1_; have GW263 := n2_; have GE263 := n3_; clear n0_ n1_ n2_ n3_; clear hb hbox hg; have hcz50_0 : w49.cell? ⟨gb263, 0, none⟩ = some (.int .i64 a0_0) := (blk_cell BK263.out 0).trans rfl; have hcz50_1 : w49.cell? ⟨gb263, 1, none⟩ = some (.slice A0_1 l0_1.length c0_1) := (blk_cell BK263.out 1).trans rfl; have hfz50_0 := blk_frozen BK263.out 0; have hfz50_1 := blk_frozen BK263.out 1) | (go_at_call 16; (with_reducible refine (impl_TightestBounds.calls k a0_0 _ _ l0_1 t264 true _ ?side1 ?side2 A4.out).mono ?_); (case side1 => repeat (first | exact (Kd.C_below HR0_1.out HB.out) | (with_reducible refine Kd.C_alloc ?_ _) | (with_reducible refine Kd.C_drewN ?_ _) | (with_reducible refine Kd.C_drew ?_))); (case side2 => exact HC0_1.out); rintro e w51 ⟨v265, rfl, ho0, hb⟩; have n0_ := Aside0.mk (Kd.S_lower ho0 (below_size (by repeat (first | (with_reducible first | exact HB.out | apply below_alloc | apply pw_below_drewN | apply below_drew1 | refine below_set ?_ GE263.out) | exact HB.out)))); have n1_ := Aside0.mk (blk_below (g := gb263) (o := .cells #[.int .i64 a0_0, .slice A0_1 l0_1.length c0_1] 26 (0, 0)) (by (with_reducible repeat (first | refine blk_drewN ?_ _ | refine blk_drew ?_ | refine blk_alloc ?_ _)); exact BK263.out) hb); have n2_ := Aside0.mk (below_step (by repeat (first | (with_reducible first | exact HB.out | apply below_alloc | apply pw_below_drewN | apply below_drew1 | refine below_set ?_ GE263.out) | exact HB.out)) hb); clear BK263; clear HB; have HO266 := n0_; have BK263 := n1_; have HB := n2_; clear n0_ n1_ n2_; (try clear hb); (try clear hb2); (try clear hk); (try clear hi); (try clear ho0); have hcz52_0 : w51.cell? ⟨gb263, 0, none⟩ = some (.int .i64 a0_0) := (blk_cell BK263.out 0).trans rfl; have hcz52_1 : w51.cell? ⟨gb263, 1, none⟩ = some (.slice A0_1 l0_1.length c0_1) := (blk_cell BK263.out 1).trans rfl; have hfz52_0 := blk_frozen BK263.out 0; have hfz52_1 := blk_frozen BK263.out 1) | (go_at_call 41; (with_reducible refine (impl_Diagram_isEvent.calls a0_0 _ _ l0_1 a1 false _ ?side1 ?side2 A6.out).mono ?_); (case side1 => repeat (first | exact (Kd.C_below HR0_1.out HB.out) | (with_reducible refine Kd.C_alloc ?_ _) | (with_reducible refine Kd.C_drewN ?_ _) | (with_reducible refine Kd.C_drew ?_))); (case side2 => exact HC0_1.out); rintro e w53 ⟨rfl, hb⟩; have n0_ := Aside0.mk (Kd.S_below (by (with_reducible repeat (first | apply Kd.S_alloc | apply Kd.S_drewN | apply Kd.S_drew)); exact HO266.out) hb); have n1_ := Aside0.mk (blk_below (g := gb263) (o := .cells #[.int .i64 a0_0, .slice A0_1 l0_1.length c0_1] 26 (0, 0)) (by (with_reducible repeat (first | refine blk_drewN ?_ _ | refine blk_drew ?_ | refine blk_alloc ?_ _)); exact BK263.out) hb); have n2_ := Aside0.mk (below_step (by repeat (first | (with_reducible first | exact HB.out | apply below_alloc | apply pw_below_drewN | apply below_drew1 | refine below_set ?_ GE263.out) | exact HB.out)) hb); clear HO266; clear BK263; clear HB; have HO266 := n0_; have BK263 := n1_; have HB := n2_; clear n0_ n1_ n2_; (try clear hb); (try clear hb2); (try clear hk); (try clear hi)))
   repeat (go_quiet (first | ((with_reducible refine gate_dst (N := 3) rfl ?_); refine box_event ?hg (N := 3) ?hd (cs := #[.int .i64 a0_0, .slice A0_1 l0_1.length c0_1]) (t := 26) ?hr ?_; (case hd => rfl); (case hg => rfl); (case hr => first | (go_simp; done) | (go_simp; rfl)); intro gb263 hg w49 hbox hb; have n0_ := Aside0.mk (below_step (by repeat (first | (with_reducible first | exact HB.out | apply below_alloc | apply pw_below_drewN | apply below_drew1) | exact HB.out)) hb); have n1_ := Aside0.mk (hbox); have n2_ := Aside0.mk ((by rw [hg]; exact (below_size (by repeat (first | (with_reducible first | exact HB.out | apply below_alloc | apply pw_below_drewN | apply below_drew1) | exact HB.out))) : w.heap.size ≤ gb263)); have n3_ := Aside0.mk ((by rw [hg]; exact (below_size (by repeat (first | (with_reducible first | exact HB.out | apply below_alloc | apply pw_below_drewN | apply below_drew1) | exact HB.out))) : w.heap.size ≤ gb263)); clear HB; have HB := n0_; have BK263 := n1_; have GW263 := n2_; have GE263 := n3_; clear n0_ n1_ n2_ n3_; clear hb hbox hg; have hcz50_0 : w49.cell? ⟨gb263, 0, none⟩ = some (.int .i64 a0_0) := (blk_cell BK263.out 0).trans rfl; have hcz50_1 : w49.cell? ⟨gb263, 1, none⟩ = some (.slice A0_1 l0_1.length c0_1) := (blk_cell BK263.out 1).trans rfl; have hfz50_0 := blk_frozen BK263.out 0; have hfz50_1 := blk_frozen BK263.out 1) | (go_at_call 16; (with_reducible refine (impl_TightestBounds.calls k a0_0 _ _ l0_1 t264 true _ ?side1 ?side2 A4.out).mono ?_); (case side1 => repeat (first | exact (Kd.C_below HR0_1.out HB.out) | (with_reducible refine Kd.C_alloc ?_ _) | (with_reducible refine Kd.C_drewN ?_ _) | (with_reducible refine Kd.C_drew ?_))); (case side2 => exact HC0_1.out); rintro e w51 ⟨v265, rfl, ho0, hb⟩; have n0_ := Aside0.mk (Kd.S_lower ho0 (below_size (by repeat (first | (with_reducible first | exact HB.out | apply below_alloc | apply pw_below_drewN | apply below_drew1 | refine below_set ?_ GE263.out) | exact HB.out)))); have n1_ := Aside0.mk (blk_below (g := gb263) (o := .cells #[.int .i64 a0_0, .slice A0_1 l0_1.length c0_1] 26 (0, 0)) (by (with_reducible repeat (first | refine blk_drewN ?_ _ | refine blk_drew ?_ | refine blk_alloc ?_ _)); exact BK263.out) hb); have n2_ := Aside0.mk (below_step (by repeat (first | (with_reducible first | exact HB.out | apply below_alloc | apply pw_below_drewN | apply below_drew1 | refine below_set ?_ GE263.out) | exact HB.out)) hb); clear BK263; clear HB; have HO266 := n0_; have BK263 := n1_; have HB := n2_; clear n0_ n1_ n2_; (try clear hb); (try clear hb2); (try clear hk); (try clear hi); (try clear ho0); have hcz52_0 : w51.cell? ⟨gb263, 0, none⟩ = some (.int .i64 a0_0) := (blk_cell BK263.out 0).trans rfl; have hcz52_1 : w51.cell? ⟨gb263, 1, none⟩ = some (.slice A0_1 l0_1.length c0_1) := (blk_cell BK263.out 1).trans rfl; have hfz52_0 := blk_frozen BK263.out 0; have hfz52_1 := blk_frozen BK263.out 1) | (go_at_call 41; (with_reducible refine (impl_Diagram_isEvent.calls a0_0 _ _ l0_1 a1 false _ ?side1 ?side2 A6.out).mono ?_); (case side1 => repeat (first | exact (Kd.C_below HR0_1.out HB.out) | (with_reducible refine Kd.C_alloc ?_ _) | (with_reducible refine Kd.C_drewN ?_ _) | (with_reducible refine Kd.C_drew ?_))); (case side2 => exact HC0_1.out); rintro e w53 ⟨rfl, hb⟩; have n0_ := Aside0.mk (Kd.S_below (by (with_reducible repeat (first | apply Kd.S_alloc | apply Kd.S_drewN | apply Kd.S_drew)); exact HO266.out) hb); have n1_ := Aside0.mk (blk_below (g := gb263) (o := .cells #[.int .i64 a0_0, .slice A0_1 l0_1.length c0_1] 26 (0, 0)) (by (with_reducible repeat (first | refine blk_drewN ?_ _ | refine blk_drew ?_ | refine blk_alloc ?_ _)); exact BK263.out) hb); have n2_ := Aside0.mk (below_step (by repeat (first | (with_reducible first | exact HB.out | apply below_alloc | apply pw_below_drewN | apply below_drew1 | refine below_set ?_ GE263.out) | exact HB.out)) hb); clear HO266; clear BK263; clear HB; have HO266 := n0_; have BK263 := n1_; have HB := n2_; clear n0_ n1_ n2_; (try clear hb); (try clear hb2); (try clear hk); (try clear hi))); try go_wp2_with (first | ((with_reducible refine gate_dst (N := 3) rfl ?_); refine box_event ?hg (N := 3) ?hd (cs := #[.int .i64 a0_0, .slice A0_1 l0_1.length c0_1]) (t := 26) ?hr ?_; (case hd => rfl); (case hg => rfl); (case hr => first | (go_simp; done) | (go_simp; rfl)); intro gb263 hg w49 hbox hb; have n0_ := Aside0.mk (below_step (by repeat (first | (with_reducible first | exact HB.out | apply below_alloc | apply pw_below_drewN | apply below_drew1) | exact HB.out)) hb); have n1_ := Aside0.mk (hbox); have n2_ := Aside0.mk ((by rw [hg]; exact (below_size (by repeat (first | (with_reducible first | exact HB.out | apply below_alloc | apply pw_below_drewN | apply below_drew1) | exact HB.out))) : w.heap.size ≤ gb263)); have n3_ := Aside0.mk ((by rw [hg]; exact (below_size (by repeat (first | (with_reducible first | exact HB.out | apply below_alloc | apply pw_below_drewN | apply below_drew1) | exact HB.out))) : w.heap.size ≤ gb263)); clear HB; have HB := n0_; have BK263 := n1_; have GW263 := n2_; have GE263 := n3_; clear n0_ n1_ n2_ n3_; clear hb hbox hg; have hcz50_0 : w49.cell? ⟨gb263, 0, none⟩ = some (.int .i64 a0_0) := (blk_cell BK263.out 0).trans rfl; have hcz50_1 : w49.cell? ⟨gb263, 1, none⟩ = some (.slice A0_1 l0_1.length c0_1) := (blk_cell BK263.out 1).trans rfl; have hfz50_0 := blk_frozen BK263.out 0; have hfz50_1 := blk_frozen BK263.out 1) | (go_at_call 16; (with_reducible refine (impl_TightestBounds.calls k a0_0 _ _ l0_1 t264 true _ ?side1 ?side2 A4.out).mono ?_); (case side1 => repeat (first | exact (Kd.C_below HR0_1.out HB.out) | (with_reducible refine Kd.C_alloc ?_ _) | (with_reducible refine Kd.C_drewN ?_ _) | (with_reducible refine Kd.C_drew ?_))); (case side2 => exact HC0_1.out); rintro e w51 ⟨v265, rfl, ho0, hb⟩; have n0_ := Aside0.mk (Kd.S_lower ho0 (below_size (by repeat (first | (with_reducible first | exact HB.out | apply below_alloc | apply pw_below_drewN | apply below_drew1 | refine below_set ?_ GE263.out) | exact HB.out)))); have n1_ := Aside0.mk (blk_below (g := gb263) (o := .cells #[.int .i64 a0_0, .slice A0_1 l0_1.length c0_1] 26 (0, 0)) (by (with_reducible repeat (first | refine blk_drewN ?_ _ | refine blk_drew ?_ | refine blk_alloc ?_ _)); exact BK263.out) hb); have n2_ := Aside0.mk (below_step (by repeat (first | (with_reducible first | exact HB.out | apply below_alloc | apply pw_below_drewN | apply below_drew1 | refine below_set ?_ GE263.out) | exact HB.out)) hb); clear BK263; clear HB; have HO266 := n0_; have BK263 := n1_; have HB := n2_; clear n0_ n1_ n2_; (try clear hb); (try clear hb2); (try clear hk); (try clear hi); (try clear ho0); have hcz52_0 : w51.cell? ⟨gb263, 0, none⟩ = some (.int .i64 a0_0) := (blk_cell BK263.out 0).trans rfl; have hcz52_1 : w51.cell? ⟨gb263, 1, none⟩ = some (.slice A0_1 l0_1.length c0_1) := (blk_cell BK263.out 1).trans rfl; have hfz52_0 := blk_frozen BK263.out 0; have hfz52_1 := blk_frozen BK263.out 1) | (go_at_call 41; (with_reducible refine (impl_Diagram_isEvent.calls a0_0 _ _ l0_1 a1 false _ ?side1 ?side2 A6.out).mono ?_); (case side1 => repeat (first | exact (Kd.C_below HR0_1.out HB.out) | (with_reducible refine Kd.C_alloc ?_ _) | (with_reducible refine Kd.C_drewN ?_ _) | (with_reducible refine Kd.C_drew ?_))); (case side2 => exact HC0_1.out); rintro e w53 ⟨rfl, hb⟩; have n0_ := Aside0.mk (Kd.S_below (by (with_reducible repeat (first | apply Kd.S_alloc | apply Kd.S_drewN | apply Kd.S_drew)); exact HO266.out) hb); have n1_ := Aside0.mk (blk_below (g := gb263) (o := .cells #[.int .i64 a0_0, .slice A0_1 l0_1.length c0_1] 26 (0, 0)) (by (with_reducible repeat (first | refine blk_drewN ?_ _ | refine blk_drew ?_ | refine blk_alloc ?_ _)); exact BK263.out) hb); have n2_ := Aside0.mk (below_step (by repeat (first | (with_reducible first | exact HB.out | apply below_alloc | apply pw_below_drewN | apply below_drew1 | refine below_set ?_ GE263.out) | exact HB.out)) hb); clear HO266; clear BK263; clear HB; have HO266 := n0_; have BK263 := n1_; have HB := n2_; clear n0_ n1_ n2_; (try clear hb); (try clear hb2); (try clear hk); (try clear hi))))
   go_ret3
   exact ⟨by first | rfl | (simp [errW_none, errW_some] <;> rfl) | (simp [*, errW_none, errW_some] <;> rfl), by repeat (first | (with_reducible first | exact HB.out | apply below_alloc | apply pw_below_drewN | apply below_drew1 | refine below_set ?_ GE263.out) | exact HB.out)⟩
 ·replace c5 := Bool.eq_false_iff.mpr c5
  subst c5
  have H1 : (some (0, 0, false)) = some (r1, r2, r3) := by rw [if_neg (show ¬ (false = true) by decide)] at H; exact H
  clear H
  have H := H1
  clear H1
  simp only [Option.some.injEq, Prod.mk.injEq] at H
  obtain ⟨rfl, rfl, rfl⟩ := H
  go_enter Try.func15, Try.ntmps15
  go_wp2_with (first | ((with_reducible refine gate_dst (N := 3) rfl ?_); refine box_event ?hg (N := 3) ?hd (cs := #[.int .i64 a0_0, .slice A0_1 l0_1.length c0_1]) (t := 26) ?hr ?_; (case hd => rfl); (case hg => rfl); (case hr => first | (go_simp; done) | (go_simp; rfl)); intro gb263 hg w54 hbox hb; have n0_ := Aside0.mk (below_step (by repeat (first | (with_reducible first | exact HB.out | apply below_alloc | apply pw_below_drewN | apply below_drew1) | exact HB.out)) hb); have n1_ := Aside0.mk (hbox); have n2_ := Aside0.mk ((by rw [hg]; exact (below_size (by repeat (first | (with_reducible first | exact HB.out | apply below_alloc | apply pw_below_drewN | apply below_drew1) | exact HB.out))) : w.heap.size ≤ gb263)); have n3_ := Aside0.mk ((by rw [hg]; exact (below_size (by repeat (first | (with_reducible first | exact HB.out | apply below_alloc | apply pw_below_drewN | apply below_drew1) | exact HB.out))) : w.heap.size ≤ gb263)); clear HB; have HB := n0_; have BK263 := n1_; have GW263 := n2_; have GE263 := n3_; clear n0_ n1_ n2_ n3_; clear hb hbox hg; have hcz55_0 : w54.cell? ⟨gb263, 0, none⟩ = some (.int .i64 a0_0) := (blk_cell BK263.out 0).trans rfl; have hcz55_1 : w54.cell? ⟨gb263, 1, none⟩ = some (.slice A0_1 l0_1.length c0_1) := (blk_cell BK263.out 1).trans rfl; have hfz55_0 := blk_frozen BK263.out 0; have hfz55_1 := blk_frozen BK263.out 1) | (go_at_call 16; (with_reducible refine (impl_TightestBounds.calls k a0_0 _ _ l0_1 t264 false _ ?side1 ?side2 A4.out).mono ?_); (case side1 => repeat (first | exact (Kd.C_below HR0_1.out HB.out) | (with_reducible refine Kd.C_alloc ?_ _) | (with_reducible refine Kd.C_drewN ?_ _) | (with_reducible refine Kd.C_drew ?_))); (case side2 => exact HC0_1.out); rintro e w56 ⟨v265, rfl, ho0, hb⟩; have n0_ := Aside0.mk (Kd.S_lower ho0 (below_size (by repeat (first | (with_reducible first | exact HB.out | apply below_alloc | apply pw_below_drewN | apply below_drew1 | refine below_set ?_ GE263.out) | exact HB.out)))); have n1_ := Aside0.mk (blk_below (g := gb263) (o := .cells #[.int .i64 a0_0, .slice A0_1 l0_1.length c0_1] 26 (0, 0)) (by (with_reducible repeat (first | refine blk_drewN ?_ _ | refine blk_drew ?_ | refine blk_alloc ?_ _)); exact BK263.out) hb); have n2_ := Aside0.mk (below_step (by repeat (first | (with_reducible first | exact HB.out | apply below_alloc | apply pw_below_drewN | apply below_drew1 | refine below_set ?_ GE263.out) | exact HB.out)) hb); clear BK263; clear HB; have HO266 := n0_; have BK263 := n1_; have HB := n2_; clear n0_ n1_ n2_; (try clear hb); (try clear hb2); (try clear hk); (try clear hi); (try clear ho0)))
  repeat (go_quiet (first | ((with_reducible refine gate_dst (N := 3) rfl ?_); refine box_event ?hg (N := 3) ?hd (cs := #[.int .i64 a0_0, .slice A0_1 l0_1.length c0_1]) (t := 26) ?hr ?_; (case hd => rfl); (case hg => rfl); (case hr => first | (go_simp; done) | (go_simp; rfl)); intro gb263 hg w54 hbox hb; have n0_ := Aside0.mk (below_step (by repeat (first | (with_reducible first | exact HB.out | apply below_alloc | apply pw_below_drewN | apply below_drew1) | exact HB.out)) hb); have n1_ := Aside0.mk (hbox); have n2_ := Aside0.mk ((by rw [hg]; exact (below_size (by repeat (first | (with_reducible first | exact HB.out | apply below_alloc | apply pw_below_drewN | apply below_drew1) | exact HB.out))) : w.heap.size ≤ gb263)); have n3_ := Aside0.mk ((by rw [hg]; exact (below_size (by repeat (first | (with_reducible first | exact HB.out | apply below_alloc | apply pw_below_drewN | apply below_drew1) | exact HB.out))) : w.heap.size ≤ gb263)); clear HB; have HB := n0_; have BK263 := n1_; have GW263 := n2_; have GE263 := n3_; clear n0_ n1_ n2_ n3_; clear hb hbox hg; have hcz55_0 : w54.cell? ⟨gb263, 0, none⟩ = some (.int .i64 a0_0) := (blk_cell BK263.out 0).trans rfl; have hcz55_1 : w54.cell? ⟨gb263, 1, none⟩ = some (.slice A0_1 l0_1.length c0_1) := (blk_cell BK263.out 1).trans rfl; have hfz55_0 := blk_frozen BK263.out 0; have hfz55_1 := blk_frozen BK263.out 1) | (go_at_call 16; (with_reducible refine (impl_TightestBounds.calls k a0_0 _ _ l0_1 t264 false _ ?side1 ?side2 A4.out).mono ?_); (case side1 => repeat (first | exact (Kd.C_below HR0_1.out HB.out) | (with_reducible refine Kd.C_alloc ?_ _) | (with_reducible refine Kd.C_drewN ?_ _) | (with_reducible refine Kd.C_drew ?_))); (case side2 => exact HC0_1.out); rintro e w56 ⟨v265, rfl, ho0, hb⟩; have n0_ := Aside0.mk (Kd.S_lower ho0 (below_size (by repeat (first | (with_reducible first | exact HB.out | apply below_alloc | apply pw_below_drewN | apply below_drew1 | refine below_set ?_ GE263.out) | exact HB.out)))); have n1_ := Aside0.mk (blk_below (g := gb263) (o := .cells #[.int .i64 a0_0, .slice A0_1 l0_1.length c0_1] 26 (0, 0)) (by (with_reducible repeat (first | refine blk_drewN ?_ _ | refine blk_drew ?_ | refine blk_alloc ?_ _)); exact BK263.out) hb); have n2_ := Aside0.mk (below_step (by repeat (first | (with_reducible first | exact HB.out | apply below_alloc | apply pw_below_drewN | apply below_drew1 | refine below_set ?_ GE263.out) | exact HB.out)) hb); clear BK263; clear HB; have HO266 := n0_; have BK263 := n1_; have HB := n2_; clear n0_ n1_ n2_; (try clear hb); (try clear hb2); (try clear hk); (try clear hi); (try clear ho0))); try go_wp2_with (first | ((with_reducible refine gate_dst (N := 3) rfl ?_); refine box_event ?hg (N := 3) ?hd (cs := #[.int .i64 a0_0, .slice A0_1 l0_1.length c0_1]) (t := 26) ?hr ?_; (case hd => rfl); (case hg => rfl); (case hr => first | (go_simp; done) | (go_simp; rfl)); intro gb263 hg w54 hbox hb; have n0_ := Aside0.mk (below_step (by repeat (first | (with_reducible first | exact HB.out | apply below_alloc | apply pw_below_drewN | apply below_drew1) | exact HB.out)) hb); have n1_ := Aside0.mk (hbox); have n2_ := Aside0.mk ((by rw [hg]; exact (below_size (by repeat (first | (with_reducible first | exact HB.out | apply below_alloc | apply pw_below_drewN | apply below_drew1) | exact HB.out))) : w.heap.size ≤ gb263)); have n3_ := Aside0.mk ((by rw [hg]; exact (below_size (by repeat (first | (with_reducible first | exact HB.out | apply below_alloc | apply pw_below_drewN | apply below_drew1) | exact HB.out))) : w.heap.size ≤ gb263)); clear HB; have HB := n0_; have BK263 := n1_; have GW263 := n2_; have GE263 := n3_; clear n0_ n1_ n2_ n3_; clear hb hbox hg; have hcz55_0 : w54.cell? ⟨gb263, 0, none⟩ = some (.int .i64 a0_0) := (blk_cell BK263.out 0).trans rfl; have hcz55_1 : w54.cell? ⟨gb263, 1, none⟩ = some (.slice A0_1 l0_1.length c0_1) := (blk_cell BK263.out 1).trans rfl; have hfz55_0 := blk_frozen BK263.out 0; have hfz55_1 := blk_frozen BK263.out 1) | (go_at_call 16; (with_reducible refine (impl_TightestBounds.calls k a0_0 _ _ l0_1 t264 false _ ?side1 ?side2 A4.out).mono ?_); (case side1 => repeat (first | exact (Kd.C_below HR0_1.out HB.out) | (with_reducible refine Kd.C_alloc ?_ _) | (with_reducible refine Kd.C_drewN ?_ _) | (with_reducible refine Kd.C_drew ?_))); (case side2 => exact HC0_1.out); rintro e w56 ⟨v265, rfl, ho0, hb⟩; have n0_ := Aside0.mk (Kd.S_lower ho0 (below_size (by repeat (first | (with_reducible first | exact HB.out | apply below_alloc | apply pw_below_drewN | apply below_drew1 | refine below_set ?_ GE263.out) | exact HB.out)))); have n1_ := Aside0.mk (blk_below (g := gb263) (o := .cells #[.int .i64 a0_0, .slice A0_1 l0_1.length c0_1] 26 (0, 0)) (by (with_reducible repeat (first | refine blk_drewN ?_ _ | refine blk_drew ?_ | refine blk_alloc ?_ _)); exact BK263.out) hb); have n2_ := Aside0.mk (below_step (by repeat (first | (with_reducible first | exact HB.out | apply below_alloc | apply pw_below_drewN | apply below_drew1 | refine below_set ?_ GE263.out) | exact HB.out)) hb); clear BK263; clear HB; have HO266 := n0_; have BK263 := n1_; have HB := n2_; clear n0_ n1_ n2_; (try clear hb); (try clear hb2); (try clear hk); (try clear hi); (try clear ho0))))
  go_ret3
  exact ⟨by first | rfl | (simp [errW_none, errW_some] <;> rfl) | (simp [*, errW_none, errW_some] <;> rfl), by repeat (first | (with_reducible first | exact HB.out | apply below_alloc | apply pw_below_drewN | apply below_drew1 | refine below_set ?_ GE263.out) | exact HB.out)⟩

end Go.Proofs.Ytahjcmmgdcedpaa.Pa

/- What the program's EarliestTimes, LatestTimes and GapOf answer for a diagram in bounds. -/
namespace Go.Proofs.Ytahjcmmgdcedpaa.Pure
open Go.RowKit Go.Proofs.Ytahjcmmgdcedpaa.Pa Go.Proofs.YtahjcmmgdcedpaaW.PrintWords Go.Proofs.YtahjcmmgdcedpaaW.PrintLast Go.Proofs.YtahjcmmgdcedpaaW.PrintMore
set_option linter.unusedVariables false
set_option linter.unusedSimpArgs false

section
variable {m : Nat} {bs : List S32} {a c : Int}
/-- The earliest times, if there are any. -/
def earlyV (m : Nat) (bs : List S32) (a : Int) : List Int × Bool :=
 if feasible m bs [] = true then (if (colL (tight m bs []) a m 0).contains (-1000000) = true then ([], false) else (colL (tight m bs []) a m 0, true)) else ([], false)
def lateV (m : Nat) (bs : List S32) (a : Int) : List Int × Bool :=
 if feasible m bs [] = true then (if (rd_L6 (tight m bs []) a).contains 1000000 = true then ([], false) else (rd_L6 (tight m bs []) a, true)) else ([], false)
def gapV (m : Nat) (bs : List S32) (a c : Int) : Int × Int × Bool :=
 if feasible m bs [] = true then (if rd (rd_L6 (tight m bs []) a) c = 1000000 then (0, 0, false) else if rd (rd_L6 (tight m bs []) c) a = 1000000 then (0, 0, false) else (wrap64 (-(rd (rd_L6 (tight m bs []) c) a)), rd (rd_L6 (tight m bs []) a) c, true)) else (0, 0, false)
theorem early_val (h0 : 1 ≤ m) (hn : m ≤ 10) (hl : bs.length ≤ 24) (hb : ∀ b ∈ bs, Bd m b) (hok : diagramOk (m : Int) bs = true) (a0 : 0 ≤ a) (a1 : a < (m : Int)) : ∃ K, ∀ k, K ≤ k → impl_EarliestTimes.f k (m : Int) bs a = some (earlyV m bs a) := by
 obtain ⟨K1, hK1⟩ := implTB h0 hn bs hl hb hok
 have ea : evOk m a = true := by unfold evOk; rw [decide_eq_true a0, decide_eq_true a1]; rfl
 refine ⟨K1 + 100, fun k hk => ?_⟩
 have i1 := hK1 k (by omega)
 have hS := tight_Sq hb []
 unfold impl_EarliestTimes.f earlyV
 rw [i1]
 obtain ⟨k, rfl⟩ : ∃ q, k = q + 1 := ⟨k - 1, by omega⟩
 by_cases hf : feasible m bs [] = true
 ·rw [if_pos hf, if_pos hf]
  simp only [Option.bind_some, if_true]
  rw [impl_ev hn, ea]
  simp only [Option.bind_some, Bool.not_true, impl_EarliestTimes.j0, Bool.false_eq_true, if_false]
  have := early_impl hn a0 a1 hS m (k - 21 - m) 0 [] rfl (by omega)
  rw [show k - 21 - m + 20 + m + 1 = k by omega, show ((0 : Nat) : Int) = 0 from rfl, List.nil_append] at this
  rw [hS.1, this]
 ·rw [if_neg hf, if_neg hf]
  simp only [Option.bind_some, Bool.false_eq_true, if_false, impl_EarliestTimes.j0, if_true]
theorem late_val (h0 : 1 ≤ m) (hn : m ≤ 10) (hl : bs.length ≤ 24) (hb : ∀ b ∈ bs, Bd m b) (hok : diagramOk (m : Int) bs = true) (a0 : 0 ≤ a) (a1 : a < (m : Int)) : ∃ K, ∀ k, K ≤ k → impl_LatestTimes.f k (m : Int) bs a = some (lateV m bs a) := by
 obtain ⟨K1, hK1⟩ := implTB h0 hn bs hl hb hok
 have ea : evOk m a = true := by unfold evOk; rw [decide_eq_true a0, decide_eq_true a1]; rfl
 refine ⟨K1 + 100, fun k hk => ?_⟩
 have i1 := hK1 k (by omega)
 have hS := tight_Sq hb []
 obtain ⟨t1, t2⟩ := T_row hS a0 a1
 unfold impl_LatestTimes.f lateV
 rw [i1]
 by_cases hf : feasible m bs [] = true
 ·rw [if_pos hf, if_pos hf]
  simp only [Option.bind_some, if_true]
  rw [impl_ev hn, ea]
  simp only [Option.bind_some, if_true]
  rw [if_pos a0, if_pos (by omega), contains_tells _ (by omega) _ _ (by omega)]
  simp only [Option.bind_some]
  by_cases z : (rd_L6 (tight m bs []) a).contains 1000000 = true
  ·rw [if_pos z, if_pos z]
  ·rw [if_neg z, if_neg z]
 ·rw [if_neg hf, if_neg hf]
  simp only [Option.bind_some, Bool.false_eq_true, if_false]
theorem gap_val (h0 : 1 ≤ m) (hn : m ≤ 10) (hl : bs.length ≤ 24) (hb : ∀ b ∈ bs, Bd m b) (hok : diagramOk (m : Int) bs = true) (a0 : 0 ≤ a) (a1 : a < (m : Int)) (c0 : 0 ≤ c) (c1 : c < (m : Int)) : ∃ K, ∀ k, K ≤ k → impl_GapOf.f k (m : Int) bs a c = some (gapV m bs a c) := by
 obtain ⟨K1, hK1⟩ := implTB h0 hn bs hl hb hok
 have ea : evOk m a = true := by unfold evOk; rw [decide_eq_true a0, decide_eq_true a1]; rfl
 have ec : evOk m c = true := by unfold evOk; rw [decide_eq_true c0, decide_eq_true c1]; rfl
 refine ⟨K1 + 100, fun k hk => ?_⟩
 have i1 := hK1 k (by omega)
 have hS := tight_Sq hb []
 obtain ⟨t1, t2⟩ := T_row hS a0 a1
 obtain ⟨_, t4⟩ := T_row hS c0 c1
 unfold impl_GapOf.f gapV
 rw [i1]
 by_cases hf : feasible m bs [] = true
 ·rw [if_pos hf, if_pos hf]
  simp only [Option.bind_some, if_true]
  rw [impl_ev hn, ea]
  simp only [Option.bind_some, if_true]
  rw [impl_ev hn, ec]
  simp only [Option.bind_some, if_true]
  rw [if_pos a0, if_pos (by omega), if_pos c0, if_pos (by omega)]
  by_cases z1 : rd (rd_L6 (tight m bs []) a) c = 1000000
  ·rw [if_pos z1, if_pos z1]
  ·rw [if_neg z1, if_neg z1, if_pos (by omega), if_pos (by omega)]
   by_cases z2 : rd (rd_L6 (tight m bs []) c) a = 1000000
   ·rw [if_pos z2, if_pos z2]
   ·rw [if_neg z2, if_neg z2]
 ·rw [if_neg hf, if_neg hf]
  simp only [Option.bind_some, Bool.false_eq_true, if_false]
end
end Go.Proofs.Ytahjcmmgdcedpaa.Pure

/- One round of the tightest bounds, told entry by entry. -/
namespace Go.Proofs.Ytahjcmmgdcedpaa.Pure
open Go.RowKit Go.Proofs.Ytahjcmmgdcedpaa.Pa Go.Proofs.YtahjcmmgdcedpaaW.PrintWords Go.Proofs.YtahjcmmgdcedpaaW.PrintLast Go.Proofs.YtahjcmmgdcedpaaW.PrintMore
set_option linter.unusedVariables false
set_option linter.unusedSimpArgs false

/-- The entry from i to j. -/
def V (M : List (List Int)) (i j : Nat) : Int := rd (rd_L6 M (i : Int)) (j : Int)
theorem row_set {n : Nat} {M : List (List Int)} (h : Sq n M) {i i' : Nat} (hi : i < n) (hi' : i' < n) (r : List Int) : rd_L6 (M.set i r) (i' : Int) = if i' = i then r else rd_L6 M (i' : Int) := by
 unfold rd_L6
 simp only [List.getD_eq_getElem?_getD, Int.toNat_natCast, List.getElem?_set]
 have hl := h.1
 by_cases e : i = i'
 ·subst e
  rw [if_pos rfl, if_pos (by omega), if_pos rfl]; rfl
 ·rw [if_neg e, if_neg (fun h => e h.symm)]
theorem rd_set {l : List Int} {j j' : Nat} (hj : j < l.length) (v : Int) : rd (l.set j v) (j' : Int) = if j' = j then v else rd l (j' : Int) := by
 unfold rd
 simp only [List.getD_eq_getElem?_getD, Int.toNat_natCast, List.getElem?_set]
 by_cases e : j = j'
 ·subst e
  rw [if_pos rfl, if_pos hj, if_pos rfl]; rfl
 ·rw [if_neg e, if_neg (fun h => e h.symm)]
theorem V_put {n : Nat} {M : List (List Int)} (h : Sq n M) {i j i' j' : Nat} (hi : i < n) (hj : j < n) (hi' : i' < n) (v : Int) : V (M.set i ((rd_L6 M (i : Int)).set j v)) i' j' = if i' = i ∧ j' = j then v else V M i' j' := by
 unfold V
 rw [row_set h hi hi']
 by_cases e : i' = i
 ·subst e
  rw [if_pos rfl, rd_set (by rw [row_len h hi]; exact hj)]
  by_cases e2 : j' = j
  ·rw [if_pos e2, if_pos ⟨rfl, e2⟩]
  ·rw [if_neg e2, if_neg (fun h => e2 h.2)]
 ·rw [if_neg e, if_neg (fun h => e h.1)]
theorem mn_le (a b : Int) : mn a b ≤ a := by unfold mn; split <;> omega
/-- One step only lowers. -/
theorem step_le {n : Nat} {M : List (List Int)} (h : Sq n M) {x i j : Nat} (hi : i < n) (hj : j < n) {i' j' : Nat} (hi' : i' < n) : V (stepJ M x i j) i' j' ≤ V M i' j' := by
 unfold stepJ
 split
 ·split
  ·rw [V_put h hi hj hi']
   split
   ·rename_i e
    obtain ⟨rfl, rfl⟩ := e
    exact mn_le _ _
   ·exact Int.le_refl _
  ·exact Int.le_refl _
 ·exact Int.le_refl _
theorem foldJ_le {n : Nat} {x i : Nat} (hi : i < n) (d : Nat) : ∀ (M : List (List Int)) (j : Nat), Sq n M → j + d ≤ n → ∀ i' j', i' < n → V (foldJ x i d M j) i' j' ≤ V M i' j' := by
 induction d with
 | zero => intro M j _ _ i' j' _; exact Int.le_refl _
 | succ d ih =>
  intro M j h hj i' j' hi'
  exact Int.le_trans (ih _ _ (Sq_stepJ h hi (by omega)) (by omega) i' j' hi') (step_le h hi (by omega) hi')
theorem foldI_le {n : Nat} {x : Nat} (d : Nat) : ∀ (M : List (List Int)) (i : Nat), Sq n M → i + d ≤ n → ∀ i' j', i' < n → V (foldI n x d M i) i' j' ≤ V M i' j' := by
 induction d with
 | zero => intro M j _ _ i' j' _; exact Int.le_refl _
 | succ d ih =>
  intro M i h hi i' j' hi'
  exact Int.le_trans (ih _ _ (Sq_foldJ (by omega) _ _ _ h (by omega)) (by omega) i' j' hi') (foldJ_le (by omega) _ _ _ h (by omega) i' j' hi')
theorem foldX_le {n : Nat} (d : Nat) : ∀ (M : List (List Int)) (x : Nat), Sq n M → ∀ i' j', i' < n → V (foldX n d M x) i' j' ≤ V M i' j' := by
 induction d with
 | zero => intro M j _ i' j' _; exact Int.le_refl _
 | succ d ih =>
  intro M x h i' j' hi'
  exact Int.le_trans (ih _ _ (Sq_foldI _ _ _ h (by omega)) i' j' hi') (foldI_le _ _ _ h (by omega) i' j' hi')
/-- What a round makes of the entry from i to j, where it starts from M. -/
def nw (M : List (List Int)) (x i j : Nat) : Int := if V M i x < 1000000 ∧ V M x j < 1000000 then mn (V M i j) (V M i x + V M x j) else V M i j
theorem nw_col {M : List (List Int)} {x : Nat} (h : 0 ≤ V M x x) (i : Nat) : nw M x i x = V M i x := by
 unfold nw mn
 split
 ·split <;> omega
 ·rfl
theorem nw_row {M : List (List Int)} {x : Nat} (h : 0 ≤ V M x x) (j : Nat) : nw M x x j = V M x j := by
 unfold nw mn
 split
 ·split <;> omega
 ·rfl
/-- How far a round has come: the entries before (i, j) are new. -/
def Half (n : Nat) (M0 M : List (List Int)) (x i j : Nat) : Prop := ∀ i' j', i' < n → j' < n → V M i' j' = if i' < i ∨ (i' = i ∧ j' < j) then nw M0 x i' j' else V M0 i' j'
/-- All entries lie between. -/
def Rg (n : Nat) (B : Int) (M : List (List Int)) : Prop := ∀ i j, i < n → j < n → -B ≤ V M i j ∧ V M i j ≤ 1000000
theorem Half_step {n : Nat} {M0 M : List (List Int)} {B : Int} (hB : B ≤ 4611686018427387904) (h0 : Rg n B M0) {x i j : Nat} (hx : x < n) (hi : i < n) (hj : j < n) (hd : 0 ≤ V M0 x x) (h : Sq n M) (hh : Half n M0 M x i j) : Half n M0 (stepJ M x i j) x i (j + 1) := by
 have a : V M i x = V M0 i x := by rw [hh i x hi hx, nw_col hd]; split <;> rfl
 have b : V M x j = V M0 x j := by rw [hh x j hx hj, nw_row hd]; split <;> rfl
 have c : V M i j = V M0 i j := by rw [hh i j hi hj, if_neg (by omega)]
 have ra := h0 i x hi hx
 have rb := h0 x j hx hj
 have key : ∀ i' j', i' < n → j' < n → V (stepJ M x i j) i' j' = if i' = i ∧ j' = j then nw M0 x i j else V M i' j' := by
  intro i' j' hi' hj'
  unfold stepJ
  have ea : rd (rd_L6 M (i : Int)) (x : Int) = V M0 i x := a
  have eb : rd (rd_L6 M (x : Int)) (j : Int) = V M0 x j := b
  have ec : rd (rd_L6 M (i : Int)) (j : Int) = V M0 i j := c
  rw [ea, eb, ec]
  by_cases c1 : V M0 i x < 1000000
  ·rw [if_pos c1]
   by_cases c2 : V M0 x j < 1000000
   ·have hw : wrap64 (V M0 i x + V M0 x j) = V M0 i x + V M0 x j := by unfold wrap64; omega
    have hn : nw M0 x i j = mn (V M0 i j) (V M0 i x + V M0 x j) := by unfold nw; rw [if_pos ⟨c1, c2⟩]
    rw [if_pos c2, hw, V_put h hi hj hi', hn]
   ·have hn : nw M0 x i j = V M i j := by unfold nw; rw [if_neg (fun h => c2 h.2), c]
    rw [if_neg c2, hn]
    split
    ·rename_i e; obtain ⟨rfl, rfl⟩ := e; rfl
    ·rfl
  ·have hn : nw M0 x i j = V M i j := by unfold nw; rw [if_neg (fun h => c1 h.1), c]
   rw [if_neg c1, hn]
   split
   ·rename_i e; obtain ⟨rfl, rfl⟩ := e; rfl
   ·rfl
 intro i' j' hi' hj'
 rw [key i' j' hi' hj']
 by_cases e : i' = i ∧ j' = j
 ·obtain ⟨rfl, rfl⟩ := e
  rw [if_pos ⟨rfl, rfl⟩, if_pos (by omega)]
 ·rw [if_neg e, hh i' j' hi' hj']
  by_cases c : i' < i ∨ (i' = i ∧ j' < j)
  ·rw [if_pos c, if_pos (by omega)]
  ·rw [if_neg c, if_neg (by omega)]
theorem Half_J {n : Nat} {M0 : List (List Int)} {B : Int} (hB : B ≤ 4611686018427387904) (h0 : Rg n B M0) {x i : Nat} (hx : x < n) (hi : i < n) (hd : 0 ≤ V M0 x x) (d : Nat) : ∀ (M : List (List Int)) (j : Nat), Sq n M → j + d = n → Half n M0 M x i j → Half n M0 (foldJ x i d M j) x i n := by
 induction d with
 | zero =>
  intro M j _ hj hh
  obtain rfl : j = n := by omega
  exact hh
 | succ d ih =>
  intro M j h hj hh
  exact ih _ _ (Sq_stepJ h hi (by omega)) (by omega) (Half_step hB h0 hx hi (by omega) hd h hh)
theorem Half_next {n : Nat} {M0 M : List (List Int)} {x i : Nat} (hh : Half n M0 M x i n) : Half n M0 M x (i + 1) 0 := by
 intro i' j' hi' hj'
 rw [hh i' j' hi' hj']
 by_cases c : i' < i ∨ (i' = i ∧ j' < n)
 ·rw [if_pos c, if_pos (by omega)]
 ·rw [if_neg c, if_neg (by omega)]
theorem Half_I {n : Nat} {M0 : List (List Int)} {B : Int} (hB : B ≤ 4611686018427387904) (h0 : Rg n B M0) {x : Nat} (hx : x < n) (hd : 0 ≤ V M0 x x) (d : Nat) : ∀ (M : List (List Int)) (i : Nat), Sq n M → i + d = n → Half n M0 M x i 0 → Half n M0 (foldI n x d M i) x n 0 := by
 induction d with
 | zero =>
  intro M i _ hi hh
  obtain rfl : i = n := by omega
  exact hh
 | succ d ih =>
  intro M i h hi hh
  exact ih _ _ (Sq_foldJ (by omega) _ _ _ h (by omega)) (by omega) (Half_next (Half_J hB h0 hx (by omega) hd n M 0 h (by omega) hh))
/-- A round, where the entry from x to x is not below 0. -/
theorem round_tells {n : Nat} {M : List (List Int)} {B : Int} (hB : B ≤ 4611686018427387904) (h0 : Rg n B M) (h : Sq n M) {x : Nat} (hx : x < n) (hd : 0 ≤ V M x x) {i j : Nat} (hi : i < n) (hj : j < n) : V (foldI n x n M 0) i j = nw M x i j := by
 have := Half_I hB h0 hx hd n M 0 h (by omega) (fun i' j' _ _ => by rw [if_neg (by omega)])
 rw [this i j hi hj, if_pos (by omega)]
end Go.Proofs.Ytahjcmmgdcedpaa.Pure

/- Walks over weights: their sums, and how a walk is cut down to a path without a vertex twice. -/
namespace Go.Proofs.Ytahjcmmgdcedpaa.Pure
open Go.RowKit Go.Proofs.Ytahjcmmgdcedpaa.Pa Go.Proofs.YtahjcmmgdcedpaaW.PrintWords Go.Proofs.YtahjcmmgdcedpaaW.PrintLast
set_option linter.unusedVariables false
set_option linter.unusedSimpArgs false

/-- The weight of the walk from i through l. -/
def wt (w : Nat → Nat → Int) : Nat → List Nat → Int
 | _, [] => 0
 | i, j :: l => w i j + wt w j l
/-- Each of its steps has a bound. -/
def okW (w : Nat → Nat → Int) : Nat → List Nat → Prop
 | _, [] => True
 | i, j :: l => w i j < 1000000 ∧ okW w j l
def endW : Nat → List Nat → Nat
 | i, [] => i
 | _, j :: l => endW j l
theorem wt_append (w : Nat → Nat → Int) (a b : List Nat) : ∀ i, wt w i (a ++ b) = wt w i a + wt w (endW i a) b := by
 induction a with
 | nil => intro i; simp [wt, endW]
 | cons x a ih => intro i; simp only [List.cons_append, wt, endW, ih]; omega
theorem ok_append (w : Nat → Nat → Int) (a b : List Nat) : ∀ i, okW w i (a ++ b) ↔ okW w i a ∧ okW w (endW i a) b := by
 induction a with
 | nil => intro i; simp [okW, endW]
 | cons x a ih => intro i; simp only [List.cons_append, okW, endW, ih, and_assoc]
theorem end_append (a b : List Nat) : ∀ i, endW i (a ++ b) = endW (endW i a) b := by
 induction a with
 | nil => intro i; rfl
 | cons x a ih => intro i; exact ih x
theorem end_last (a : List Nat) (j i : Nat) : endW i (a ++ [j]) = j := by rw [end_append]; rfl
theorem wt_most (w : Nat → Nat → Int) (h : ∀ i j, w i j < 1000000 → -1000 ≤ w i j ∧ w i j ≤ 1000) (l : List Nat) : ∀ i, okW w i l → -1000 * (l.length : Int) ≤ wt w i l ∧ wt w i l ≤ 1000 * (l.length : Int) := by
 induction l with
 | nil => intro i _; simp [wt]
 | cons x l ih =>
  intro i ho
  have h1 := h i x ho.1
  have h2 := ih x ho.2
  simp only [wt, List.length_cons]
  push_cast
  omega
/-- Where no cycle falls, a walk weighs no less than some path with its ends. -/
theorem cut_down (w : Nat → Nat → Int) (hc : ∀ v s, s.Nodup → v ∉ s → okW w v (s ++ [v]) → 0 ≤ wt w v (s ++ [v])) (l : List Nat) : ∀ i, okW w i l →
  ∃ p, (i :: p).Nodup ∧ okW w i p ∧ endW i p = endW i l ∧ wt w i p ≤ wt w i l ∧ ∀ v ∈ p, v ∈ l := by
 induction l with
 | nil => intro i _; exact ⟨[], by simp, trivial, rfl, Int.le_refl _, fun v hv => hv⟩
 | cons j l ih =>
  intro i ho
  obtain ⟨p, hn, hp, he, hw, hs⟩ := ih j ho.2
  by_cases hi : i ∈ j :: p
  ·obtain ⟨A, B, hAB⟩ := List.append_of_mem hi
   have hn' := hn
   rw [hAB] at hn'
   have hA : A.Nodup := (List.nodup_append.mp hn').1
   have hB : (i :: B).Nodup := (List.nodup_append.mp hn').2.1
   have hiA : i ∉ A := fun h => (List.nodup_append.mp hn').2.2 i h i (List.mem_cons_self ..) rfl
   have hok : okW w i (j :: p) := ⟨ho.1, hp⟩
   have e : j :: p = (A ++ [i]) ++ B := by rw [hAB]; simp
   rw [e, ok_append, end_last] at hok
   have hcyc := hc i A hA hiA hok.1
   have hwt : wt w i (j :: p) = wt w i (A ++ [i]) + wt w i B := by rw [e, wt_append, end_last]
   have hend : endW i (j :: p) = endW i B := by rw [e, end_append, end_last]
   refine ⟨B, hB, hok.2, ?_, ?_, ?_⟩
   ·rw [← hend]; exact he
   ·have : wt w i (j :: p) = w i j + wt w j p := rfl
    have : wt w i (j :: l) = w i j + wt w j l := rfl
    omega
   ·intro v hv
    have : v ∈ j :: p := by rw [e]; exact List.mem_append_right _ hv
    rcases List.mem_cons.mp this with rfl | h
    ·exact List.mem_cons_self ..
    ·exact List.mem_cons_of_mem _ (hs v h)
  ·refine ⟨j :: p, List.nodup_cons.mpr ⟨hi, hn⟩, ⟨ho.1, hp⟩, he, ?_, ?_⟩
   ·have : wt w i (j :: p) = w i j + wt w j p := rfl
    have : wt w i (j :: l) = w i j + wt w j l := rfl
    omega
   ·intro v hv
    rcases List.mem_cons.mp hv with rfl | h
    ·exact List.mem_cons_self ..
    ·exact List.mem_cons_of_mem _ (hs v h)
/-- A list of different numbers below n has at most n of them. -/
theorem nodup_below (n : Nat) : ∀ l : List Nat, l.Nodup → (∀ v ∈ l, v < n) → l.length ≤ n := by
 induction n with
 | zero =>
  intro l _ h
  cases l with
  | nil => simp
  | cons x l => exact absurd (h x (List.mem_cons_self ..)) (by omega)
 | succ n ih =>
  intro l hn h
  by_cases hx : n ∈ l
  ·have h1 : (l.erase n).Nodup := hn.erase n
   have h2 := ih (l.erase n) h1 (fun v hv => by
    have := h v (List.mem_of_mem_erase hv)
    have hne : v ≠ n := fun e => by
     subst e
     exact (List.Nodup.mem_erase_iff hn).mp hv |>.1 rfl
    omega)
   rw [List.length_erase_of_mem hx] at h2
   omega
  ·have := ih l hn (fun v hv => by
    have := h v hv
    have hne : v ≠ n := fun e => hx (e ▸ hv)
    omega)
   omega
end Go.Proofs.Ytahjcmmgdcedpaa.Pure

/- The tightest bounds are the least weights of walks, where no event must come before itself. -/
namespace Go.Proofs.Ytahjcmmgdcedpaa.Pure
open Go.RowKit Go.Proofs.Ytahjcmmgdcedpaa.Pa Go.Proofs.YtahjcmmgdcedpaaW.PrintWords Go.Proofs.YtahjcmmgdcedpaaW.PrintLast Go.Proofs.YtahjcmmgdcedpaaW.PrintMore
set_option linter.unusedVariables false
set_option linter.unusedSimpArgs false

/-- The weights of single steps. -/
def wM (n : Nat) (M : List (List Int)) (i j : Nat) : Int := if i < n ∧ j < n then V M i j else 1000000
theorem ok_in (n : Nat) (M : List (List Int)) (l : List Nat) : ∀ i, okW (wM n M) i l → ∀ v ∈ l, v < n := by
 induction l with
 | nil => intro i _ v hv; simp at hv
 | cons x l ih =>
  intro i ho v hv
  rcases List.mem_cons.mp hv with rfl | hv
  ·have := ho.1
   unfold wM at this
   split at this
   ·rename_i e; exact e.2
   ·omega
  ·exact ih x ho.2 v hv
/-- No entry is above a path by way of vertices before x. -/
def LB (w : Nat → Nat → Int) (n x : Nat) (M : List (List Int)) : Prop := ∀ i (s : List Nat) j, i < n → j < n → (∀ v ∈ s, v < n ∧ v < x) → s.Nodup → i ∉ s → j ∉ s → okW w i (s ++ [j]) → V M i j ≤ wt w i (s ++ [j])
/-- Each entry below the top is a walk's weight. -/
def Att (w : Nat → Nat → Int) (n : Nat) (M : List (List Int)) : Prop := ∀ i j, i < n → j < n → V M i j < 1000000 → ∃ l, l ≠ [] ∧ okW w i l ∧ endW i l = j ∧ V M i j = wt w i l
theorem nw_le_old (M : List (List Int)) (x i j : Nat) : nw M x i j ≤ V M i j := by
 unfold nw
 split
 ·exact mn_le _ _
 ·exact Int.le_refl _
theorem nw_le_sum {M : List (List Int)} {x i j : Nat} (a : V M i x < 1000000) (b : V M x j < 1000000) : nw M x i j ≤ V M i x + V M x j := by
 unfold nw
 rw [if_pos ⟨a, b⟩]
 unfold mn
 split <;> omega
theorem LB_step {w : Nat → Nat → Int} {n x : Nat} (hn : n ≤ 10) (hx : x < n) (hw : ∀ i j, w i j < 1000000 → -1000 ≤ w i j ∧ w i j ≤ 1000) {M M' : List (List Int)} (h : LB w n x M) (hr : ∀ i j, i < n → j < n → V M' i j = nw M x i j) : LB w n (x + 1) M' := by
 intro i s j hi hj hs hnd his hjs hok
 rw [hr i j hi hj]
 by_cases hxs : x ∈ s
 ·obtain ⟨A, B, rfl⟩ := List.append_of_mem hxs
  have hnd' := List.nodup_append.mp hnd
  have hA : A.Nodup := hnd'.1
  have hB : (x :: B).Nodup := hnd'.2.1
  have hxA : x ∉ A := fun h => hnd'.2.2 x h x (List.mem_cons_self ..) rfl
  have hxB : x ∉ B := (List.nodup_cons.mp hB).1
  have e : A ++ x :: B ++ [j] = (A ++ [x]) ++ (B ++ [j]) := by simp
  rw [e, ok_append, end_last] at hok
  rw [e, wt_append, end_last]
  have a1 := h i A x hi hx (fun v hv => ⟨(hs v (by simp [hv])).1, by
   have := (hs v (by simp [hv])).2
   have hne : v ≠ x := fun e => hxA (e ▸ hv)
   omega⟩) hA (fun hh => his (by simp [hh])) hxA hok.1
  have a2 := h x B j hx hj (fun v hv => ⟨(hs v (by simp [hv])).1, by
   have := (hs v (by simp [hv])).2
   have hne : v ≠ x := fun e => hxB (e ▸ hv)
   omega⟩) (List.nodup_cons.mp hB).2 hxB (fun hh => hjs (by simp [hh])) hok.2
  have b1 := wt_most w hw _ i hok.1
  have b2 := wt_most w hw _ x hok.2
  have l1 := nodup_below n A hA (fun v hv => (hs v (by simp [hv])).1)
  have l2 := nodup_below n B (List.nodup_cons.mp hB).2 (fun v hv => (hs v (by simp [hv])).1)
  simp only [List.length_append, List.length_singleton] at b1 b2
  have := nw_le_sum (M := M) (x := x) (i := i) (j := j) (by omega) (by omega)
  omega
 ·have := h i s j hi hj (fun v hv => ⟨(hs v hv).1, by
   have := (hs v hv).2
   have hne : v ≠ x := fun e => hxs (e ▸ hv)
   omega⟩) hnd his hjs hok
  exact Int.le_trans (nw_le_old M x i j) this
theorem Att_step {w : Nat → Nat → Int} {n x : Nat} (hx : x < n) {M M' : List (List Int)} (h : Att w n M) (hr : ∀ i j, i < n → j < n → V M' i j = nw M x i j) : Att w n M' := by
 intro i j hi hj hv
 rw [hr i j hi hj] at hv ⊢
 unfold nw at hv ⊢
 split at hv
 ·rename_i c
  rw [if_pos c]
  unfold mn at hv ⊢
  split at hv
  ·rename_i c2
   rw [if_pos c2]
   obtain ⟨l1, n1, o1, e1, v1⟩ := h i x hi hx c.1
   obtain ⟨l2, n2, o2, e2, v2⟩ := h x j hx hj c.2
   refine ⟨l1 ++ l2, by simp [n1], ?_, ?_, ?_⟩
   ·rw [ok_append, e1]; exact ⟨o1, o2⟩
   ·rw [end_append, e1]; exact e2
   ·rw [wt_append, e1, v1, v2]
  ·rename_i c2
   rw [if_neg c2]
   exact h i j hi hj hv
 ·rename_i c
  rw [if_neg c]
  exact h i j hi hj hv
theorem Rg_step {n x : Nat} {B : Int} (hx : x < n) (hB : 1000000 ≤ B) {M M' : List (List Int)} (h : Rg n B M) (hr : ∀ i j, i < n → j < n → V M' i j = nw M x i j) : Rg n (2 * B) M' := by
 intro i j hi hj
 rw [hr i j hi hj]
 have a := h i j hi hj
 have b := h i x hi hx
 have c := h x j hx hj
 unfold nw mn
 split
 ·split <;> omega
 ·omega
def bnd : Nat → Int
 | 0 => 1000000
 | x + 1 => 2 * bnd x
theorem bnd_in (x : Nat) (hx : x ≤ 10) : 1000000 ≤ bnd x ∧ bnd x ≤ 4611686018427387904 := by
 have : ∀ y : Fin 11, 1000000 ≤ bnd y ∧ bnd y ≤ 4611686018427387904 := by decide
 exact this ⟨x, by omega⟩
theorem short {w : Nat → Nat → Int} {n : Nat} (hn : n ≤ 10) (hw : ∀ i j, w i j < 1000000 → -1000 ≤ w i j ∧ w i j ≤ 1000) (d : Nat) : ∀ (M : List (List Int)) (x : Nat), x + d = n → Sq n M → LB w n x M → Att w n M → Rg n (bnd x) M → (∀ v, v < n → 0 ≤ V (foldX n d M x) v v) →
  LB w n n (foldX n d M x) ∧ Att w n (foldX n d M x) := by
 induction d with
 | zero =>
  intro M x hx hS hL hA hR hd
  obtain rfl : x = n := by omega
  exact ⟨hL, hA⟩
 | succ d ih =>
  intro M x hx hS hL hA hR hd
  have hb := bnd_in x (by omega)
  have hxn : x < n := by omega
  have hdx : 0 ≤ V M x x := Int.le_trans (hd x hxn) (foldX_le (d + 1) M x hS x x hxn)
  have hr : ∀ i j, i < n → j < n → V (foldI n x n M 0) i j = nw M x i j := fun i j hi hj => round_tells hb.2 hR hS hxn hdx hi hj
  exact ih (foldI n x n M 0) (x + 1) (by omega) (Sq_foldI _ _ _ hS (by omega)) (LB_step hn hxn hw hL hr) (Att_step hxn hA hr) (Rg_step hxn hb.1 hR hr) hd
end Go.Proofs.Ytahjcmmgdcedpaa.Pure

/- What the tightest bounds of a diagram that can be kept are. -/
namespace Go.Proofs.Ytahjcmmgdcedpaa.Pure
open Go.RowKit Go.Proofs.Ytahjcmmgdcedpaa.Pa Go.Proofs.YtahjcmmgdcedpaaW.PrintWords Go.Proofs.YtahjcmmgdcedpaaW.PrintLast Go.Proofs.YtahjcmmgdcedpaaW.PrintMore
set_option linter.unusedVariables false
set_option linter.unusedSimpArgs false

theorem diag_all (d : Nat) : ∀ (M : List (List Int)) (i : Nat), diag d M i = true ↔ ∀ v, i ≤ v → v < i + d → 0 ≤ V M v v := by
 induction d with
 | zero => intro M i; simp only [diag, true_iff]; intro v h1 h2; omega
 | succ d ih =>
  intro M i
  have e : diag (d + 1) M i = if V M i i < 0 then false else diag d M (i + 1) := rfl
  rw [e]
  by_cases c : V M i i < 0
  ·rw [if_pos c]
   constructor
   ·intro h; simp at h
   ·intro h
    have := h i (Nat.le_refl _) (by omega)
    omega
  ·rw [if_neg c, ih]
   constructor
   ·intro h v h1 h2
    by_cases e : v = i
    ·subst e; omega
    ·exact h v (by omega) (by omega)
   ·intro h v h1 h2
    exact h v (by omega) (by omega)
/-- A first entry: no bound, or a small one. -/
def Ent (n : Nat) (M : List (List Int)) : Prop := ∀ i j, i < n → j < n → V M i j = 1000000 ∨ (-1000 ≤ V M i j ∧ V M i j ≤ 1000)
def Lim (b : S32) : Prop := -1000 ≤ b.f2 ∧ b.f2 ≤ 1000
theorem bput_V {n : Nat} {M : List (List Int)} (h : Sq n M) {b : S32} (hb : Bd n b) {i j : Nat} (hi : i < n) : V (bput M b) i j = if i = b.f0.toNat ∧ j = b.f1.toNat then mn (V M i j) b.f2 else V M i j := by
 obtain ⟨h0, h1, h2, h3, _⟩ := hb
 have e0 : ((b.f0.toNat : Nat) : Int) = b.f0 := by omega
 have e1 : ((b.f1.toNat : Nat) : Int) = b.f1 := by omega
 have := V_put h (i := b.f0.toNat) (j := b.f1.toNat) (i' := i) (j' := j) (by omega) (by omega) hi (mn (V M b.f0.toNat b.f1.toNat) b.f2)
 unfold bput
 unfold V at this ⊢
 rw [e0, e1] at this
 rw [this]
 by_cases e : i = b.f0.toNat ∧ j = b.f1.toNat
 ·obtain ⟨rfl, rfl⟩ := e
  rw [if_pos ⟨rfl, rfl⟩, if_pos ⟨rfl, rfl⟩, e0, e1]
 ·rw [if_neg e, if_neg e]
theorem bput_le {n : Nat} {M : List (List Int)} (h : Sq n M) {b : S32} (hb : Bd n b) {i j : Nat} (hi : i < n) : V (bput M b) i j ≤ V M i j := by
 rw [bput_V h hb hi]
 split
 ·exact mn_le _ _
 ·exact Int.le_refl _
theorem bput_Ent {n : Nat} {M : List (List Int)} (h : Sq n M) {b : S32} (hb : Bd n b) (hl : Lim b) (he : Ent n M) : Ent n (bput M b) := by
 intro i j hi hj
 have := he i j hi hj
 obtain ⟨l1, l2⟩ := hl
 rw [bput_V h hb hi]
 unfold mn
 split
 ·split <;> omega
 ·exact this
theorem bputs_le {n : Nat} (w : List Int) (bs : List S32) : ∀ (q : Nat) (M : List (List Int)), Sq n M → (∀ b ∈ bs, Bd n b) → ∀ i j, i < n → V (bputs w bs q M) i j ≤ V M i j := by
 induction bs with
 | nil => intro q M _ _ i j _; exact Int.le_refl _
 | cons b bs ih =>
  intro q M h hb i j hi
  have hb0 := hb b (List.mem_cons_self ..)
  have hbs := fun x hx => hb x (List.mem_cons_of_mem b hx)
  rw [bputs]
  by_cases c : w.contains (q : Int) = true
  ·rw [if_pos c]; exact ih (q + 1) M h hbs i j hi
  ·rw [if_neg c]; exact Int.le_trans (ih (q + 1) _ (Sq_bput h hb0) hbs i j hi) (bput_le h hb0 hi)
theorem bputs_Ent {n : Nat} (w : List Int) (bs : List S32) : ∀ (q : Nat) (M : List (List Int)), Sq n M → (∀ b ∈ bs, Bd n b) → (∀ b ∈ bs, Lim b) → Ent n M → Ent n (bputs w bs q M) := by
 induction bs with
 | nil => intro q M _ _ _ he; exact he
 | cons b bs ih =>
  intro q M h hb hl he
  have hb0 := hb b (List.mem_cons_self ..)
  have hl0 := hl b (List.mem_cons_self ..)
  have hbs := fun x hx => hb x (List.mem_cons_of_mem b hx)
  have hls := fun x hx => hl x (List.mem_cons_of_mem b hx)
  rw [bputs]
  by_cases c : w.contains (q : Int) = true
  ·rw [if_pos c]; exact ih (q + 1) M h hbs hls he
  ·rw [if_neg c]; exact ih (q + 1) _ (Sq_bput h hb0) hbs hls (bput_Ent h hb0 hl0 he)
/-- A bound that is not left out is kept by its entry. -/
theorem bputs_has {n : Nat} (w : List Int) (bs : List S32) : ∀ (q : Nat) (M : List (List Int)), Sq n M → (∀ b ∈ bs, Bd n b) → ∀ p (hp : p < bs.length), w.contains ((q + p : Nat) : Int) = false → V (bputs w bs q M) bs[p].f0.toNat bs[p].f1.toNat ≤ bs[p].f2 := by
 induction bs with
 | nil => intro q M _ _ p hp; simp at hp
 | cons b bs ih =>
  intro q M h hb p hp hc
  have hb0 := hb b (List.mem_cons_self ..)
  have hbs := fun x hx => hb x (List.mem_cons_of_mem b hx)
  rw [bputs]
  cases p with
  | zero =>
   rw [Nat.add_zero] at hc
   rw [if_neg (by rw [hc]; simp)]
   obtain ⟨h0, h1, _⟩ := id hb0
   refine Int.le_trans (bputs_le w bs (q + 1) _ (Sq_bput h hb0) hbs _ _ (by simp only [List.getElem_cons_zero]; omega)) ?_
   simp only [List.getElem_cons_zero]
   rw [bput_V h hb0 (by omega), if_pos ⟨rfl, rfl⟩]
   unfold mn
   split <;> omega
  | succ p =>
   have hS : Sq n (if w.contains (q : Int) then M else bput M b) := by
    split
    ·exact h
    ·exact Sq_bput h hb0
   simp only [List.getElem_cons_succ]
   exact ih (q + 1) _ hS hbs p (by simpa using hp) (by rw [← hc]; congr 2; omega)
theorem irows_get (n d : Nat) : ∀ i p, p < d → (irows n d i)[p]? = some (irow (i + p) n) := by
 induction d with
 | zero => intro i p h; omega
 | succ d ih =>
  intro i p h
  cases p with
  | zero => rfl
  | succ p =>
   have := ih (i + 1) p (by omega)
   simp only [irows, List.getElem?_cons_succ, this]
   congr 2
   omega
theorem irows_V (n i j : Nat) (hi : i < n) (hj : j < n) : V (irows n n 0) i j = if j = i then 0 else 1000000 := by
 unfold V rd_L6
 rw [List.getD_eq_getElem?_getD, Int.toNat_natCast, irows_get n n 0 i hi, Nat.zero_add]
 simp only [Option.getD_some]
 unfold irow
 rw [rd_set (by simpa using hi)]
 by_cases e : j = i
 ·rw [if_pos e, if_pos e]
 ·rw [if_neg e, if_neg e, rd_get (by simpa using hj)]
  simp
theorem irows_Ent (n : Nat) : Ent n (irows n n 0) := by
 intro i j hi hj
 rw [irows_V n i j hi hj]
 split
 ·right; omega
 ·left; rfl
/-- The first entries of a diagram. -/
def first (n : Nat) (bs : List S32) (w : List Int) : List (List Int) := bputs w bs 0 (irows n n 0)
section
variable {n : Nat} {bs : List S32} {w : List Int}
theorem first_Sq (hb : ∀ b ∈ bs, Bd n b) : Sq n (first n bs w) := Sq_bputs _ _ _ _ (irows_Sq n) hb
theorem first_Ent (hb : ∀ b ∈ bs, Bd n b) (hl : ∀ b ∈ bs, Lim b) : Ent n (first n bs w) := bputs_Ent _ _ _ _ (irows_Sq n) hb hl (irows_Ent n)
theorem wM_lim (hb : ∀ b ∈ bs, Bd n b) (hl : ∀ b ∈ bs, Lim b) : ∀ i j, wM n (first n bs w) i j < 1000000 → -1000 ≤ wM n (first n bs w) i j ∧ wM n (first n bs w) i j ≤ 1000 := by
 intro i j h
 unfold wM at h ⊢
 split at h
 ·rename_i c
  rw [if_pos c]
  have := first_Ent (w := w) hb hl i j c.1 c.2
  omega
 ·omega
/-- Least weights: below every path, and each of them a walk's. -/
theorem tight_short (hn : n ≤ 10) (hb : ∀ b ∈ bs, Bd n b) (hl : ∀ b ∈ bs, Lim b) (hf : feasible n bs w = true) :
  (∀ v, v < n → 0 ≤ V (tight n bs w) v v) ∧ LB (wM n (first n bs w)) n n (tight n bs w) ∧ Att (wM n (first n bs w)) n (tight n bs w) := by
 have hd : ∀ v, v < n → 0 ≤ V (tight n bs w) v v := fun v hv => (diag_all n _ 0).1 hf v (by omega) (by omega)
 have hE := first_Ent (w := w) hb hl
 have hL : LB (wM n (first n bs w)) n 0 (first n bs w) := by
  intro i s j hi hj hs _ _ _ _
  cases s with
  | nil =>
   simp only [List.nil_append, wt]
   unfold wM
   rw [if_pos ⟨hi, hj⟩]
   omega
  | cons x s => have := (hs x (List.mem_cons_self ..)).2; omega
 have hA : Att (wM n (first n bs w)) n (first n bs w) := by
  intro i j hi hj hv
  have e : wM n (first n bs w) i j = V (first n bs w) i j := by unfold wM; rw [if_pos ⟨hi, hj⟩]
  refine ⟨[j], by simp, ⟨by rw [e]; exact hv, trivial⟩, rfl, ?_⟩
  simp only [wt, e]
  omega
 have hR : Rg n (bnd 0) (first n bs w) := by
  intro i j hi hj
  have := hE i j hi hj
  unfold bnd
  omega
 exact ⟨hd, short hn (wM_lim hb hl) n (first n bs w) 0 (by omega) (first_Sq hb) hL hA hR hd⟩
theorem tight_self (hn : n ≤ 10) (hb : ∀ b ∈ bs, Bd n b) (hl : ∀ b ∈ bs, Lim b) (hf : feasible n bs w = true) {v : Nat} (hv : v < n) : V (tight n bs w) v v = 0 := by
 have h1 := (tight_short hn hb hl hf).1 v hv
 have h2 : V (tight n bs w) v v ≤ V (first n bs w) v v := foldX_le n _ 0 (first_Sq hb) v v hv
 have h3 : V (first n bs w) v v ≤ V (irows n n 0) v v := bputs_le w bs 0 _ (irows_Sq n) hb v v hv
 rw [irows_V n v v hv hv, if_pos rfl] at h3
 omega
/-- No entry is above a walk. -/
theorem tight_walk (hn : n ≤ 10) (hb : ∀ b ∈ bs, Bd n b) (hl : ∀ b ∈ bs, Lim b) (hf : feasible n bs w = true) {i : Nat} (hi : i < n) (l : List Nat) (ho : okW (wM n (first n bs w)) i l) :
  V (tight n bs w) i (endW i l) ≤ wt (wM n (first n bs w)) i l ∧ (V (tight n bs w) i (endW i l) ≤ 10000) ∧ -10000 ≤ wt (wM n (first n bs w)) i l := by
 obtain ⟨hd, hL, _⟩ := tight_short hn hb hl hf
 obtain ⟨p, pn, po, pe, pw, ps⟩ := cut_down (wM n (first n bs w)) (fun v s hs hvs hok => by
  have hin := ok_in n _ _ _ hok
  have hvn : v < n := hin v (by simp)
  have := hL v s v hvn hvn (fun u hu => ⟨hin u (by simp [hu]), hin u (by simp [hu])⟩) hs hvs hvs hok
  have := hd v hvn
  omega) l i ho
 have hin := ok_in n _ _ _ po
 have hlen : p.length ≤ 10 := Nat.le_trans (nodup_below n p (List.nodup_cons.mp pn).2 hin) hn
 have hmost := wt_most _ (wM_lim hb hl) p i po
 rcases List.eq_nil_or_concat p with rfl | ⟨s, j, rfl⟩
 ·have e : endW i l = i := pe.symm
  have := tight_self hn hb hl hf hi
  have e2 : wt (wM n (first n bs w)) i [] = 0 := rfl
  rw [e, this]
  omega
 ·rw [List.concat_eq_append] at *
  have e : endW i l = j := by rw [← pe, end_last]
  have hjn : j < n := hin j (by simp)
  have hn2 := List.nodup_cons.mp pn
  have hn3 := List.nodup_append.mp hn2.2
  have := hL i s j hi hjn (fun u hu => ⟨hin u (by simp [hu]), hin u (by simp [hu])⟩) hn3.1 (fun h => hn2.1 (by simp [h])) (fun h => hn3.2.2 j h j (by simp) rfl) po
  rw [e]
  omega
theorem tight_range (hn : n ≤ 10) (hb : ∀ b ∈ bs, Bd n b) (hl : ∀ b ∈ bs, Lim b) (hf : feasible n bs w = true) {i j : Nat} (hi : i < n) (hj : j < n) (hv : V (tight n bs w) i j < 1000000) : -10000 ≤ V (tight n bs w) i j ∧ V (tight n bs w) i j ≤ 10000 := by
 obtain ⟨l, _, ho, he, hw⟩ := (tight_short hn hb hl hf).2.2 i j hi hj hv
 have := tight_walk hn hb hl hf hi l ho
 rw [he] at this
 omega
theorem tight_le (hb : ∀ b ∈ bs, Bd n b) {i j : Nat} (hi : i < n) (hj : j < n) : V (tight n bs w) i j ≤ 1000000 := by
 have h2 : V (tight n bs w) i j ≤ V (first n bs w) i j := foldX_le n _ 0 (first_Sq hb) i j hi
 have h3 : V (first n bs w) i j ≤ V (irows n n 0) i j := bputs_le w bs 0 _ (irows_Sq n) hb i j hi
 rw [irows_V n i j hi hj] at h3
 split at h3 <;> omega
/-- By way of a third event. -/
theorem tight_via (hn : n ≤ 10) (hb : ∀ b ∈ bs, Bd n b) (hl : ∀ b ∈ bs, Lim b) (hf : feasible n bs w = true) {i k j : Nat} (hi : i < n) (hk : k < n) (hj : j < n) (h1 : V (tight n bs w) i k < 1000000) (h2 : V (tight n bs w) k j < 1000000) : V (tight n bs w) i j ≤ V (tight n bs w) i k + V (tight n bs w) k j := by
 obtain ⟨l1, _, o1, e1, v1⟩ := (tight_short hn hb hl hf).2.2 i k hi hk h1
 obtain ⟨l2, _, o2, e2, v2⟩ := (tight_short hn hb hl hf).2.2 k j hk hj h2
 have := (tight_walk hn hb hl hf hi (l1 ++ l2) (by rw [ok_append, e1]; exact ⟨o1, o2⟩)).1
 rw [end_append, e1, e2, wt_append, e1, ← v1, ← v2] at this
 exact this
/-- A bound is kept. -/
theorem tight_bound (hn : n ≤ 10) (hb : ∀ b ∈ bs, Bd n b) {p : Nat} (hp : p < bs.length) (hc : w.contains (p : Int) = false) : V (tight n bs w) bs[p].f0.toNat bs[p].f1.toNat ≤ bs[p].f2 := by
 obtain ⟨h0, h1, _⟩ := hb _ (List.getElem_mem hp)
 have h2 := foldX_le n (first n bs w) 0 (first_Sq hb) bs[p].f0.toNat bs[p].f1.toNat (by omega)
 have h3 := bputs_has w bs 0 _ (irows_Sq n) hb p hp (by rw [Nat.zero_add]; exact hc)
 exact Int.le_trans h2 h3
/-- Times that keep each single step keep each entry. -/
theorem tight_timed (hn : n ≤ 10) (hb : ∀ b ∈ bs, Bd n b) (hl : ∀ b ∈ bs, Lim b) (hf : feasible n bs w = true) (t : Nat → Int) (ht : ∀ i j, wM n (first n bs w) i j < 1000000 → t j - t i ≤ wM n (first n bs w) i j) {i j : Nat} (hi : i < n) (hj : j < n) (hv : V (tight n bs w) i j < 1000000) : t j - t i ≤ V (tight n bs w) i j := by
 obtain ⟨l, _, ho, he, hw⟩ := (tight_short hn hb hl hf).2.2 i j hi hj hv
 have key : ∀ (l : List Nat) (i : Nat), okW (wM n (first n bs w)) i l → t (endW i l) - t i ≤ wt (wM n (first n bs w)) i l := by
  intro l
  induction l with
  | nil => intro i _; simp [endW, wt]
  | cons x l ih =>
   intro i ho
   have h1 := ht i x ho.1
   have h2 := ih x ho.2
   simp only [endW, wt]
   omega
 have := key l i ho
 rw [he] at this
 omega
end
end Go.Proofs.Ytahjcmmgdcedpaa.Pure

namespace Go.Proofs.Ytahjcmmgdcedpaa.Pa
open Go.RowKit Go.Proofs.YtahjcmmgdcedpaaW.PrintWords Go.Proofs.YtahjcmmgdcedpaaW.PrintLast Go.Proofs.YtahjcmmgdcedpaaW.PrintMore
attribute [local go_sem] max2_int min2_int max_two min_two max_three min_three max_four min_four   -- for this text's walks alone
set_option linter.unusedVariables false
set_option linter.unusedSimpArgs false

/-! ### AUX containsI -/
set_option maxHeartbeats 2000000 in
set_option maxRecDepth 100000 in
theorem indexI.calls (A : Option Addr) (c : Nat) (l : List Int) (g : Nat) (lb : Array Value) (p : Int → Bool) (w : World) (hr : Kd.C (Kd.int .i64) w A l.length l)
  (eg : ∀ args W, (callFunc g args).run Try.prog W = .ok (.enter g args) W)
  (hp : ∀ (W : World) (x : Int), x ∈ l → Below w.heap.size w W → Calls Try.prog g (#[.int .i64 x] ++ lb) W fun e w' => e = .returned (.bool (p x)) ∧ Below w.heap.size w w') :
  Calls Try.prog 68 #[.slice A l.length c, .func (.func g) #[] lb] w fun e w' => e = .returned (.int .i64 (firstOf p l 0)) ∧ Below w.heap.size w w' := by
 have HR := Aside0.mk hr
 have hlen : l.length ≤ 9223372036854775807 := hr.2.1
 clear hr
 have HP := Aside0.mk hp
 clear hp
 go_enter Try.func68, Try.ntmps68
 go_wp2
 go_loopg [5, 8] l.length (fun gg _ s8 wr => ∃ x : Int, s8 = .int .i64 x ∧ Aside0 (0 ≤ x ∧ x ≤ l.length ∧ (l.length : Int) - x ≤ gg) ∧ Aside0 (Below w.heap.size w wr) ∧ Aside0 (firstOf p l 0 = firstOf p (l.drop x.toNat) x))
 case atStart => exact ⟨0, rfl, ⟨by omega⟩, ⟨Below.refl _ w⟩, ⟨rfl⟩⟩
 case round =>
  obtain ⟨x, rfl, HX, HB, HF⟩ := hrel
  by_cases hlt : x < (l.length : Int)
  ·have c0 : decide (0 ≤ x) = true := decide_eq_true HX.out.1
   have c1 : decide (x < (l.length : Int)) = true := decide_eq_true hlt
   have HL := Aside0.mk hlt
   clear hlt
   obtain ⟨ad, e, h0⟩ := Kd.at_int HR.out x HX.out.1 HL.out
   cases e
   replace h0 := (HB.out.cell (World.block_lt_of_cell? w _ h0)).trans h0
   have hmem : rd l x ∈ l := by
    have hx := HX.out
    have hl := HL.out
    unfold rd
    rw [List.getD_eq_getElem?_getD, List.getElem?_eq_getElem (by omega)]
    exact List.getElem_mem _
   have hcall := HP.out wr (rd l x) hmem HB.out
   clear hmem
   have hd : l.drop x.toNat = rd l x :: l.drop (x + 1).toNat := by
    have hx := HX.out
    have hl := HL.out
    rw [List.drop_eq_getElem_cons (by omega), show (x + 1).toNat = x.toNat + 1 from by omega]
    unfold rd
    rw [List.getD_eq_getElem?_getD, List.getElem?_eq_getElem (by omega)]
    rfl
   have HD := Aside0.mk hd
   clear hd
   cases hq : p (rd l x) with
   | true =>
    rw [hq] at hcall
    have HQ := Aside0.mk hq
    clear hq
    have HC := Aside0.mk hcall
    clear hcall
    have p0 := eq_true HX.out.1
    have p1 := eq_true HL.out
    go_wp2_with (go_at_fn g; refine HC.out.mono ?_; rintro e w' ⟨rfl, hb'⟩)
    go_ret
    refine ⟨?_, hb'⟩
    rw [HF.out, HD.out, firstOf_step, if_pos HQ.out]
    rfl
   | false =>
    rw [hq] at hcall
    have HQ := Aside0.mk hq
    clear hq
    have HC := Aside0.mk hcall
    clear hcall
    have p0 := eq_true HX.out.1
    have p1 := eq_true HL.out
    go_wp2_with (go_at_fn g; refine HC.out.mono ?_; rintro e w' ⟨rfl, hb'⟩)
    have hx1 := HX.out
    have hl1 := HL.out
    go_roundg ((l.length : Int) - (x + 1)).toNat
    case measure => omega
    case rel =>
     have hw1 : wrap64 (x + 1) = x + 1 := by unfold wrap64; omega
     refine ⟨x + 1, by rw [hw1], ⟨by omega⟩, ⟨hb'⟩, ⟨?_⟩⟩
     rw [HF.out, HD.out, firstOf_step, if_neg (by rw [HQ.out]; simp)]
  ·have c1 : decide (x < (l.length : Int)) = false := decide_eq_false hlt
   have HL := Aside0.mk hlt
   clear hlt
   go_wp2
   go_ret
   refine ⟨?_, HB.out⟩
   have hx := HX.out
   have hl := HL.out
   rw [HF.out, List.drop_of_length_le (by omega)]
   rfl
set_option maxHeartbeats 1000000 in
theorem containsI.calls (A : Option Addr) (c : Nat) (l : List Int) (g : Nat) (lb : Array Value) (p : Int → Bool) (w : World) (hr : Kd.C (Kd.int .i64) w A l.length l)
  (eg : ∀ args W, (callFunc g args).run Try.prog W = .ok (.enter g args) W)
  (hp : ∀ (W : World) (x : Int), x ∈ l → Below w.heap.size w W → Calls Try.prog g (#[.int .i64 x] ++ lb) W fun e w' => e = .returned (.bool (p x)) ∧ Below w.heap.size w w') :
  Calls Try.prog 36 #[.slice A l.length c, .func (.func g) #[] lb] w fun e w' => e = .returned (.bool (l.any p)) ∧ Below w.heap.size w w' := by
 have hcall := Aside0.mk (indexI.calls A c l g lb p w hr eg hp)
 clear hp hr eg
 rw [← firstOf_any p l]
 generalize firstOf p l 0 = r at hcall ⊢
 go_enter Try.func36, Try.ntmps36
 go_wp2_with (go_at_call 68; refine hcall.out.mono ?_; rintro e w' ⟨rfl, hb'⟩)
 go_ret
 exact ⟨rfl, hb'⟩

end Go.Proofs.Ytahjcmmgdcedpaa.Pa

namespace Go.Proofs.Ytahjcmmgdcedpaa.Pa
open Go.RowKit Go.Proofs.YtahjcmmgdcedpaaW.PrintWords Go.Proofs.YtahjcmmgdcedpaaW.PrintLast Go.Proofs.YtahjcmmgdcedpaaW.PrintMore
attribute [local go_sem] max2_int min2_int max_two min_two max_three min_three max_four min_four   -- for this text's walks alone
set_option linter.unusedVariables false
set_option linter.unusedSimpArgs false

/-! ### impl_IsTiming: function 11 -/
def badTime (t : Int) : Bool := !(decide (-1000000 ≤ t) && decide (t ≤ 1000000))
def badBound (times : List Int) (b : S32) : Bool := decide (b.f2 < rd times b.f1 - rd times b.f0)
def anyBadTime (times : List Int) : Bool := times.any badTime
def anyBadBound (times : List Int) (l : List S32) : Bool := l.any (badBound times)
def timingOk (n : Int) (l : List S32) (times : List Int) : Bool := diagramOk n l && ((times.length : Int) == n) && !anyBadTime times && !anyBadBound times l
theorem timing_range (n : Int) (l : List S32) (times : List Int) (hv : diagramOk n l = true) (hn : (times.length : Int) = n) (ht : anyBadTime times = false) :
  ∀ x ∈ l, 0 ≤ x.f0 ∧ x.f0 < (times.length : Int) ∧ 0 ≤ x.f1 ∧ x.f1 < (times.length : Int) ∧ -9223372036854775808 ≤ rd times x.f1 - rd times x.f0 ∧ rd times x.f1 - rd times x.f0 ≤ 9223372036854775807 := by
 intro x hx
 have hb : boundOk n x = true := by
  unfold diagramOk at hv
  simp only [Bool.and_eq_true, List.all_eq_true] at hv
  exact hv.2 x hx
 unfold boundOk at hb
 simp only [Bool.and_eq_true, decide_eq_true_eq] at hb
 have hr : ∀ i : Int, 0 ≤ i → i < (times.length : Int) → -1000000 ≤ rd times i ∧ rd times i ≤ 1000000 := by
  intro i h0 h1
  have hm : rd times i ∈ times := by
   unfold rd
   rw [List.getD_eq_getElem?_getD, List.getElem?_eq_getElem (by omega)]
   exact List.getElem_mem _
  unfold anyBadTime at ht
  rw [List.any_eq_false] at ht
  have := ht _ hm
  unfold badTime at this
  simpa using this
 have r0 := hr x.f0 (by omega) (by omega)
 have r1 := hr x.f1 (by omega) (by omega)
 omega
def impl_IsTiming.f (a0_0 : Int) (l0_1 : List (S32)) (l1 : List Int) : Option (Bool) := some (timingOk a0_0 l0_1 l1)
set_option maxHeartbeats 4000000 in
set_option maxRecDepth 100000 in
theorem IsTiming_time (w W : World) (x : Int) (hb : Below w.heap.size w W) :
  Calls Try.prog 37 (#[.int .i64 x] ++ #[]) W fun e w' => e = .returned (.bool (badTime x)) ∧ Below w.heap.size w w' := by
 have HB := Aside0.mk hb
 clear hb
 have hq : impl_within.f x (-1000000) 1000000 = some (decide (-1000000 ≤ x) && decide (x ≤ 1000000)) := by
  unfold impl_within.f
  by_cases h : -1000000 ≤ x <;> simp [h]
 have HQ := Aside0.mk hq
 clear hq
 unfold badTime
 generalize (decide (-1000000 ≤ x) && decide (x ≤ 1000000)) = q at HQ ⊢
 show Calls Try.prog 37 #[.int .i64 x] W _
 go_enter Try.func37, Try.ntmps37
 go_wp2_with (go_at_call 38; refine (impl_within.calls _ _ _ q _ HQ.out).mono ?_; rintro e w' ⟨rfl, ⟨nd, rfl⟩⟩)
 go_ret
 exact ⟨rfl, pw_below_drewN HB.out nd⟩
set_option maxHeartbeats 4000000 in
set_option maxRecDepth 100000 in
theorem IsTiming_bound (times : List Int) (A : Option Addr) (c B : Nat) (w : World) (hc0 : w.cell? ⟨B, 0, none⟩ = some (.slice A times.length c)) (hr : Kd.C (Kd.int .i64) w A times.length times) (W : World) (x : S32)
  (h0 : 0 ≤ x.f0) (h1 : x.f0 < (times.length : Int)) (h2 : 0 ≤ x.f1) (h3 : x.f1 < (times.length : Int)) (hw : -9223372036854775808 ≤ rd times x.f1 - rd times x.f0 ∧ rd times x.f1 - rd times x.f0 ≤ 9223372036854775807) (hb : Below w.heap.size w W) :
  Calls Try.prog 40 (#[.agg #[.int .i64 x.f0, .int .i64 x.f1, .int .i64 x.f2]] ++ #[.pointer (some ⟨B, 0, none⟩)]) W fun e w' => e = .returned (.bool (badBound times x)) ∧ Below w.heap.size w w' := by
 have hu := Try.underlying32
 have HB := Aside0.mk hb
 have HC0 := Aside0.mk (pw_cell_below hb hc0)
 have HR := Aside0.mk (Kd.C_below hr hb)
 clear hb hc0 hr
 have hq : badBound times x = decide (x.f2 < rd times x.f1 - rd times x.f0) := rfl
 have HQ := Aside0.mk hq
 clear hq
 have H0 := Aside0.mk h0
 have H1 := Aside0.mk h1
 have H2 := Aside0.mk h2
 have H3 := Aside0.mk h3
 have HW := Aside0.mk hw
 clear h0 h1 h2 h3 hw
 generalize badBound times x = q at HQ ⊢
 show Calls Try.prog 40 #[.agg #[.int .i64 x.f0, .int .i64 x.f1, .int .i64 x.f2], .pointer (some ⟨B, 0, none⟩)] W _
 go_enter Try.func40, Try.ntmps40
 go_wp2_with ((with_reducible refine gate_dst (N := 2) rfl ?_); refine box_event ?hg (N := 2) ?hd (cs := #[.int .i64 x.f0, .int .i64 x.f1, .int .i64 x.f2]) (t := 32) ?hr ?_; (case hd => rfl); (case hg => rfl); (case hr => first | (go_simp; done) | (go_simp; rfl)); intro gb hg w6 hbox hb6; have HX6 := Aside0.mk hbox; have HB6 := Aside0.mk hb6; clear hbox hb6 hg)
 have b0 : w6.cell? ⟨gb, 0, none⟩ = some (.int .i64 x.f0) := (blk_cell HX6.out 0).trans rfl
 have b1 : w6.cell? ⟨gb, 1, none⟩ = some (.int .i64 x.f1) := (blk_cell HX6.out 1).trans rfl
 have b2 : w6.cell? ⟨gb, 2, none⟩ = some (.int .i64 x.f2) := (blk_cell HX6.out 2).trans rfl
 have t0 := pw_cell_below HB6.out HC0.out
 obtain ⟨ad, e, e0⟩ := Kd.at_int HR.out x.f0 H0.out H1.out
 cases e
 obtain ⟨ad', e', e1⟩ := Kd.at_int HR.out x.f1 H2.out H3.out
 cases e'
 replace e0 := pw_cell_below HB6.out e0
 replace e1 := pw_cell_below HB6.out e1
 have p0 := eq_true H0.out
 have p1 := eq_true H1.out
 have p2 := eq_true H2.out
 have p3 := eq_true H3.out
 have hwr : IntKind.i64.wrap (rd times x.f1 - rd times x.f0) = rd times x.f1 - rd times x.f0 := IntWalk.i64_in _ HW.out
 go_quiet (fail)
 go_wp2
 go_ret
 refine ⟨by rw [HQ.out]; rfl, ?_⟩
 repeat (first | exact below_step HB.out HB6.out | apply pw_below_drewN | apply below_drew)
set_option maxHeartbeats 4000000 in
set_option maxRecDepth 100000 in
theorem impl_IsTiming.calls (a0_0 : Int) (A0_1 : Option Addr) (c0_1 : Nat) (l0_1 : List (S32)) (A1 : Option Addr) (c1 : Nat) (l1 : List Int) (r : Bool) (w : World) (hr0_1 : Kd.C k32 w A0_1 l0_1.length l0_1) (hc0_1 : l0_1.length ≤ c0_1) (hr1 : Kd.C (Kd.int .i64) w A1 l1.length l1) (hc1 : l1.length ≤ c1) (h : impl_IsTiming.f a0_0 l0_1 l1 = some r) :
  Calls Try.prog 11 #[.agg #[.int .i64 a0_0, .slice A0_1 l0_1.length c0_1], .slice A1 l1.length c1] w fun e w' => e = .returned (.bool r) ∧ Below w.heap.size w w' := by
 obtain rfl := Option.some.inj h
 clear h
 have hu := Try.underlying26
 have HR := Aside0.mk hr0_1
 have HRT := Aside0.mk hr1
 have HC := Aside0.mk hc0_1
 have hlen1 : l1.length ≤ 9223372036854775807 := hr1.2.1
 clear hr0_1 hc0_1 hr1 hc1
 have HV : Aside0 (impl_ValidDiagram.f a0_0 l0_1 = some (diagramOk a0_0 l0_1)) := ⟨rfl⟩
 have HT : Aside0 (timingOk a0_0 l0_1 l1 = (diagramOk a0_0 l0_1 && ((l1.length : Int) == a0_0) && !anyBadTime l1 && !anyBadBound l1 l0_1)) := ⟨rfl⟩
 generalize timingOk a0_0 l0_1 l1 = q at HT ⊢
 cases hv : diagramOk a0_0 l0_1 with
 | false =>
  rw [hv] at HV HT
  clear hv
  go_enter Try.func11, Try.ntmps11
  go_wp2_with (first | ((with_reducible refine gate_dst (N := 2) rfl ?_); refine box_event ?hg (N := 2) ?hd (cs := #[.int .i64 a0_0, .slice A0_1 l0_1.length c0_1]) (t := 26) ?hr ?_; (case hd => rfl); (case hg => rfl); (case hr => first | (go_simp; done) | (go_simp; rfl)); intro gb hg_ w6 hbox_ hb_; have HX_gb := Aside0.mk hbox_; have HB_w6 := Aside0.mk hb_; have HG_gb := Aside0.mk hg_; clear hbox_ hb_ hg_; have b0 : w6.cell? ⟨gb, 0, none⟩ = some (.int .i64 a0_0) := (blk_cell HX_gb.out 0).trans rfl; have b1 : w6.cell? ⟨gb, 1, none⟩ = some (.slice A0_1 l0_1.length c0_1) := (blk_cell HX_gb.out 1).trans rfl) | ((with_reducible refine gate_dst (N := 3) rfl ?_); refine box_event ?hg (N := 3) ?hd (cs := #[.slice A1 l1.length c1]) (t := 28) ?hr ?_; (case hd => rfl); (case hg => rfl); (case hr => first | (go_simp; done) | (go_simp; rfl)); intro gt hg_ w7 hbox_ hb_; have HX_gt := Aside0.mk hbox_; have HB_w7 := Aside0.mk hb_; have HG_gt := Aside0.mk hg_; clear hbox_ hb_ hg_; have c0 : w7.cell? ⟨gb, 0, none⟩ = some (.int .i64 a0_0) := pw_cell_below HB_w7.out b0; have cc1 : w7.cell? ⟨gb, 1, none⟩ = some (.slice A0_1 l0_1.length c0_1) := pw_cell_below HB_w7.out b1; clear b0 b1) | (go_at_call 18; refine (impl_ValidDiagram.calls _ A0_1 c0_1 l0_1 false _ (Kd.C_below HR.out (below_step HB_w6.out HB_w7.out)) HC.out HV.out).mono ?_; rintro e w8 ⟨rfl, hb8⟩; have HB_w8 := Aside0.mk hb8; have d0 := pw_cell_below hb8 c0; have d1 := pw_cell_below hb8 cc1; have d2 : w8.cell? ⟨gt, 0, none⟩ = some (.slice A1 l1.length c1) := pw_cell_below hb8 ((blk_cell HX_gt.out 0).trans rfl); clear c0 cc1 hb8))
  go_ret
  exact ⟨by rw [HT.out]; rfl, below_step (below_step HB_w6.out HB_w7.out) HB_w8.out⟩
 | true =>
  rw [hv] at HV HT
  have HVV := Aside0.mk hv
  clear hv
  by_cases hn : (l1.length : Int) = a0_0
  ·have n0 : ((l1.length : Int) == a0_0) = true := beq_iff_eq.mpr hn
   have n1 : ((l1.length : Int) != a0_0) = false := bne_eq_false_iff_eq.mpr hn
   rw [n0] at HT
   have HN := Aside0.mk hn
   clear hn
   cases ht : anyBadTime l1 with
   | true =>
    rw [ht] at HT
    have HTT := Aside0.mk ht
    clear ht
    go_enter Try.func11, Try.ntmps11
    go_wp2_with (first | ((with_reducible refine gate_dst (N := 2) rfl ?_); refine box_event ?hg (N := 2) ?hd (cs := #[.int .i64 a0_0, .slice A0_1 l0_1.length c0_1]) (t := 26) ?hr ?_; (case hd => rfl); (case hg => rfl); (case hr => first | (go_simp; done) | (go_simp; rfl)); intro gb hg_ w6 hbox_ hb_; have HX_gb := Aside0.mk hbox_; have HB_w6 := Aside0.mk hb_; have HG_gb := Aside0.mk hg_; clear hbox_ hb_ hg_; have b0 : w6.cell? ⟨gb, 0, none⟩ = some (.int .i64 a0_0) := (blk_cell HX_gb.out 0).trans rfl; have b1 : w6.cell? ⟨gb, 1, none⟩ = some (.slice A0_1 l0_1.length c0_1) := (blk_cell HX_gb.out 1).trans rfl) | ((with_reducible refine gate_dst (N := 3) rfl ?_); refine box_event ?hg (N := 3) ?hd (cs := #[.slice A1 l1.length c1]) (t := 28) ?hr ?_; (case hd => rfl); (case hg => rfl); (case hr => first | (go_simp; done) | (go_simp; rfl)); intro gt hg_ w7 hbox_ hb_; have HX_gt := Aside0.mk hbox_; have HB_w7 := Aside0.mk hb_; have HG_gt := Aside0.mk hg_; clear hbox_ hb_ hg_; have c0 : w7.cell? ⟨gb, 0, none⟩ = some (.int .i64 a0_0) := pw_cell_below HB_w7.out b0; have cc1 : w7.cell? ⟨gb, 1, none⟩ = some (.slice A0_1 l0_1.length c0_1) := pw_cell_below HB_w7.out b1; clear b0 b1) | (go_at_call 18; refine (impl_ValidDiagram.calls _ A0_1 c0_1 l0_1 true _ (Kd.C_below HR.out (below_step HB_w6.out HB_w7.out)) HC.out HV.out).mono ?_; rintro e w8 ⟨rfl, hb8⟩; have HB_w8 := Aside0.mk hb8; have d0 := pw_cell_below hb8 c0; have d1 := pw_cell_below hb8 cc1; have d2 : w8.cell? ⟨gt, 0, none⟩ = some (.slice A1 l1.length c1) := pw_cell_below hb8 ((blk_cell HX_gt.out 0).trans rfl); clear c0 cc1 hb8) | (go_at_call 36; refine (containsI.calls A1 c1 l1 37 #[] badTime _ (Kd.C_below HRT.out (below_step (below_step HB_w6.out HB_w7.out) HB_w8.out)) (enters_of Try.func37 (by kernel_rfl) rfl) (fun W x _ hb => IsTiming_time _ W x hb)).mono ?_; rintro e w9 ⟨he, hb9⟩; rw [show l1.any badTime = true from HTT.out] at he; subst he))
    go_ret
    exact ⟨by rw [HT.out]; rfl, below_step (below_step (below_step HB_w6.out HB_w7.out) HB_w8.out) hb9⟩
   | false =>
    rw [ht] at HT
    have HTT := Aside0.mk ht
    clear ht
    have HIN := Aside0.mk (timing_range a0_0 l0_1 l1 HVV.out HN.out HTT.out)
    have HQ : Aside0 (q = !anyBadBound l1 l0_1) := ⟨by rw [HT.out]; simp⟩
    generalize hbb : anyBadBound l1 l0_1 = bb at HQ
    have HBB := Aside0.mk hbb
    clear hbb
    go_enter Try.func11, Try.ntmps11
    go_wp2_with (first | ((with_reducible refine gate_dst (N := 2) rfl ?_); refine box_event ?hg (N := 2) ?hd (cs := #[.int .i64 a0_0, .slice A0_1 l0_1.length c0_1]) (t := 26) ?hr ?_; (case hd => rfl); (case hg => rfl); (case hr => first | (go_simp; done) | (go_simp; rfl)); intro gb hg_ w6 hbox_ hb_; have HX_gb := Aside0.mk hbox_; have HB_w6 := Aside0.mk hb_; have HG_gb := Aside0.mk hg_; clear hbox_ hb_ hg_; have b0 : w6.cell? ⟨gb, 0, none⟩ = some (.int .i64 a0_0) := (blk_cell HX_gb.out 0).trans rfl; have b1 : w6.cell? ⟨gb, 1, none⟩ = some (.slice A0_1 l0_1.length c0_1) := (blk_cell HX_gb.out 1).trans rfl) | ((with_reducible refine gate_dst (N := 3) rfl ?_); refine box_event ?hg (N := 3) ?hd (cs := #[.slice A1 l1.length c1]) (t := 28) ?hr ?_; (case hd => rfl); (case hg => rfl); (case hr => first | (go_simp; done) | (go_simp; rfl)); intro gt hg_ w7 hbox_ hb_; have HX_gt := Aside0.mk hbox_; have HB_w7 := Aside0.mk hb_; have HG_gt := Aside0.mk hg_; clear hbox_ hb_ hg_; have c0 : w7.cell? ⟨gb, 0, none⟩ = some (.int .i64 a0_0) := pw_cell_below HB_w7.out b0; have cc1 : w7.cell? ⟨gb, 1, none⟩ = some (.slice A0_1 l0_1.length c0_1) := pw_cell_below HB_w7.out b1; clear b0 b1) | (go_at_call 18; refine (impl_ValidDiagram.calls _ A0_1 c0_1 l0_1 true _ (Kd.C_below HR.out (below_step HB_w6.out HB_w7.out)) HC.out HV.out).mono ?_; rintro e w8 ⟨rfl, hb8⟩; have HB_w8 := Aside0.mk hb8; have d0 := pw_cell_below hb8 c0; have d1 := pw_cell_below hb8 cc1; have d2 : w8.cell? ⟨gt, 0, none⟩ = some (.slice A1 l1.length c1) := pw_cell_below hb8 ((blk_cell HX_gt.out 0).trans rfl); clear c0 cc1 hb8) | (go_at_call 36; refine (containsI.calls A1 c1 l1 37 #[] badTime _ (Kd.C_below HRT.out (below_step (below_step HB_w6.out HB_w7.out) HB_w8.out)) (enters_of Try.func37 (by kernel_rfl) rfl) (fun W x _ hb => IsTiming_time _ W x hb)).mono ?_; rintro e w9 ⟨he, hb9⟩; rw [show l1.any badTime = false from HTT.out] at he; subst he; have HB_w9 := Aside0.mk hb9; have f1 := pw_cell_below hb9 d1; have f2 := pw_cell_below hb9 d2; clear d0 d1 d2 hb9) | (go_at_call 39; refine (containsB.calls A0_1 c0_1 l0_1 40 #[.pointer (some ⟨gt, 0, none⟩)] (badBound l1) _ (Kd.C_below HR.out (below_step (below_step (below_step HB_w6.out HB_w7.out) HB_w8.out) HB_w9.out)) (enters_of Try.func40 (by kernel_rfl) rfl) (fun W x hx hb => IsTiming_bound l1 A1 c1 gt w9 f2 (Kd.C_below HRT.out (below_step (below_step (below_step HB_w6.out HB_w7.out) HB_w8.out) HB_w9.out)) W x (HIN.out x hx).1 (HIN.out x hx).2.1 (HIN.out x hx).2.2.1 (HIN.out x hx).2.2.2.1 (HIN.out x hx).2.2.2.2 hb)).mono ?_; rintro e w10 ⟨he, hb10⟩; rw [show l0_1.any (badBound l1) = bb from HBB.out] at he; subst he))
    go_ret
    exact ⟨by rw [HQ.out]; rfl, below_step (below_step (below_step (below_step HB_w6.out HB_w7.out) HB_w8.out) HB_w9.out) hb10⟩
  ·have n0 : ((l1.length : Int) == a0_0) = false := beq_eq_false_iff_ne.mpr hn
   have n1 : ((l1.length : Int) != a0_0) = true := bne_iff_ne.mpr hn
   rw [n0] at HT
   clear hn
   go_enter Try.func11, Try.ntmps11
   go_wp2_with (first | ((with_reducible refine gate_dst (N := 2) rfl ?_); refine box_event ?hg (N := 2) ?hd (cs := #[.int .i64 a0_0, .slice A0_1 l0_1.length c0_1]) (t := 26) ?hr ?_; (case hd => rfl); (case hg => rfl); (case hr => first | (go_simp; done) | (go_simp; rfl)); intro gb hg_ w6 hbox_ hb_; have HX_gb := Aside0.mk hbox_; have HB_w6 := Aside0.mk hb_; have HG_gb := Aside0.mk hg_; clear hbox_ hb_ hg_; have b0 : w6.cell? ⟨gb, 0, none⟩ = some (.int .i64 a0_0) := (blk_cell HX_gb.out 0).trans rfl; have b1 : w6.cell? ⟨gb, 1, none⟩ = some (.slice A0_1 l0_1.length c0_1) := (blk_cell HX_gb.out 1).trans rfl) | ((with_reducible refine gate_dst (N := 3) rfl ?_); refine box_event ?hg (N := 3) ?hd (cs := #[.slice A1 l1.length c1]) (t := 28) ?hr ?_; (case hd => rfl); (case hg => rfl); (case hr => first | (go_simp; done) | (go_simp; rfl)); intro gt hg_ w7 hbox_ hb_; have HX_gt := Aside0.mk hbox_; have HB_w7 := Aside0.mk hb_; have HG_gt := Aside0.mk hg_; clear hbox_ hb_ hg_; have c0 : w7.cell? ⟨gb, 0, none⟩ = some (.int .i64 a0_0) := pw_cell_below HB_w7.out b0; have cc1 : w7.cell? ⟨gb, 1, none⟩ = some (.slice A0_1 l0_1.length c0_1) := pw_cell_below HB_w7.out b1; clear b0 b1) | (go_at_call 18; refine (impl_ValidDiagram.calls _ A0_1 c0_1 l0_1 true _ (Kd.C_below HR.out (below_step HB_w6.out HB_w7.out)) HC.out HV.out).mono ?_; rintro e w8 ⟨rfl, hb8⟩; have HB_w8 := Aside0.mk hb8; have d0 := pw_cell_below hb8 c0; have d1 := pw_cell_below hb8 cc1; have d2 : w8.cell? ⟨gt, 0, none⟩ = some (.slice A1 l1.length c1) := pw_cell_below hb8 ((blk_cell HX_gt.out 0).trans rfl); clear c0 cc1 hb8))
   go_ret
   exact ⟨by rw [HT.out]; rfl, below_step (below_step HB_w6.out HB_w7.out) HB_w8.out⟩

end Go.Proofs.Ytahjcmmgdcedpaa.Pa

