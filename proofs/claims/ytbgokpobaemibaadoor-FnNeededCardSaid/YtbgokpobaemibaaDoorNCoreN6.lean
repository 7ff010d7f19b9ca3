-- Written for this claim by a program of this session.
import Derived.Test.YtbgokpobaemibaaDoorNPax0
import Derived.Test.YtbgokpobaemibaaDoorNCoreN1
import Derived.Test.YtbgokpobaemibaaDoorNCoreN4
import Derived.Test.YtbgokpobaemibaaDoorNCoreN2
import Derived.Test.YtbgokpobaemibaaDoorNCoreN5
import Derived.Laws.BitsLemmas
namespace Go.Proofs.YtbgokpobaemibaaDoor.Pa
open Go.RowKit Go.Proofs.YtbgokpobaemibaaDoorW.PrintWords Go.Proofs.YtbgokpobaemibaaDoorW.PrintLast Go.Proofs.YtbgokpobaemibaaDoorW.PrintMore
attribute [local go_sem] max2_int min2_int max_two min_two max_three min_three max_four min_four   -- for this text's walks alone
set_option linter.unusedVariables false
set_option linter.unusedSimpArgs false

/-! ### impl_RoomOf: function 14 -/
def impl_RoomOf.j0 : Nat → Int → List (List Int) → Bool → Int → List (S39) → Option (Int × Bool)
 | 0, _, _, _, _, _ => none
 | k + 1, x1, x6, x24, x284000, x284001 => if x24 = true then (some (0, false)) else (if 0 ≤ x1 then (if x1 < (x284001.length : Int) then (if 0 ≤ ((rd_T39 x284001 x1).f1) then (if ((rd_T39 x284001 x1).f1) < (x6.length : Int) then (if 0 ≤ ((rd_T39 x284001 x1).f0) then (if ((rd_T39 x284001 x1).f0) < ((rd_L6 x6 ((rd_T39 x284001 x1).f1)).length : Int) then (if (rd (rd_L6 x6 ((rd_T39 x284001 x1).f1)) ((rd_T39 x284001 x1).f0)) = 1000000 then (some (1000000, true)) else (some (wrap64 (((rd_T39 x284001 x1).f2) + (rd (rd_L6 x6 ((rd_T39 x284001 x1).f1)) ((rd_T39 x284001 x1).f0))), true))) else (none)) else (none)) else (none)) else (none)) else (none)) else (none))
def impl_RoomOf.f (k : Nat) (a0_0 : Int) (l0_1 : List (S39)) (a1 : Int) : Option (Int × Bool) := (impl_TightestBounds.f k a0_0 l0_1).bind fun bt284 => (if bt284.2 = true then ((impl_within.f a1 0 (wrap64 ((l0_1.length : Int) - 1))).bind fun t288 => (impl_RoomOf.j0 k a1 bt284.1 (!t288) a0_0 l0_1)) else (impl_RoomOf.j0 k a1 bt284.1 true a0_0 l0_1))
set_option maxHeartbeats 8000000 in
set_option maxRecDepth 100000 in
theorem impl_RoomOf.calls (k : Nat) (a0_0 : Int) (A0_1 : Option Addr) (c0_1 : Nat) (l0_1 : List (S39)) (a1 : Int) (r1 : Int) (r2 : Bool) (w : World) (hr0_1 : Kd.C k39 w A0_1 l0_1.length l0_1) (hc0_1 : l0_1.length ≤ c0_1) (h : impl_RoomOf.f k a0_0 l0_1 a1 = some (r1, r2)) :
  Calls Tryd.prog 14 #[.agg #[.int .i64 a0_0, .slice A0_1 l0_1.length c0_1], .int .i64 a1] w fun e w' => e = .returned (.tuple #[.int .i64 r1, .bool r2]) ∧ Below w.heap.size w w' := by
 have hu26 := Tryd.underlying26
 have hu39 := Tryd.underlying39
 have HR0_1 := Aside0.mk hr0_1
 have HC0_1 := Aside0.mk hc0_1
 clear hr0_1 hc0_1
 have HB := Aside0.mk (Below.refl w.heap.size w)
 have H : ((impl_TightestBounds.f k a0_0 l0_1).bind fun bt284 => (if bt284.2 = true then ((impl_within.f a1 0 (wrap64 ((l0_1.length : Int) - 1))).bind fun t288 => (impl_RoomOf.j0 k a1 bt284.1 (!t288) a0_0 l0_1)) else (impl_RoomOf.j0 k a1 bt284.1 true a0_0 l0_1))) = some (r1, r2) := h
 clear h
 replace H := Option.bind_eq_some_iff.mp H
 obtain ⟨⟨t284, t287⟩, A30, H⟩ := H
 replace H : (if t287 = true then ((impl_within.f a1 0 (wrap64 ((l0_1.length : Int) - 1))).bind fun t288 => (impl_RoomOf.j0 k a1 t284 (!t288) a0_0 l0_1)) else (impl_RoomOf.j0 k a1 t284 true a0_0 l0_1)) = some (r1, r2) := H
 have A3 := Aside0.mk A30
 clear A30
 have HC4 := Aside0.mk H
 clear H
 go_enter Tryd.func14, Tryd.ntmps14
 go_upto_region 2 with (first | ((with_reducible refine gate_dst (N := 2) rfl ?_); (try (refine gate_guard (by rfl) ?_; dsimp only)); refine box_event ?hg (N := 2) ?hd (cs := #[.int .i64 a0_0, .slice A0_1 l0_1.length c0_1]) (t := 26) ?hr ?_; (case hd => rfl); (case hg => rfl); (case hr => first | (go_simp; done) | (go_simp; rfl)); intro gb283 hg w5 hbox hb; have n0_ := Aside0.mk (below_step (by repeat (first | (with_reducible first | exact HB.out | apply below_alloc | apply pw_below_drewN | apply below_drew1) | exact HB.out)) hb); have n1_ := Aside0.mk (hbox); have n2_ := Aside0.mk ((by rw [hg]; exact (below_size (by repeat (first | (with_reducible first | exact HB.out | apply below_alloc | apply pw_below_drewN | apply below_drew1) | exact HB.out))) : w.heap.size ≤ gb283)); have n3_ := Aside0.mk ((by rw [hg]; exact (below_size (by repeat (first | (with_reducible first | exact HB.out | apply below_alloc | apply pw_below_drewN | apply below_drew1) | exact HB.out))) : w.heap.size ≤ gb283)); clear HB; have HB := n0_; have BK283 := n1_; have GW283 := n2_; have GE283 := n3_; clear n0_ n1_ n2_ n3_; clear hb hbox hg; have hcz6_0 : w5.cell? ⟨gb283, 0, none⟩ = some (.int .i64 a0_0) := (blk_cell BK283.out 0).trans rfl; have hcz6_1 : w5.cell? ⟨gb283, 1, none⟩ = some (.slice A0_1 l0_1.length c0_1) := (blk_cell BK283.out 1).trans rfl; have hfz6_0 := blk_frozen BK283.out 0; have hfz6_1 := blk_frozen BK283.out 1) | (go_at_call 8; (with_reducible refine (impl_TightestBounds.calls k a0_0 _ _ l0_1 t284 t287 _ ?side1 ?side2 A3.out).mono ?_); (case side1 => repeat (first | exact (Kd.C_below HR0_1.out HB.out) | (with_reducible refine Kd.C_alloc ?_ _) | (with_reducible refine Kd.C_drewN ?_ _) | (with_reducible refine Kd.C_drew ?_))); (case side2 => exact HC0_1.out); rintro e w7 ⟨v285, rfl, ho0, hb⟩; have n0_ := Aside0.mk (Kd.S_lower ho0 (below_size (by repeat (first | (with_reducible first | exact HB.out | apply below_alloc | apply pw_below_drewN | apply below_drew1 | refine below_set ?_ GE283.out) | exact HB.out)))); have n1_ := Aside0.mk (blk_below (g := gb283) (o := .cells #[.int .i64 a0_0, .slice A0_1 l0_1.length c0_1] 26 (0, 0)) (by (with_reducible repeat (first | refine blk_drewN ?_ _ | refine blk_drew ?_ | refine blk_alloc ?_ _)); exact BK283.out) hb); have n2_ := Aside0.mk (below_step (by repeat (first | (with_reducible first | exact HB.out | apply below_alloc | apply pw_below_drewN | apply below_drew1 | refine below_set ?_ GE283.out) | exact HB.out)) hb); clear BK283; clear HB; have HO286 := n0_; have BK283 := n1_; have HB := n2_; clear n0_ n1_ n2_; (try clear hb); (try clear hb2); (try clear hk); (try clear hi); (try clear ho0)))
 repeat (go_quiet (first | ((with_reducible refine gate_dst (N := 2) rfl ?_); (try (refine gate_guard (by rfl) ?_; dsimp only)); refine box_event ?hg (N := 2) ?hd (cs := #[.int .i64 a0_0, .slice A0_1 l0_1.length c0_1]) (t := 26) ?hr ?_; (case hd => rfl); (case hg => rfl); (case hr => first | (go_simp; done) | (go_simp; rfl)); intro gb283 hg w5 hbox hb; have n0_ := Aside0.mk (below_step (by repeat (first | (with_reducible first | exact HB.out | apply below_alloc | apply pw_below_drewN | apply below_drew1) | exact HB.out)) hb); have n1_ := Aside0.mk (hbox); have n2_ := Aside0.mk ((by rw [hg]; exact (below_size (by repeat (first | (with_reducible first | exact HB.out | apply below_alloc | apply pw_below_drewN | apply below_drew1) | exact HB.out))) : w.heap.size ≤ gb283)); have n3_ := Aside0.mk ((by rw [hg]; exact (below_size (by repeat (first | (with_reducible first | exact HB.out | apply below_alloc | apply pw_below_drewN | apply below_drew1) | exact HB.out))) : w.heap.size ≤ gb283)); clear HB; have HB := n0_; have BK283 := n1_; have GW283 := n2_; have GE283 := n3_; clear n0_ n1_ n2_ n3_; clear hb hbox hg; have hcz6_0 : w5.cell? ⟨gb283, 0, none⟩ = some (.int .i64 a0_0) := (blk_cell BK283.out 0).trans rfl; have hcz6_1 : w5.cell? ⟨gb283, 1, none⟩ = some (.slice A0_1 l0_1.length c0_1) := (blk_cell BK283.out 1).trans rfl; have hfz6_0 := blk_frozen BK283.out 0; have hfz6_1 := blk_frozen BK283.out 1) | (go_at_call 8; (with_reducible refine (impl_TightestBounds.calls k a0_0 _ _ l0_1 t284 t287 _ ?side1 ?side2 A3.out).mono ?_); (case side1 => repeat (first | exact (Kd.C_below HR0_1.out HB.out) | (with_reducible refine Kd.C_alloc ?_ _) | (with_reducible refine Kd.C_drewN ?_ _) | (with_reducible refine Kd.C_drew ?_))); (case side2 => exact HC0_1.out); rintro e w7 ⟨v285, rfl, ho0, hb⟩; have n0_ := Aside0.mk (Kd.S_lower ho0 (below_size (by repeat (first | (with_reducible first | exact HB.out | apply below_alloc | apply pw_below_drewN | apply below_drew1 | refine below_set ?_ GE283.out) | exact HB.out)))); have n1_ := Aside0.mk (blk_below (g := gb283) (o := .cells #[.int .i64 a0_0, .slice A0_1 l0_1.length c0_1] 26 (0, 0)) (by (with_reducible repeat (first | refine blk_drewN ?_ _ | refine blk_drew ?_ | refine blk_alloc ?_ _)); exact BK283.out) hb); have n2_ := Aside0.mk (below_step (by repeat (first | (with_reducible first | exact HB.out | apply below_alloc | apply pw_below_drewN | apply below_drew1 | refine below_set ?_ GE283.out) | exact HB.out)) hb); clear BK283; clear HB; have HO286 := n0_; have BK283 := n1_; have HB := n2_; clear n0_ n1_ n2_; (try clear hb); (try clear hb2); (try clear hk); (try clear hi); (try clear ho0))); go_upto_region 2 with (first | ((with_reducible refine gate_dst (N := 2) rfl ?_); (try (refine gate_guard (by rfl) ?_; dsimp only)); refine box_event ?hg (N := 2) ?hd (cs := #[.int .i64 a0_0, .slice A0_1 l0_1.length c0_1]) (t := 26) ?hr ?_; (case hd => rfl); (case hg => rfl); (case hr => first | (go_simp; done) | (go_simp; rfl)); intro gb283 hg w5 hbox hb; have n0_ := Aside0.mk (below_step (by repeat (first | (with_reducible first | exact HB.out | apply below_alloc | apply pw_below_drewN | apply below_drew1) | exact HB.out)) hb); have n1_ := Aside0.mk (hbox); have n2_ := Aside0.mk ((by rw [hg]; exact (below_size (by repeat (first | (with_reducible first | exact HB.out | apply below_alloc | apply pw_below_drewN | apply below_drew1) | exact HB.out))) : w.heap.size ≤ gb283)); have n3_ := Aside0.mk ((by rw [hg]; exact (below_size (by repeat (first | (with_reducible first | exact HB.out | apply below_alloc | apply pw_below_drewN | apply below_drew1) | exact HB.out))) : w.heap.size ≤ gb283)); clear HB; have HB := n0_; have BK283 := n1_; have GW283 := n2_; have GE283 := n3_; clear n0_ n1_ n2_ n3_; clear hb hbox hg; have hcz6_0 : w5.cell? ⟨gb283, 0, none⟩ = some (.int .i64 a0_0) := (blk_cell BK283.out 0).trans rfl; have hcz6_1 : w5.cell? ⟨gb283, 1, none⟩ = some (.slice A0_1 l0_1.length c0_1) := (blk_cell BK283.out 1).trans rfl; have hfz6_0 := blk_frozen BK283.out 0; have hfz6_1 := blk_frozen BK283.out 1) | (go_at_call 8; (with_reducible refine (impl_TightestBounds.calls k a0_0 _ _ l0_1 t284 t287 _ ?side1 ?side2 A3.out).mono ?_); (case side1 => repeat (first | exact (Kd.C_below HR0_1.out HB.out) | (with_reducible refine Kd.C_alloc ?_ _) | (with_reducible refine Kd.C_drewN ?_ _) | (with_reducible refine Kd.C_drew ?_))); (case side2 => exact HC0_1.out); rintro e w7 ⟨v285, rfl, ho0, hb⟩; have n0_ := Aside0.mk (Kd.S_lower ho0 (below_size (by repeat (first | (with_reducible first | exact HB.out | apply below_alloc | apply pw_below_drewN | apply below_drew1 | refine below_set ?_ GE283.out) | exact HB.out)))); have n1_ := Aside0.mk (blk_below (g := gb283) (o := .cells #[.int .i64 a0_0, .slice A0_1 l0_1.length c0_1] 26 (0, 0)) (by (with_reducible repeat (first | refine blk_drewN ?_ _ | refine blk_drew ?_ | refine blk_alloc ?_ _)); exact BK283.out) hb); have n2_ := Aside0.mk (below_step (by repeat (first | (with_reducible first | exact HB.out | apply below_alloc | apply pw_below_drewN | apply below_drew1 | refine below_set ?_ GE283.out) | exact HB.out)) hb); clear BK283; clear HB; have HO286 := n0_; have BK283 := n1_; have HB := n2_; clear n0_ n1_ n2_; (try clear hb); (try clear hb2); (try clear hk); (try clear hi); (try clear ho0))))
 (try simp only [Act.put, List.setIfInBounds_toArray, List.set_cons_zero, List.set_cons_succ])
 go_cut [24] (fun v24 wc => ∃ (kq : Nat) (x24_3 : Bool), v24 = .bool x24_3 ∧ Aside0 (impl_RoomOf.j0 kq a1 t284 x24_3 a0_0 l0_1 = some (r1, r2)) ∧ Aside0 (kq ≤ k) ∧ Aside0 (Kd.S (Kd.slice 2 (Kd.int .i64)) 28 wc w.heap.size (fun _ => True) v285 t284) ∧ Aside0 (wc.heap[gb283]? = some (.cells #[.int .i64 a0_0, (.slice A0_1 l0_1.length c0_1)] 26 (0, 0))) ∧ Aside0 (Below w.heap.size w wc))
 case first =>
  have H := HC4.out
  clear HC4
  by_cases c8 : t287 = true
  ·subst c8
   have H1 : ((impl_within.f a1 0 (wrap64 ((l0_1.length : Int) - 1))).bind fun t288 => (impl_RoomOf.j0 k a1 t284 (!t288) a0_0 l0_1)) = some (r1, r2) := by rw [if_pos rfl] at H; exact H
   clear H
   have H := H1
   clear H1
   replace H := Option.bind_eq_some_iff.mp H
   obtain ⟨t288, A90, H⟩ := H
   replace H : (impl_RoomOf.j0 k a1 t284 (!t288) a0_0 l0_1) = some (r1, r2) := H
   have A9 := Aside0.mk A90
   clear A90
   have H' := Aside0.mk H
   clear H
   have hcz10_0 : w7.cell? ⟨gb283, 0, none⟩ = some (.int .i64 a0_0) := (blk_cell BK283.out 0).trans rfl
   have hcz10_1 : w7.cell? ⟨gb283, 1, none⟩ = some (.slice A0_1 l0_1.length c0_1) := (blk_cell BK283.out 1).trans rfl
   have hfz10_0 := blk_frozen BK283.out 0
   have hfz10_1 := blk_frozen BK283.out 1
   go_wp2_with (first | (go_at_call 29; (with_reducible refine (impl_within.calls a1 0 (wrap64 ((l0_1.length : Int) - 1)) t288 _ A9.out).mono ?_); rintro e w' ⟨rfl, ⟨nd, rfl⟩⟩; (try first | exact ⟨rfl, _, World.drewN_drewN _ _ _⟩ | exact ⟨rfl, _, Eq.trans (World.drewN_drewN _ _ _) (congrArg (World.drewN _) (Nat.add_assoc _ _ _))⟩)))
   repeat (go_quiet (first | (go_at_call 29; (with_reducible refine (impl_within.calls a1 0 (wrap64 ((l0_1.length : Int) - 1)) t288 _ A9.out).mono ?_); rintro e w' ⟨rfl, ⟨nd, rfl⟩⟩; (try first | exact ⟨rfl, _, World.drewN_drewN _ _ _⟩ | exact ⟨rfl, _, Eq.trans (World.drewN_drewN _ _ _) (congrArg (World.drewN _) (Nat.add_assoc _ _ _))⟩))); try go_wp2_with (first | (go_at_call 29; (with_reducible refine (impl_within.calls a1 0 (wrap64 ((l0_1.length : Int) - 1)) t288 _ A9.out).mono ?_); rintro e w' ⟨rfl, ⟨nd, rfl⟩⟩; (try first | exact ⟨rfl, _, World.drewN_drewN _ _ _⟩ | exact ⟨rfl, _, Eq.trans (World.drewN_drewN _ _ _) (congrArg (World.drewN _) (Nat.add_assoc _ _ _))⟩))))
   go_meet
   case rel => exact ⟨_, (!t288), (by first | rfl | (simp; done) | (simp [*]; done)), H', ⟨by first | omega | exact Nat.le_refl _⟩, ⟨by (with_reducible repeat (first | apply Kd.S_alloc | apply Kd.S_drewN | apply Kd.S_drew)); exact HO286.out⟩, ⟨by (with_reducible repeat (first | refine blk_drewN ?_ _ | refine blk_drew ?_ | refine blk_alloc ?_ _)); exact BK283.out⟩, ⟨by repeat (first | (with_reducible first | exact HB.out | apply below_alloc | apply pw_below_drewN | apply below_drew1 | refine below_set ?_ GE283.out) | exact HB.out)⟩⟩
  ·replace c8 := Bool.eq_false_iff.mpr c8
   subst c8
   have H1 : (impl_RoomOf.j0 k a1 t284 true a0_0 l0_1) = some (r1, r2) := by rw [if_neg (show ¬ (false = true) by decide)] at H; exact H
   clear H
   have H := H1
   clear H1
   have H' := Aside0.mk H
   clear H
   go_wp2
   repeat (go_quiet (fail); try go_wp2)
   go_meet
   case rel => exact ⟨_, (true), (by first | rfl | (simp; done) | (simp [*]; done)), H', ⟨by first | omega | exact Nat.le_refl _⟩, ⟨by (with_reducible repeat (first | apply Kd.S_alloc | apply Kd.S_drewN | apply Kd.S_drew)); exact HO286.out⟩, ⟨by (with_reducible repeat (first | refine blk_drewN ?_ _ | refine blk_drew ?_ | refine blk_alloc ?_ _)); exact BK283.out⟩, ⟨by repeat (first | (with_reducible first | exact HB.out | apply below_alloc | apply pw_below_drewN | apply below_drew1 | refine below_set ?_ GE283.out) | exact HB.out)⟩⟩
 case rest =>
  clear HC4
  try clear c1
  try clear p2
  try clear p6
  try clear c8
  try clear hcz10_0
  try clear hcz10_1
  try clear hcz6_0
  try clear hcz6_1
  try clear hfz10_0
  try clear hfz10_1
  try clear hfz6_0
  try clear hfz6_1
  obtain ⟨kq, x24_3, rfl, HA, HJ3, HO_6, BK283, HB⟩ := hcut
  cases kq with
  | zero => exact absurd HA.out (by simp [impl_RoomOf.j0])
  | succ kj3 =>
   have H := HA.out
   clear HA
   simp only [impl_RoomOf.j0] at H
   by_cases c11 : x24_3 = true
   ·subst c11
    have H1 : (some (0, false)) = some (r1, r2) := by rw [if_pos rfl] at H; exact H
    clear H
    have H := H1
    clear H1
    simp only [Option.some.injEq, Prod.mk.injEq] at H
    obtain ⟨rfl, rfl⟩ := H
    go_wp2
    repeat (go_quiet (fail); try go_wp2)
    go_ret2
    exact ⟨by first | rfl | (simp [errW_none, errW_some] <;> rfl) | (simp [*, errW_none, errW_some] <;> rfl), by repeat (first | (with_reducible first | exact HB.out | apply below_alloc | apply pw_below_drewN | apply below_drew1 | refine below_set ?_ GE283.out) | exact HB.out)⟩
   ·replace c11 := Bool.eq_false_iff.mpr c11
    subst c11
    have H1 : (if 0 ≤ a1 then (if a1 < (l0_1.length : Int) then (if 0 ≤ ((rd_T39 l0_1 a1).f1) then (if ((rd_T39 l0_1 a1).f1) < (t284.length : Int) then (if 0 ≤ ((rd_T39 l0_1 a1).f0) then (if ((rd_T39 l0_1 a1).f0) < ((rd_L6 t284 ((rd_T39 l0_1 a1).f1)).length : Int) then (if (rd (rd_L6 t284 ((rd_T39 l0_1 a1).f1)) ((rd_T39 l0_1 a1).f0)) = 1000000 then (some (1000000, true)) else (some (wrap64 (((rd_T39 l0_1 a1).f2) + (rd (rd_L6 t284 ((rd_T39 l0_1 a1).f1)) ((rd_T39 l0_1 a1).f0))), true))) else (none)) else (none)) else (none)) else (none)) else (none)) else (none)) = some (r1, r2) := by rw [if_neg (show ¬ (false = true) by decide)] at H; exact H
    clear H
    have H := H1
    clear H1
    by_cases c12 : 0 ≤ a1
    ·rw [if_pos c12] at H
     have c12b0 : decide (0 ≤ a1) = true := decide_eq_true c12
     clear c12
     by_cases c13 : a1 < (l0_1.length : Int)
     ·rw [if_pos c13] at H
      have c13b0 : decide (a1 < (l0_1.length : Int)) = true := decide_eq_true c13
      clear c13
      by_cases c14 : 0 ≤ ((rd_T39 l0_1 a1).f1)
      ·rw [if_pos c14] at H
       have c14b0 : decide (0 ≤ ((rd_T39 l0_1 a1).f1)) = true := decide_eq_true c14
       clear c14
       by_cases c15 : ((rd_T39 l0_1 a1).f1) < (t284.length : Int)
       ·rw [if_pos c15] at H
        have c15b0 : decide (((rd_T39 l0_1 a1).f1) < (t284.length : Int)) = true := decide_eq_true c15
        clear c15
        by_cases c16 : 0 ≤ ((rd_T39 l0_1 a1).f0)
        ·rw [if_pos c16] at H
         have c16b0 : decide (0 ≤ ((rd_T39 l0_1 a1).f0)) = true := decide_eq_true c16
         clear c16
         by_cases c17 : ((rd_T39 l0_1 a1).f0) < ((rd_L6 t284 ((rd_T39 l0_1 a1).f1)).length : Int)
         ·rw [if_pos c17] at H
          have c17b0 : decide (((rd_T39 l0_1 a1).f0) < ((rd_L6 t284 ((rd_T39 l0_1 a1).f1)).length : Int)) = true := decide_eq_true c17
          clear c17
          by_cases c18 : (rd (rd_L6 t284 ((rd_T39 l0_1 a1).f1)) ((rd_T39 l0_1 a1).f0)) = 1000000
          ·rw [if_pos c18] at H
           have c18b0 : ((rd (rd_L6 t284 ((rd_T39 l0_1 a1).f1)) ((rd_T39 l0_1 a1).f0)) == 1000000) = true := beq_iff_eq.mpr c18
           have c18b1 : ((rd (rd_L6 t284 ((rd_T39 l0_1 a1).f1)) ((rd_T39 l0_1 a1).f0)) != 1000000) = false := bne_eq_false_iff_eq.mpr c18
           clear c18
           simp only [Option.some.injEq, Prod.mk.injEq] at H
           obtain ⟨rfl, rfl⟩ := H
           have hcz19_0 : wc.cell? ⟨gb283, 0, none⟩ = some (.int .i64 a0_0) := (blk_cell BK283.out 0).trans rfl
           have hcz19_1 : wc.cell? ⟨gb283, 1, none⟩ = some (.slice A0_1 l0_1.length c0_1) := (blk_cell BK283.out 1).trans rfl
           have hfz19_0 := blk_frozen BK283.out 0
           have hfz19_1 := blk_frozen BK283.out 1
           have p289 : 0 ≤ (a1 : Int) := of_decide_eq_true (by with_reducible assumption)
           have q289 : a1 < (l0_1.length : Int) := of_decide_eq_true (by with_reducible assumption)
           obtain ⟨ad289, e289, hx289_0, hx289_1, hx289_2⟩ := at_T39 HR0_1.out a1 p289 q289
           cases e289
           replace hx289_0 := (HB.out.cell (World.block_lt_of_cell? w _ hx289_0)).trans hx289_0
           replace hx289_1 := (HB.out.cell (World.block_lt_of_cell? w _ hx289_1)).trans hx289_1
           replace hx289_2 := (HB.out.cell (World.block_lt_of_cell? w _ hx289_2)).trans hx289_2
           replace p289 := eq_true p289
           replace q289 := eq_true q289
           go_wp2_with (first | ((with_reducible refine gate_dst (N := 8) rfl ?_); (try (refine gate_guard (by rfl) ?_; dsimp only)); refine box_event ?hg (N := 8) ?hd (cs := #[.int .i64 0, .int .i64 0, .int .i64 0]) (t := 39) ?hr ?_; (case hd => rfl); (case hg => rfl); (case hr => first | (go_simp; done) | (go_simp; rfl)); intro gb290 hg w20 hbox hb; have n0_ := Aside0.mk (Kd.S_below (by (with_reducible repeat (first | apply Kd.S_alloc | apply Kd.S_drewN | apply Kd.S_drew)); exact HO_6.out) hb); have n1_ := Aside0.mk (blk_below (g := gb283) (o := .cells #[.int .i64 a0_0, .slice (some ad289) l0_1.length c0_1] 26 (0, 0)) (by (with_reducible repeat (first | refine blk_drewN ?_ _ | refine blk_drew ?_ | refine blk_alloc ?_ _)); exact BK283.out) hb); have n2_ := Aside0.mk (below_step (by repeat (first | (with_reducible first | exact HB.out | apply below_alloc | apply pw_below_drewN | apply below_drew1 | refine below_set ?_ GE283.out) | exact HB.out)) hb); have n3_ := Aside0.mk (hbox); have n4_ := Aside0.mk ((by rw [hg]; exact (below_size (by repeat (first | (with_reducible first | exact HB.out | apply below_alloc | apply pw_below_drewN | apply below_drew1 | refine below_set ?_ GE283.out) | exact HB.out))) : w.heap.size ≤ gb290)); have n5_ := Aside0.mk ((by rw [hg]; exact (below_size (by repeat (first | (with_reducible first | exact HB.out | apply below_alloc | apply pw_below_drewN | apply below_drew1 | refine below_set ?_ GE283.out) | exact HB.out))) : w.heap.size ≤ gb290)); have n6_ := Aside0.mk ((by rw [hg]; exact Nat.ne_of_lt (blk_lt (g := gb283) (o := .cells #[.int .i64 a0_0, .slice (some ad289) l0_1.length c0_1] 26 (0, 0)) (by (with_reducible repeat (first | refine blk_drewN ?_ _ | refine blk_drew ?_ | refine blk_alloc ?_ _)); exact BK283.out)) : gb283 ≠ gb290)); have n7_ := Aside0.mk ((by rw [hg]; exact Nat.ne_of_gt (blk_lt (g := gb283) (o := .cells #[.int .i64 a0_0, .slice (some ad289) l0_1.length c0_1] 26 (0, 0)) (by (with_reducible repeat (first | refine blk_drewN ?_ _ | refine blk_drew ?_ | refine blk_alloc ?_ _)); exact BK283.out)) : gb290 ≠ gb283)); clear HO_6; clear BK283; clear HB; have HO_6 := n0_; have BK283 := n1_; have HB := n2_; have BK290 := n3_; have GW290 := n4_; have GE290 := n5_; have NB283_290 := n6_; have NB290_283 := n7_; clear n0_ n1_ n2_ n3_ n4_ n5_ n6_ n7_; clear hb hbox hg; have hnb21 := NB290_283.out; have hnc21 := NB283_290.out; have hcz22_0 : w20.cell? ⟨gb290, 0, none⟩ = some (.int .i64 0) := (blk_cell BK290.out 0).trans rfl; have hcz22_1 : w20.cell? ⟨gb290, 1, none⟩ = some (.int .i64 0) := (blk_cell BK290.out 1).trans rfl; have hcz22_2 : w20.cell? ⟨gb290, 2, none⟩ = some (.int .i64 0) := (blk_cell BK290.out 2).trans rfl; have hfz22_0 := blk_frozen BK290.out 0; have hfz22_1 := blk_frozen BK290.out 1; have hfz22_2 := blk_frozen BK290.out 2) | ((with_reducible refine gate_store (t := 39) (p := 8) rfl ?_); (try (rw [drewN_self w20]; generalize hq_ : World.drewN w20 _ = w20; have n0_ := Aside0.mk (Kd.S_at hq_ HO_6.out); have n1_ := Aside0.mk (blk_at hq_ BK283.out); have n2_ := Aside0.mk (blk_at hq_ BK290.out); have n3_ := Aside0.mk (below_at hq_ HB.out); clear hq_ HO_6 BK283 BK290 HB; have HO_6 := n0_; have BK283 := n1_; have BK290 := n2_; have HB := n3_; clear n0_ n1_ n2_ n3_)); refine store_event (t := 39) (p := 8) (v := ?vo_w23) (w1 := (((w20.setCell ⟨gb290, 0, none⟩ (.int .i64 ((rd_T39 l0_1 a1).f0))).setCell ⟨gb290, 1, none⟩ (.int .i64 ((rd_T39 l0_1 a1).f1))).setCell ⟨gb290, 2, none⟩ (.int .i64 ((rd_T39 l0_1 a1).f2)))) ?hg ?ho ?hn ?hr ?_; (case ho => rfl); (case hg => rfl); (case hn => rfl); (case hr => first | (go_simp; done) | (go_simp; rfl)); intro w23 hw; have n0_ : Aside0 (Kd.S (Kd.slice 2 (Kd.int .i64)) 28 w23 w.heap.size (fun _ => True) v285 t284) := ⟨(by rw [hw]; exact (by (with_reducible repeat (first | apply Kd.S_alloc | apply Kd.S_drewN | apply Kd.S_drew)); exact Kd.S_mono (Kd.S_far (p := ⟨gb290, 2, none⟩) (Kd.S_far (p := ⟨gb290, 1, none⟩) (Kd.S_far (p := ⟨gb290, 0, none⟩) (Kd.S_types HO_6.out BK290.out (by decide)) (fun _ hk => hk.2) (.int .i64 ((rd_T39 l0_1 a1).f0))) (fun _ hk => hk.2) (.int .i64 ((rd_T39 l0_1 a1).f1))) (fun _ hk => hk.2) (.int .i64 ((rd_T39 l0_1 a1).f2))) (fun _ hk => trivial)))⟩; have n1_ : Aside0 (w23.heap[gb283]? = some (.cells #[.int .i64 a0_0, .slice (some ad289) l0_1.length c0_1] 26 (0, 0))) := ⟨(by rw [hw]; exact (by (with_reducible repeat (first | refine blk_drewN ?_ _ | refine blk_drew ?_ | refine blk_alloc ?_ _)); refine blk_far ?_ NB283_290.out _; (with_reducible repeat (first | refine blk_drewN ?_ _ | refine blk_drew ?_ | refine blk_alloc ?_ _)); refine blk_far ?_ NB283_290.out _; (with_reducible repeat (first | refine blk_drewN ?_ _ | refine blk_drew ?_ | refine blk_alloc ?_ _)); refine blk_far ?_ NB283_290.out _; (with_reducible repeat (first | refine blk_drewN ?_ _ | refine blk_drew ?_ | refine blk_alloc ?_ _)); exact BK283.out))⟩; have n2_ : Aside0 (w23.heap[gb290]? = some (.cells #[.int .i64 ((rd_T39 l0_1 a1).f0), .int .i64 ((rd_T39 l0_1 a1).f1), .int .i64 ((rd_T39 l0_1 a1).f2)] 39 (0, 0))) := ⟨(by rw [hw]; exact (by (with_reducible repeat (first | refine blk_drewN ?_ _ | refine blk_drew ?_ | refine blk_alloc ?_ _)); refine blk_put (cs := #[.int .i64 ((rd_T39 l0_1 a1).f0), .int .i64 ((rd_T39 l0_1 a1).f1), .int .i64 0]) ?_ 2 _ rfl; (with_reducible repeat (first | refine blk_drewN ?_ _ | refine blk_drew ?_ | refine blk_alloc ?_ _)); refine blk_put (cs := #[.int .i64 ((rd_T39 l0_1 a1).f0), .int .i64 0, .int .i64 0]) ?_ 1 _ rfl; (with_reducible repeat (first | refine blk_drewN ?_ _ | refine blk_drew ?_ | refine blk_alloc ?_ _)); refine blk_put (cs := #[.int .i64 0, .int .i64 0, .int .i64 0]) ?_ 0 _ rfl; (with_reducible repeat (first | refine blk_drewN ?_ _ | refine blk_drew ?_ | refine blk_alloc ?_ _)); exact BK290.out))⟩; have n3_ : Aside0 (Below w.heap.size w w23) := ⟨(by rw [hw]; exact (by repeat (first | (with_reducible first | exact HB.out | apply below_alloc | apply pw_below_drewN | apply below_drew1 | refine below_set ?_ GE283.out | refine below_set ?_ GE290.out) | exact HB.out)))⟩; clear hw; clear HO_6; clear BK283; clear BK290; clear HB; have HO_6 := n0_; have BK283 := n1_; have BK290 := n2_; have HB := n3_; clear n0_ n1_ n2_ n3_; have hcz24_0 : w23.cell? ⟨gb290, 0, none⟩ = some (.int .i64 ((rd_T39 l0_1 a1).f0)) := (blk_cell BK290.out 0).trans rfl; have hcz24_1 : w23.cell? ⟨gb290, 1, none⟩ = some (.int .i64 ((rd_T39 l0_1 a1).f1)) := (blk_cell BK290.out 1).trans rfl; have hcz24_2 : w23.cell? ⟨gb290, 2, none⟩ = some (.int .i64 ((rd_T39 l0_1 a1).f2)) := (blk_cell BK290.out 2).trans rfl; have hfz24_0 := blk_frozen BK290.out 0; have hfz24_1 := blk_frozen BK290.out 1; have hfz24_2 := blk_frozen BK290.out 2; obtain ⟨Ao25, co25, eo25⟩ := Kd.S_slice HO_6.out; subst eo25; have p291 : 0 ≤ (((rd_T39 l0_1 a1).f1) : Int) := of_decide_eq_true (by with_reducible assumption); have q291 : ((rd_T39 l0_1 a1).f1) < (t284.length : Int) := of_decide_eq_true (by with_reducible assumption); obtain ⟨ad291, A291_0, c291_0, e291, hx291_0, hl291_0, hi291_0⟩ := at_L6 (Kd.S_reads' HO_6.out).2.2 ((rd_T39 l0_1 a1).f1) p291 q291; cases e291; obtain ⟨ce291, hce291, hMe291, hcc291⟩ := Kd.S_get HO_6.out [] ((rd_T39 l0_1 a1).f1) p291 (by first | exact q291 | exact of_decide_eq_true (by with_reducible assumption) | (have e_ := (Kd.S_reads' HO_6.out).1; omega)); obtain ⟨ve291_0, rfl, ge291_0⟩ := hMe291; have hv291_0 := hcc291 0 _ rfl; rw [Nat.add_zero, show ((Kd.slice 2 (Kd.int .i64))).sz = 1 from rfl, Nat.mul_one] at hv291_0; replace hv291_0 := Option.some.inj (hv291_0.symm.trans hx291_0); rw [hv291_0] at ge291_0; have HL291_0 := Aside0.mk (show Kd.R (Kd.int .i64) 2 _ _ _ _ (rd_L6 t284 ((rd_T39 l0_1 a1).f1)) from ge291_0); clear hv291_0 ge291_0; clear hcc291 hce291; have HR291_0 := Aside0.mk hi291_0; have HC291_0 := Aside0.mk hl291_0; clear hi291_0 hl291_0; replace p291 := eq_true p291; replace q291 := eq_true q291; have p292 : 0 ≤ (((rd_T39 l0_1 a1).f0) : Int) := of_decide_eq_true (by with_reducible assumption); have q292 : ((rd_T39 l0_1 a1).f0) < ((rd_L6 t284 ((rd_T39 l0_1 a1).f1)).length : Int) := of_decide_eq_true (by with_reducible assumption); obtain ⟨ad292, e292, hx292_0⟩ := Kd.at_int (by repeat (first | (with_reducible exact HR291_0.out) | (with_reducible refine Kd.C_alloc ?_ _) | (with_reducible refine Kd.C_drewN ?_ _) | (with_reducible refine Kd.C_drew ?_) | exact HR291_0.out)) ((rd_T39 l0_1 a1).f0) p292 q292; cases e292; replace p292 := eq_true p292; replace q292 := eq_true q292))
           repeat (go_quiet (first | ((with_reducible refine gate_dst (N := 8) rfl ?_); (try (refine gate_guard (by rfl) ?_; dsimp only)); refine box_event ?hg (N := 8) ?hd (cs := #[.int .i64 0, .int .i64 0, .int .i64 0]) (t := 39) ?hr ?_; (case hd => rfl); (case hg => rfl); (case hr => first | (go_simp; done) | (go_simp; rfl)); intro gb290 hg w20 hbox hb; have n0_ := Aside0.mk (Kd.S_below (by (with_reducible repeat (first | apply Kd.S_alloc | apply Kd.S_drewN | apply Kd.S_drew)); exact HO_6.out) hb); have n1_ := Aside0.mk (blk_below (g := gb283) (o := .cells #[.int .i64 a0_0, .slice (some ad289) l0_1.length c0_1] 26 (0, 0)) (by (with_reducible repeat (first | refine blk_drewN ?_ _ | refine blk_drew ?_ | refine blk_alloc ?_ _)); exact BK283.out) hb); have n2_ := Aside0.mk (below_step (by repeat (first | (with_reducible first | exact HB.out | apply below_alloc | apply pw_below_drewN | apply below_drew1 | refine below_set ?_ GE283.out) | exact HB.out)) hb); have n3_ := Aside0.mk (hbox); have n4_ := Aside0.mk ((by rw [hg]; exact (below_size (by repeat (first | (with_reducible first | exact HB.out | apply below_alloc | apply pw_below_drewN | apply below_drew1 | refine below_set ?_ GE283.out) | exact HB.out))) : w.heap.size ≤ gb290)); have n5_ := Aside0.mk ((by rw [hg]; exact (below_size (by repeat (first | (with_reducible first | exact HB.out | apply below_alloc | apply pw_below_drewN | apply below_drew1 | refine below_set ?_ GE283.out) | exact HB.out))) : w.heap.size ≤ gb290)); have n6_ := Aside0.mk ((by rw [hg]; exact Nat.ne_of_lt (blk_lt (g := gb283) (o := .cells #[.int .i64 a0_0, .slice (some ad289) l0_1.length c0_1] 26 (0, 0)) (by (with_reducible repeat (first | refine blk_drewN ?_ _ | refine blk_drew ?_ | refine blk_alloc ?_ _)); exact BK283.out)) : gb283 ≠ gb290)); have n7_ := Aside0.mk ((by rw [hg]; exact Nat.ne_of_gt (blk_lt (g := gb283) (o := .cells #[.int .i64 a0_0, .slice (some ad289) l0_1.length c0_1] 26 (0, 0)) (by (with_reducible repeat (first | refine blk_drewN ?_ _ | refine blk_drew ?_ | refine blk_alloc ?_ _)); exact BK283.out)) : gb290 ≠ gb283)); clear HO_6; clear BK283; clear HB; have HO_6 := n0_; have BK283 := n1_; have HB := n2_; have BK290 := n3_; have GW290 := n4_; have GE290 := n5_; have NB283_290 := n6_; have NB290_283 := n7_; clear n0_ n1_ n2_ n3_ n4_ n5_ n6_ n7_; clear hb hbox hg; have hnb21 := NB290_283.out; have hnc21 := NB283_290.out; have hcz22_0 : w20.cell? ⟨gb290, 0, none⟩ = some (.int .i64 0) := (blk_cell BK290.out 0).trans rfl; have hcz22_1 : w20.cell? ⟨gb290, 1, none⟩ = some (.int .i64 0) := (blk_cell BK290.out 1).trans rfl; have hcz22_2 : w20.cell? ⟨gb290, 2, none⟩ = some (.int .i64 0) := (blk_cell BK290.out 2).trans rfl; have hfz22_0 := blk_frozen BK290.out 0; have hfz22_1 := blk_frozen BK290.out 1; have hfz22_2 := blk_frozen BK290.out 2) | ((with_reducible refine gate_store (t := 39) (p := 8) rfl ?_); (try (rw [drewN_self w20]; generalize hq_ : World.drewN w20 _ = w20; have n0_ := Aside0.mk (Kd.S_at hq_ HO_6.out); have n1_ := Aside0.mk (blk_at hq_ BK283.out); have n2_ := Aside0.mk (blk_at hq_ BK290.out); have n3_ := Aside0.mk (below_at hq_ HB.out); clear hq_ HO_6 BK283 BK290 HB; have HO_6 := n0_; have BK283 := n1_; have BK290 := n2_; have HB := n3_; clear n0_ n1_ n2_ n3_)); refine store_event (t := 39) (p := 8) (v := ?vo_w23) (w1 := (((w20.setCell ⟨gb290, 0, none⟩ (.int .i64 ((rd_T39 l0_1 a1).f0))).setCell ⟨gb290, 1, none⟩ (.int .i64 ((rd_T39 l0_1 a1).f1))).setCell ⟨gb290, 2, none⟩ (.int .i64 ((rd_T39 l0_1 a1).f2)))) ?hg ?ho ?hn ?hr ?_; (case ho => rfl); (case hg => rfl); (case hn => rfl); (case hr => first | (go_simp; done) | (go_simp; rfl)); intro w23 hw; have n0_ : Aside0 (Kd.S (Kd.slice 2 (Kd.int .i64)) 28 w23 w.heap.size (fun _ => True) v285 t284) := ⟨(by rw [hw]; exact (by (with_reducible repeat (first | apply Kd.S_alloc | apply Kd.S_drewN | apply Kd.S_drew)); exact Kd.S_mono (Kd.S_far (p := ⟨gb290, 2, none⟩) (Kd.S_far (p := ⟨gb290, 1, none⟩) (Kd.S_far (p := ⟨gb290, 0, none⟩) (Kd.S_types HO_6.out BK290.out (by decide)) (fun _ hk => hk.2) (.int .i64 ((rd_T39 l0_1 a1).f0))) (fun _ hk => hk.2) (.int .i64 ((rd_T39 l0_1 a1).f1))) (fun _ hk => hk.2) (.int .i64 ((rd_T39 l0_1 a1).f2))) (fun _ hk => trivial)))⟩; have n1_ : Aside0 (w23.heap[gb283]? = some (.cells #[.int .i64 a0_0, .slice (some ad289) l0_1.length c0_1] 26 (0, 0))) := ⟨(by rw [hw]; exact (by (with_reducible repeat (first | refine blk_drewN ?_ _ | refine blk_drew ?_ | refine blk_alloc ?_ _)); refine blk_far ?_ NB283_290.out _; (with_reducible repeat (first | refine blk_drewN ?_ _ | refine blk_drew ?_ | refine blk_alloc ?_ _)); refine blk_far ?_ NB283_290.out _; (with_reducible repeat (first | refine blk_drewN ?_ _ | refine blk_drew ?_ | refine blk_alloc ?_ _)); refine blk_far ?_ NB283_290.out _; (with_reducible repeat (first | refine blk_drewN ?_ _ | refine blk_drew ?_ | refine blk_alloc ?_ _)); exact BK283.out))⟩; have n2_ : Aside0 (w23.heap[gb290]? = some (.cells #[.int .i64 ((rd_T39 l0_1 a1).f0), .int .i64 ((rd_T39 l0_1 a1).f1), .int .i64 ((rd_T39 l0_1 a1).f2)] 39 (0, 0))) := ⟨(by rw [hw]; exact (by (with_reducible repeat (first | refine blk_drewN ?_ _ | refine blk_drew ?_ | refine blk_alloc ?_ _)); refine blk_put (cs := #[.int .i64 ((rd_T39 l0_1 a1).f0), .int .i64 ((rd_T39 l0_1 a1).f1), .int .i64 0]) ?_ 2 _ rfl; (with_reducible repeat (first | refine blk_drewN ?_ _ | refine blk_drew ?_ | refine blk_alloc ?_ _)); refine blk_put (cs := #[.int .i64 ((rd_T39 l0_1 a1).f0), .int .i64 0, .int .i64 0]) ?_ 1 _ rfl; (with_reducible repeat (first | refine blk_drewN ?_ _ | refine blk_drew ?_ | refine blk_alloc ?_ _)); refine blk_put (cs := #[.int .i64 0, .int .i64 0, .int .i64 0]) ?_ 0 _ rfl; (with_reducible repeat (first | refine blk_drewN ?_ _ | refine blk_drew ?_ | refine blk_alloc ?_ _)); exact BK290.out))⟩; have n3_ : Aside0 (Below w.heap.size w w23) := ⟨(by rw [hw]; exact (by repeat (first | (with_reducible first | exact HB.out | apply below_alloc | apply pw_below_drewN | apply below_drew1 | refine below_set ?_ GE283.out | refine below_set ?_ GE290.out) | exact HB.out)))⟩; clear hw; clear HO_6; clear BK283; clear BK290; clear HB; have HO_6 := n0_; have BK283 := n1_; have BK290 := n2_; have HB := n3_; clear n0_ n1_ n2_ n3_; have hcz24_0 : w23.cell? ⟨gb290, 0, none⟩ = some (.int .i64 ((rd_T39 l0_1 a1).f0)) := (blk_cell BK290.out 0).trans rfl; have hcz24_1 : w23.cell? ⟨gb290, 1, none⟩ = some (.int .i64 ((rd_T39 l0_1 a1).f1)) := (blk_cell BK290.out 1).trans rfl; have hcz24_2 : w23.cell? ⟨gb290, 2, none⟩ = some (.int .i64 ((rd_T39 l0_1 a1).f2)) := (blk_cell BK290.out 2).trans rfl; have hfz24_0 := blk_frozen BK290.out 0; have hfz24_1 := blk_frozen BK290.out 1; have hfz24_2 := blk_frozen BK290.out 2; obtain ⟨Ao25, co25, eo25⟩ := Kd.S_slice HO_6.out; subst eo25; have p291 : 0 ≤ (((rd_T39 l0_1 a1).f1) : Int) := of_decide_eq_true (by with_reducible assumption); have q291 : ((rd_T39 l0_1 a1).f1) < (t284.length : Int) := of_decide_eq_true (by with_reducible assumption); obtain ⟨ad291, A291_0, c291_0, e291, hx291_0, hl291_0, hi291_0⟩ := at_L6 (Kd.S_reads' HO_6.out).2.2 ((rd_T39 l0_1 a1).f1) p291 q291; cases e291; obtain ⟨ce291, hce291, hMe291, hcc291⟩ := Kd.S_get HO_6.out [] ((rd_T39 l0_1 a1).f1) p291 (by first | exact q291 | exact of_decide_eq_true (by with_reducible assumption) | (have e_ := (Kd.S_reads' HO_6.out).1; omega)); obtain ⟨ve291_0, rfl, ge291_0⟩ := hMe291; have hv291_0 := hcc291 0 _ rfl; rw [Nat.add_zero, show ((Kd.slice 2 (Kd.int .i64))).sz = 1 from rfl, Nat.mul_one] at hv291_0; replace hv291_0 := Option.some.inj (hv291_0.symm.trans hx291_0); rw [hv291_0] at ge291_0; have HL291_0 := Aside0.mk (show Kd.R (Kd.int .i64) 2 _ _ _ _ (rd_L6 t284 ((rd_T39 l0_1 a1).f1)) from ge291_0); clear hv291_0 ge291_0; clear hcc291 hce291; have HR291_0 := Aside0.mk hi291_0; have HC291_0 := Aside0.mk hl291_0; clear hi291_0 hl291_0; replace p291 := eq_true p291; replace q291 := eq_true q291; have p292 : 0 ≤ (((rd_T39 l0_1 a1).f0) : Int) := of_decide_eq_true (by with_reducible assumption); have q292 : ((rd_T39 l0_1 a1).f0) < ((rd_L6 t284 ((rd_T39 l0_1 a1).f1)).length : Int) := of_decide_eq_true (by with_reducible assumption); obtain ⟨ad292, e292, hx292_0⟩ := Kd.at_int (by repeat (first | (with_reducible exact HR291_0.out) | (with_reducible refine Kd.C_alloc ?_ _) | (with_reducible refine Kd.C_drewN ?_ _) | (with_reducible refine Kd.C_drew ?_) | exact HR291_0.out)) ((rd_T39 l0_1 a1).f0) p292 q292; cases e292; replace p292 := eq_true p292; replace q292 := eq_true q292)); try go_wp2_with (first | ((with_reducible refine gate_dst (N := 8) rfl ?_); (try (refine gate_guard (by rfl) ?_; dsimp only)); refine box_event ?hg (N := 8) ?hd (cs := #[.int .i64 0, .int .i64 0, .int .i64 0]) (t := 39) ?hr ?_; (case hd => rfl); (case hg => rfl); (case hr => first | (go_simp; done) | (go_simp; rfl)); intro gb290 hg w20 hbox hb; have n0_ := Aside0.mk (Kd.S_below (by (with_reducible repeat (first | apply Kd.S_alloc | apply Kd.S_drewN | apply Kd.S_drew)); exact HO_6.out) hb); have n1_ := Aside0.mk (blk_below (g := gb283) (o := .cells #[.int .i64 a0_0, .slice (some ad289) l0_1.length c0_1] 26 (0, 0)) (by (with_reducible repeat (first | refine blk_drewN ?_ _ | refine blk_drew ?_ | refine blk_alloc ?_ _)); exact BK283.out) hb); have n2_ := Aside0.mk (below_step (by repeat (first | (with_reducible first | exact HB.out | apply below_alloc | apply pw_below_drewN | apply below_drew1 | refine below_set ?_ GE283.out) | exact HB.out)) hb); have n3_ := Aside0.mk (hbox); have n4_ := Aside0.mk ((by rw [hg]; exact (below_size (by repeat (first | (with_reducible first | exact HB.out | apply below_alloc | apply pw_below_drewN | apply below_drew1 | refine below_set ?_ GE283.out) | exact HB.out))) : w.heap.size ≤ gb290)); have n5_ := Aside0.mk ((by rw [hg]; exact (below_size (by repeat (first | (with_reducible first | exact HB.out | apply below_alloc | apply pw_below_drewN | apply below_drew1 | refine below_set ?_ GE283.out) | exact HB.out))) : w.heap.size ≤ gb290)); have n6_ := Aside0.mk ((by rw [hg]; exact Nat.ne_of_lt (blk_lt (g := gb283) (o := .cells #[.int .i64 a0_0, .slice (some ad289) l0_1.length c0_1] 26 (0, 0)) (by (with_reducible repeat (first | refine blk_drewN ?_ _ | refine blk_drew ?_ | refine blk_alloc ?_ _)); exact BK283.out)) : gb283 ≠ gb290)); have n7_ := Aside0.mk ((by rw [hg]; exact Nat.ne_of_gt (blk_lt (g := gb283) (o := .cells #[.int .i64 a0_0, .slice (some ad289) l0_1.length c0_1] 26 (0, 0)) (by (with_reducible repeat (first | refine blk_drewN ?_ _ | refine blk_drew ?_ | refine blk_alloc ?_ _)); exact BK283.out)) : gb290 ≠ gb283)); clear HO_6; clear BK283; clear HB; have HO_6 := n0_; have BK283 := n1_; have HB := n2_; have BK290 := n3_; have GW290 := n4_; have GE290 := n5_; have NB283_290 := n6_; have NB290_283 := n7_; clear n0_ n1_ n2_ n3_ n4_ n5_ n6_ n7_; clear hb hbox hg; have hnb21 := NB290_283.out; have hnc21 := NB283_290.out; have hcz22_0 : w20.cell? ⟨gb290, 0, none⟩ = some (.int .i64 0) := (blk_cell BK290.out 0).trans rfl; have hcz22_1 : w20.cell? ⟨gb290, 1, none⟩ = some (.int .i64 0) := (blk_cell BK290.out 1).trans rfl; have hcz22_2 : w20.cell? ⟨gb290, 2, none⟩ = some (.int .i64 0) := (blk_cell BK290.out 2).trans rfl; have hfz22_0 := blk_frozen BK290.out 0; have hfz22_1 := blk_frozen BK290.out 1; have hfz22_2 := blk_frozen BK290.out 2) | ((with_reducible refine gate_store (t := 39) (p := 8) rfl ?_); (try (rw [drewN_self w20]; generalize hq_ : World.drewN w20 _ = w20; have n0_ := Aside0.mk (Kd.S_at hq_ HO_6.out); have n1_ := Aside0.mk (blk_at hq_ BK283.out); have n2_ := Aside0.mk (blk_at hq_ BK290.out); have n3_ := Aside0.mk (below_at hq_ HB.out); clear hq_ HO_6 BK283 BK290 HB; have HO_6 := n0_; have BK283 := n1_; have BK290 := n2_; have HB := n3_; clear n0_ n1_ n2_ n3_)); refine store_event (t := 39) (p := 8) (v := ?vo_w23) (w1 := (((w20.setCell ⟨gb290, 0, none⟩ (.int .i64 ((rd_T39 l0_1 a1).f0))).setCell ⟨gb290, 1, none⟩ (.int .i64 ((rd_T39 l0_1 a1).f1))).setCell ⟨gb290, 2, none⟩ (.int .i64 ((rd_T39 l0_1 a1).f2)))) ?hg ?ho ?hn ?hr ?_; (case ho => rfl); (case hg => rfl); (case hn => rfl); (case hr => first | (go_simp; done) | (go_simp; rfl)); intro w23 hw; have n0_ : Aside0 (Kd.S (Kd.slice 2 (Kd.int .i64)) 28 w23 w.heap.size (fun _ => True) v285 t284) := ⟨(by rw [hw]; exact (by (with_reducible repeat (first | apply Kd.S_alloc | apply Kd.S_drewN | apply Kd.S_drew)); exact Kd.S_mono (Kd.S_far (p := ⟨gb290, 2, none⟩) (Kd.S_far (p := ⟨gb290, 1, none⟩) (Kd.S_far (p := ⟨gb290, 0, none⟩) (Kd.S_types HO_6.out BK290.out (by decide)) (fun _ hk => hk.2) (.int .i64 ((rd_T39 l0_1 a1).f0))) (fun _ hk => hk.2) (.int .i64 ((rd_T39 l0_1 a1).f1))) (fun _ hk => hk.2) (.int .i64 ((rd_T39 l0_1 a1).f2))) (fun _ hk => trivial)))⟩; have n1_ : Aside0 (w23.heap[gb283]? = some (.cells #[.int .i64 a0_0, .slice (some ad289) l0_1.length c0_1] 26 (0, 0))) := ⟨(by rw [hw]; exact (by (with_reducible repeat (first | refine blk_drewN ?_ _ | refine blk_drew ?_ | refine blk_alloc ?_ _)); refine blk_far ?_ NB283_290.out _; (with_reducible repeat (first | refine blk_drewN ?_ _ | refine blk_drew ?_ | refine blk_alloc ?_ _)); refine blk_far ?_ NB283_290.out _; (with_reducible repeat (first | refine blk_drewN ?_ _ | refine blk_drew ?_ | refine blk_alloc ?_ _)); refine blk_far ?_ NB283_290.out _; (with_reducible repeat (first | refine blk_drewN ?_ _ | refine blk_drew ?_ | refine blk_alloc ?_ _)); exact BK283.out))⟩; have n2_ : Aside0 (w23.heap[gb290]? = some (.cells #[.int .i64 ((rd_T39 l0_1 a1).f0), .int .i64 ((rd_T39 l0_1 a1).f1), .int .i64 ((rd_T39 l0_1 a1).f2)] 39 (0, 0))) := ⟨(by rw [hw]; exact (by (with_reducible repeat (first | refine blk_drewN ?_ _ | refine blk_drew ?_ | refine blk_alloc ?_ _)); refine blk_put (cs := #[.int .i64 ((rd_T39 l0_1 a1).f0), .int .i64 ((rd_T39 l0_1 a1).f1), .int .i64 0]) ?_ 2 _ rfl; (with_reducible repeat (first | refine blk_drewN ?_ _ | refine blk_drew ?_ | refine blk_alloc ?_ _)); refine blk_put (cs := #[.int .i64 ((rd_T39 l0_1 a1).f0), .int .i64 0, .int .i64 0]) ?_ 1 _ rfl; (with_reducible repeat (first | refine blk_drewN ?_ _ | refine blk_drew ?_ | refine blk_alloc ?_ _)); refine blk_put (cs := #[.int .i64 0, .int .i64 0, .int .i64 0]) ?_ 0 _ rfl; (with_reducible repeat (first | refine blk_drewN ?_ _ | refine blk_drew ?_ | refine blk_alloc ?_ _)); exact BK290.out))⟩; have n3_ : Aside0 (Below w.heap.size w w23) := ⟨(by rw [hw]; exact (by repeat (first | (with_reducible first | exact HB.out | apply below_alloc | apply pw_below_drewN | apply below_drew1 | refine below_set ?_ GE283.out | refine below_set ?_ GE290.out) | exact HB.out)))⟩; clear hw; clear HO_6; clear BK283; clear BK290; clear HB; have HO_6 := n0_; have BK283 := n1_; have BK290 := n2_; have HB := n3_; clear n0_ n1_ n2_ n3_; have hcz24_0 : w23.cell? ⟨gb290, 0, none⟩ = some (.int .i64 ((rd_T39 l0_1 a1).f0)) := (blk_cell BK290.out 0).trans rfl; have hcz24_1 : w23.cell? ⟨gb290, 1, none⟩ = some (.int .i64 ((rd_T39 l0_1 a1).f1)) := (blk_cell BK290.out 1).trans rfl; have hcz24_2 : w23.cell? ⟨gb290, 2, none⟩ = some (.int .i64 ((rd_T39 l0_1 a1).f2)) := (blk_cell BK290.out 2).trans rfl; have hfz24_0 := blk_frozen BK290.out 0; have hfz24_1 := blk_frozen BK290.out 1; have hfz24_2 := blk_frozen BK290.out 2; obtain ⟨Ao25, co25, eo25⟩ := Kd.S_slice HO_6.out; subst eo25; have p291 : 0 ≤ (((rd_T39 l0_1 a1).f1) : Int) := of_decide_eq_true (by with_reducible assumption); have q291 : ((rd_T39 l0_1 a1).f1) < (t284.length : Int) := of_decide_eq_true (by with_reducible assumption); obtain ⟨ad291, A291_0, c291_0, e291, hx291_0, hl291_0, hi291_0⟩ := at_L6 (Kd.S_reads' HO_6.out).2.2 ((rd_T39 l0_1 a1).f1) p291 q291; cases e291; obtain ⟨ce291, hce291, hMe291, hcc291⟩ := Kd.S_get HO_6.out [] ((rd_T39 l0_1 a1).f1) p291 (by first | exact q291 | exact of_decide_eq_true (by with_reducible assumption) | (have e_ := (Kd.S_reads' HO_6.out).1; omega)); obtain ⟨ve291_0, rfl, ge291_0⟩ := hMe291; have hv291_0 := hcc291 0 _ rfl; rw [Nat.add_zero, show ((Kd.slice 2 (Kd.int .i64))).sz = 1 from rfl, Nat.mul_one] at hv291_0; replace hv291_0 := Option.some.inj (hv291_0.symm.trans hx291_0); rw [hv291_0] at ge291_0; have HL291_0 := Aside0.mk (show Kd.R (Kd.int .i64) 2 _ _ _ _ (rd_L6 t284 ((rd_T39 l0_1 a1).f1)) from ge291_0); clear hv291_0 ge291_0; clear hcc291 hce291; have HR291_0 := Aside0.mk hi291_0; have HC291_0 := Aside0.mk hl291_0; clear hi291_0 hl291_0; replace p291 := eq_true p291; replace q291 := eq_true q291; have p292 : 0 ≤ (((rd_T39 l0_1 a1).f0) : Int) := of_decide_eq_true (by with_reducible assumption); have q292 : ((rd_T39 l0_1 a1).f0) < ((rd_L6 t284 ((rd_T39 l0_1 a1).f1)).length : Int) := of_decide_eq_true (by with_reducible assumption); obtain ⟨ad292, e292, hx292_0⟩ := Kd.at_int (by repeat (first | (with_reducible exact HR291_0.out) | (with_reducible refine Kd.C_alloc ?_ _) | (with_reducible refine Kd.C_drewN ?_ _) | (with_reducible refine Kd.C_drew ?_) | exact HR291_0.out)) ((rd_T39 l0_1 a1).f0) p292 q292; cases e292; replace p292 := eq_true p292; replace q292 := eq_true q292)))
           go_ret2
           exact ⟨by first | rfl | (simp [errW_none, errW_some] <;> rfl) | (simp [*, errW_none, errW_some] <;> rfl), by repeat (first | (with_reducible first | exact HB.out | apply below_alloc | apply pw_below_drewN | apply below_drew1 | refine below_set ?_ GE283.out | refine below_set ?_ GE290.out) | exact HB.out)⟩
          ·rw [if_neg c18] at H
           have c18b0 : ((rd (rd_L6 t284 ((rd_T39 l0_1 a1).f1)) ((rd_T39 l0_1 a1).f0)) == 1000000) = false := beq_eq_false_iff_ne.mpr c18
           have c18b1 : ((rd (rd_L6 t284 ((rd_T39 l0_1 a1).f1)) ((rd_T39 l0_1 a1).f0)) != 1000000) = true := bne_iff_ne.mpr c18
           simp only [Option.some.injEq, Prod.mk.injEq] at H
           obtain ⟨rfl, rfl⟩ := H
           have hcz26_0 : wc.cell? ⟨gb283, 0, none⟩ = some (.int .i64 a0_0) := (blk_cell BK283.out 0).trans rfl
           have hcz26_1 : wc.cell? ⟨gb283, 1, none⟩ = some (.slice A0_1 l0_1.length c0_1) := (blk_cell BK283.out 1).trans rfl
           have hfz26_0 := blk_frozen BK283.out 0
           have hfz26_1 := blk_frozen BK283.out 1
           have p289 : 0 ≤ (a1 : Int) := of_decide_eq_true (by with_reducible assumption)
           have q289 : a1 < (l0_1.length : Int) := of_decide_eq_true (by with_reducible assumption)
           obtain ⟨ad289, e289, hx289_0, hx289_1, hx289_2⟩ := at_T39 HR0_1.out a1 p289 q289
           cases e289
           replace hx289_0 := (HB.out.cell (World.block_lt_of_cell? w _ hx289_0)).trans hx289_0
           replace hx289_1 := (HB.out.cell (World.block_lt_of_cell? w _ hx289_1)).trans hx289_1
           replace hx289_2 := (HB.out.cell (World.block_lt_of_cell? w _ hx289_2)).trans hx289_2
           replace p289 := eq_true p289
           replace q289 := eq_true q289
           go_wp2_with (first | ((with_reducible refine gate_dst (N := 8) rfl ?_); (try (refine gate_guard (by rfl) ?_; dsimp only)); refine box_event ?hg (N := 8) ?hd (cs := #[.int .i64 0, .int .i64 0, .int .i64 0]) (t := 39) ?hr ?_; (case hd => rfl); (case hg => rfl); (case hr => first | (go_simp; done) | (go_simp; rfl)); intro gb290 hg w27 hbox hb; have n0_ := Aside0.mk (Kd.S_below (by (with_reducible repeat (first | apply Kd.S_alloc | apply Kd.S_drewN | apply Kd.S_drew)); exact HO_6.out) hb); have n1_ := Aside0.mk (blk_below (g := gb283) (o := .cells #[.int .i64 a0_0, .slice (some ad289) l0_1.length c0_1] 26 (0, 0)) (by (with_reducible repeat (first | refine blk_drewN ?_ _ | refine blk_drew ?_ | refine blk_alloc ?_ _)); exact BK283.out) hb); have n2_ := Aside0.mk (below_step (by repeat (first | (with_reducible first | exact HB.out | apply below_alloc | apply pw_below_drewN | apply below_drew1 | refine below_set ?_ GE283.out) | exact HB.out)) hb); have n3_ := Aside0.mk (hbox); have n4_ := Aside0.mk ((by rw [hg]; exact (below_size (by repeat (first | (with_reducible first | exact HB.out | apply below_alloc | apply pw_below_drewN | apply below_drew1 | refine below_set ?_ GE283.out) | exact HB.out))) : w.heap.size ≤ gb290)); have n5_ := Aside0.mk ((by rw [hg]; exact (below_size (by repeat (first | (with_reducible first | exact HB.out | apply below_alloc | apply pw_below_drewN | apply below_drew1 | refine below_set ?_ GE283.out) | exact HB.out))) : w.heap.size ≤ gb290)); have n6_ := Aside0.mk ((by rw [hg]; exact Nat.ne_of_lt (blk_lt (g := gb283) (o := .cells #[.int .i64 a0_0, .slice (some ad289) l0_1.length c0_1] 26 (0, 0)) (by (with_reducible repeat (first | refine blk_drewN ?_ _ | refine blk_drew ?_ | refine blk_alloc ?_ _)); exact BK283.out)) : gb283 ≠ gb290)); have n7_ := Aside0.mk ((by rw [hg]; exact Nat.ne_of_gt (blk_lt (g := gb283) (o := .cells #[.int .i64 a0_0, .slice (some ad289) l0_1.length c0_1] 26 (0, 0)) (by (with_reducible repeat (first | refine blk_drewN ?_ _ | refine blk_drew ?_ | refine blk_alloc ?_ _)); exact BK283.out)) : gb290 ≠ gb283)); clear HO_6; clear BK283; clear HB; have HO_6 := n0_; have BK283 := n1_; have HB := n2_; have BK290 := n3_; have GW290 := n4_; have GE290 := n5_; have NB283_290 := n6_; have NB290_283 := n7_; clear n0_ n1_ n2_ n3_ n4_ n5_ n6_ n7_; clear hb hbox hg; have hnb28 := NB290_283.out; have hnc28 := NB283_290.out; have hcz29_0 : w27.cell? ⟨gb290, 0, none⟩ = some (.int .i64 0) := (blk_cell BK290.out 0).trans rfl; have hcz29_1 : w27.cell? ⟨gb290, 1, none⟩ = some (.int .i64 0) := (blk_cell BK290.out 1).trans rfl; have hcz29_2 : w27.cell? ⟨gb290, 2, none⟩ = some (.int .i64 0) := (blk_cell BK290.out 2).trans rfl; have hfz29_0 := blk_frozen BK290.out 0; have hfz29_1 := blk_frozen BK290.out 1; have hfz29_2 := blk_frozen BK290.out 2) | ((with_reducible refine gate_store (t := 39) (p := 8) rfl ?_); (try (rw [drewN_self w27]; generalize hq_ : World.drewN w27 _ = w27; have n0_ := Aside0.mk (Kd.S_at hq_ HO_6.out); have n1_ := Aside0.mk (blk_at hq_ BK283.out); have n2_ := Aside0.mk (blk_at hq_ BK290.out); have n3_ := Aside0.mk (below_at hq_ HB.out); clear hq_ HO_6 BK283 BK290 HB; have HO_6 := n0_; have BK283 := n1_; have BK290 := n2_; have HB := n3_; clear n0_ n1_ n2_ n3_)); refine store_event (t := 39) (p := 8) (v := ?vo_w30) (w1 := (((w27.setCell ⟨gb290, 0, none⟩ (.int .i64 ((rd_T39 l0_1 a1).f0))).setCell ⟨gb290, 1, none⟩ (.int .i64 ((rd_T39 l0_1 a1).f1))).setCell ⟨gb290, 2, none⟩ (.int .i64 ((rd_T39 l0_1 a1).f2)))) ?hg ?ho ?hn ?hr ?_; (case ho => rfl); (case hg => rfl); (case hn => rfl); (case hr => first | (go_simp; done) | (go_simp; rfl)); intro w30 hw; have n0_ : Aside0 (Kd.S (Kd.slice 2 (Kd.int .i64)) 28 w30 w.heap.size (fun _ => True) v285 t284) := ⟨(by rw [hw]; exact (by (with_reducible repeat (first | apply Kd.S_alloc | apply Kd.S_drewN | apply Kd.S_drew)); exact Kd.S_mono (Kd.S_far (p := ⟨gb290, 2, none⟩) (Kd.S_far (p := ⟨gb290, 1, none⟩) (Kd.S_far (p := ⟨gb290, 0, none⟩) (Kd.S_types HO_6.out BK290.out (by decide)) (fun _ hk => hk.2) (.int .i64 ((rd_T39 l0_1 a1).f0))) (fun _ hk => hk.2) (.int .i64 ((rd_T39 l0_1 a1).f1))) (fun _ hk => hk.2) (.int .i64 ((rd_T39 l0_1 a1).f2))) (fun _ hk => trivial)))⟩; have n1_ : Aside0 (w30.heap[gb283]? = some (.cells #[.int .i64 a0_0, .slice (some ad289) l0_1.length c0_1] 26 (0, 0))) := ⟨(by rw [hw]; exact (by (with_reducible repeat (first | refine blk_drewN ?_ _ | refine blk_drew ?_ | refine blk_alloc ?_ _)); refine blk_far ?_ NB283_290.out _; (with_reducible repeat (first | refine blk_drewN ?_ _ | refine blk_drew ?_ | refine blk_alloc ?_ _)); refine blk_far ?_ NB283_290.out _; (with_reducible repeat (first | refine blk_drewN ?_ _ | refine blk_drew ?_ | refine blk_alloc ?_ _)); refine blk_far ?_ NB283_290.out _; (with_reducible repeat (first | refine blk_drewN ?_ _ | refine blk_drew ?_ | refine blk_alloc ?_ _)); exact BK283.out))⟩; have n2_ : Aside0 (w30.heap[gb290]? = some (.cells #[.int .i64 ((rd_T39 l0_1 a1).f0), .int .i64 ((rd_T39 l0_1 a1).f1), .int .i64 ((rd_T39 l0_1 a1).f2)] 39 (0, 0))) := ⟨(by rw [hw]; exact (by (with_reducible repeat (first | refine blk_drewN ?_ _ | refine blk_drew ?_ | refine blk_alloc ?_ _)); refine blk_put (cs := #[.int .i64 ((rd_T39 l0_1 a1).f0), .int .i64 ((rd_T39 l0_1 a1).f1), .int .i64 0]) ?_ 2 _ rfl; (with_reducible repeat (first | refine blk_drewN ?_ _ | refine blk_drew ?_ | refine blk_alloc ?_ _)); refine blk_put (cs := #[.int .i64 ((rd_T39 l0_1 a1).f0), .int .i64 0, .int .i64 0]) ?_ 1 _ rfl; (with_reducible repeat (first | refine blk_drewN ?_ _ | refine blk_drew ?_ | refine blk_alloc ?_ _)); refine blk_put (cs := #[.int .i64 0, .int .i64 0, .int .i64 0]) ?_ 0 _ rfl; (with_reducible repeat (first | refine blk_drewN ?_ _ | refine blk_drew ?_ | refine blk_alloc ?_ _)); exact BK290.out))⟩; have n3_ : Aside0 (Below w.heap.size w w30) := ⟨(by rw [hw]; exact (by repeat (first | (with_reducible first | exact HB.out | apply below_alloc | apply pw_below_drewN | apply below_drew1 | refine below_set ?_ GE283.out | refine below_set ?_ GE290.out) | exact HB.out)))⟩; clear hw; clear HO_6; clear BK283; clear BK290; clear HB; have HO_6 := n0_; have BK283 := n1_; have BK290 := n2_; have HB := n3_; clear n0_ n1_ n2_ n3_; have hcz31_0 : w30.cell? ⟨gb290, 0, none⟩ = some (.int .i64 ((rd_T39 l0_1 a1).f0)) := (blk_cell BK290.out 0).trans rfl; have hcz31_1 : w30.cell? ⟨gb290, 1, none⟩ = some (.int .i64 ((rd_T39 l0_1 a1).f1)) := (blk_cell BK290.out 1).trans rfl; have hcz31_2 : w30.cell? ⟨gb290, 2, none⟩ = some (.int .i64 ((rd_T39 l0_1 a1).f2)) := (blk_cell BK290.out 2).trans rfl; have hfz31_0 := blk_frozen BK290.out 0; have hfz31_1 := blk_frozen BK290.out 1; have hfz31_2 := blk_frozen BK290.out 2; obtain ⟨Ao32, co32, eo32⟩ := Kd.S_slice HO_6.out; subst eo32; have p291 : 0 ≤ (((rd_T39 l0_1 a1).f1) : Int) := of_decide_eq_true (by with_reducible assumption); have q291 : ((rd_T39 l0_1 a1).f1) < (t284.length : Int) := of_decide_eq_true (by with_reducible assumption); obtain ⟨ad291, A291_0, c291_0, e291, hx291_0, hl291_0, hi291_0⟩ := at_L6 (Kd.S_reads' HO_6.out).2.2 ((rd_T39 l0_1 a1).f1) p291 q291; cases e291; obtain ⟨ce291, hce291, hMe291, hcc291⟩ := Kd.S_get HO_6.out [] ((rd_T39 l0_1 a1).f1) p291 (by first | exact q291 | exact of_decide_eq_true (by with_reducible assumption) | (have e_ := (Kd.S_reads' HO_6.out).1; omega)); obtain ⟨ve291_0, rfl, ge291_0⟩ := hMe291; have hv291_0 := hcc291 0 _ rfl; rw [Nat.add_zero, show ((Kd.slice 2 (Kd.int .i64))).sz = 1 from rfl, Nat.mul_one] at hv291_0; replace hv291_0 := Option.some.inj (hv291_0.symm.trans hx291_0); rw [hv291_0] at ge291_0; have HL291_0 := Aside0.mk (show Kd.R (Kd.int .i64) 2 _ _ _ _ (rd_L6 t284 ((rd_T39 l0_1 a1).f1)) from ge291_0); clear hv291_0 ge291_0; clear hcc291 hce291; have HR291_0 := Aside0.mk hi291_0; have HC291_0 := Aside0.mk hl291_0; clear hi291_0 hl291_0; replace p291 := eq_true p291; replace q291 := eq_true q291; have p292 : 0 ≤ (((rd_T39 l0_1 a1).f0) : Int) := of_decide_eq_true (by with_reducible assumption); have q292 : ((rd_T39 l0_1 a1).f0) < ((rd_L6 t284 ((rd_T39 l0_1 a1).f1)).length : Int) := of_decide_eq_true (by with_reducible assumption); obtain ⟨ad292, e292, hx292_0⟩ := Kd.at_int (by repeat (first | (with_reducible exact HR291_0.out) | (with_reducible refine Kd.C_alloc ?_ _) | (with_reducible refine Kd.C_drewN ?_ _) | (with_reducible refine Kd.C_drew ?_) | exact HR291_0.out)) ((rd_T39 l0_1 a1).f0) p292 q292; cases e292; replace p292 := eq_true p292; replace q292 := eq_true q292; have p293 : 0 ≤ (((rd_T39 l0_1 a1).f1) : Int) := of_decide_eq_true (by with_reducible assumption); have q293 : ((rd_T39 l0_1 a1).f1) < (t284.length : Int) := of_decide_eq_true (by with_reducible assumption); obtain ⟨ad293, A293_0, c293_0, e293, hx293_0, hl293_0, hi293_0⟩ := at_L6 (Kd.S_reads' HO_6.out).2.2 ((rd_T39 l0_1 a1).f1) p293 q293; obtain rfl : ad291 = ad293 := (by injection e293); obtain ⟨ce293, hce293, hMe293, hcc293⟩ := Kd.S_get HO_6.out [] ((rd_T39 l0_1 a1).f1) p293 (by first | exact q293 | exact of_decide_eq_true (by with_reducible assumption) | (have e_ := (Kd.S_reads' HO_6.out).1; omega)); obtain ⟨ve293_0, rfl, ge293_0⟩ := hMe293; have hv293_0 := hcc293 0 _ rfl; rw [Nat.add_zero, show ((Kd.slice 2 (Kd.int .i64))).sz = 1 from rfl, Nat.mul_one] at hv293_0; replace hv293_0 := Option.some.inj (hv293_0.symm.trans hx293_0); rw [hv293_0] at ge293_0; have HL293_0 := Aside0.mk (show Kd.R (Kd.int .i64) 2 _ _ _ _ (rd_L6 t284 ((rd_T39 l0_1 a1).f1)) from ge293_0); clear hv293_0 ge293_0; clear hcc293 hce293; have HR293_0 := Aside0.mk hi293_0; have HC293_0 := Aside0.mk hl293_0; clear hi293_0 hl293_0; replace p293 := eq_true p293; replace q293 := eq_true q293; have ea_ := Option.some.inj (hx291_0.symm.trans hx293_0); injection ea_ with ea_ en_ ec_; subst ea_; subst ec_; clear en_; have p294 : 0 ≤ (((rd_T39 l0_1 a1).f0) : Int) := of_decide_eq_true (by with_reducible assumption); have q294 : ((rd_T39 l0_1 a1).f0) < ((rd_L6 t284 ((rd_T39 l0_1 a1).f1)).length : Int) := of_decide_eq_true (by with_reducible assumption); obtain ⟨ad294, e294, hx294_0⟩ := Kd.at_int (by repeat (first | (with_reducible exact HR293_0.out) | (with_reducible refine Kd.C_alloc ?_ _) | (with_reducible refine Kd.C_drewN ?_ _) | (with_reducible refine Kd.C_drew ?_) | exact HR293_0.out)) ((rd_T39 l0_1 a1).f0) p294 q294; cases e294; replace p294 := eq_true p294; replace q294 := eq_true q294))
           repeat (go_quiet (first | ((with_reducible refine gate_dst (N := 8) rfl ?_); (try (refine gate_guard (by rfl) ?_; dsimp only)); refine box_event ?hg (N := 8) ?hd (cs := #[.int .i64 0, .int .i64 0, .int .i64 0]) (t := 39) ?hr ?_; (case hd => rfl); (case hg => rfl); (case hr => first | (go_simp; done) | (go_simp; rfl)); intro gb290 hg w27 hbox hb; have n0_ := Aside0.mk (Kd.S_below (by (with_reducible repeat (first | apply Kd.S_alloc | apply Kd.S_drewN | apply Kd.S_drew)); exact HO_6.out) hb); have n1_ := Aside0.mk (blk_below (g := gb283) (o := .cells #[.int .i64 a0_0, .slice (some ad289) l0_1.length c0_1] 26 (0, 0)) (by (with_reducible repeat (first | refine blk_drewN ?_ _ | refine blk_drew ?_ | refine blk_alloc ?_ _)); exact BK283.out) hb); have n2_ := Aside0.mk (below_step (by repeat (first | (with_reducible first | exact HB.out | apply below_alloc | apply pw_below_drewN | apply below_drew1 | refine below_set ?_ GE283.out) | exact HB.out)) hb); have n3_ := Aside0.mk (hbox); have n4_ := Aside0.mk ((by rw [hg]; exact (below_size (by repeat (first | (with_reducible first | exact HB.out | apply below_alloc | apply pw_below_drewN | apply below_drew1 | refine below_set ?_ GE283.out) | exact HB.out))) : w.heap.size ≤ gb290)); have n5_ := Aside0.mk ((by rw [hg]; exact (below_size (by repeat (first | (with_reducible first | exact HB.out | apply below_alloc | apply pw_below_drewN | apply below_drew1 | refine below_set ?_ GE283.out) | exact HB.out))) : w.heap.size ≤ gb290)); have n6_ := Aside0.mk ((by rw [hg]; exact Nat.ne_of_lt (blk_lt (g := gb283) (o := .cells #[.int .i64 a0_0, .slice (some ad289) l0_1.length c0_1] 26 (0, 0)) (by (with_reducible repeat (first | refine blk_drewN ?_ _ | refine blk_drew ?_ | refine blk_alloc ?_ _)); exact BK283.out)) : gb283 ≠ gb290)); have n7_ := Aside0.mk ((by rw [hg]; exact Nat.ne_of_gt (blk_lt (g := gb283) (o := .cells #[.int .i64 a0_0, .slice (some ad289) l0_1.length c0_1] 26 (0, 0)) (by (with_reducible repeat (first | refine blk_drewN ?_ _ | refine blk_drew ?_ | refine blk_alloc ?_ _)); exact BK283.out)) : gb290 ≠ gb283)); clear HO_6; clear BK283; clear HB; have HO_6 := n0_; have BK283 := n1_; have HB := n2_; have BK290 := n3_; have GW290 := n4_; have GE290 := n5_; have NB283_290 := n6_; have NB290_283 := n7_; clear n0_ n1_ n2_ n3_ n4_ n5_ n6_ n7_; clear hb hbox hg; have hnb28 := NB290_283.out; have hnc28 := NB283_290.out; have hcz29_0 : w27.cell? ⟨gb290, 0, none⟩ = some (.int .i64 0) := (blk_cell BK290.out 0).trans rfl; have hcz29_1 : w27.cell? ⟨gb290, 1, none⟩ = some (.int .i64 0) := (blk_cell BK290.out 1).trans rfl; have hcz29_2 : w27.cell? ⟨gb290, 2, none⟩ = some (.int .i64 0) := (blk_cell BK290.out 2).trans rfl; have hfz29_0 := blk_frozen BK290.out 0; have hfz29_1 := blk_frozen BK290.out 1; have hfz29_2 := blk_frozen BK290.out 2) | ((with_reducible refine gate_store (t := 39) (p := 8) rfl ?_); (try (rw [drewN_self w27]; generalize hq_ : World.drewN w27 _ = w27; have n0_ := Aside0.mk (Kd.S_at hq_ HO_6.out); have n1_ := Aside0.mk (blk_at hq_ BK283.out); have n2_ := Aside0.mk (blk_at hq_ BK290.out); have n3_ := Aside0.mk (below_at hq_ HB.out); clear hq_ HO_6 BK283 BK290 HB; have HO_6 := n0_; have BK283 := n1_; have BK290 := n2_; have HB := n3_; clear n0_ n1_ n2_ n3_)); refine store_event (t := 39) (p := 8) (v := ?vo_w30) (w1 := (((w27.setCell ⟨gb290, 0, none⟩ (.int .i64 ((rd_T39 l0_1 a1).f0))).setCell ⟨gb290, 1, none⟩ (.int .i64 ((rd_T39 l0_1 a1).f1))).setCell ⟨gb290, 2, none⟩ (.int .i64 ((rd_T39 l0_1 a1).f2)))) ?hg ?ho ?hn ?hr ?_; (case ho => rfl); (case hg => rfl); (case hn => rfl); (case hr => first | (go_simp; done) | (go_simp; rfl)); intro w30 hw; have n0_ : Aside0 (Kd.S (Kd.slice 2 (Kd.int .i64)) 28 w30 w.heap.size (fun _ => True) v285 t284) := ⟨(by rw [hw]; exact (by (with_reducible repeat (first | apply Kd.S_alloc | apply Kd.S_drewN | apply Kd.S_drew)); exact Kd.S_mono (Kd.S_far (p := ⟨gb290, 2, none⟩) (Kd.S_far (p := ⟨gb290, 1, none⟩) (Kd.S_far (p := ⟨gb290, 0, none⟩) (Kd.S_types HO_6.out BK290.out (by decide)) (fun _ hk => hk.2) (.int .i64 ((rd_T39 l0_1 a1).f0))) (fun _ hk => hk.2) (.int .i64 ((rd_T39 l0_1 a1).f1))) (fun _ hk => hk.2) (.int .i64 ((rd_T39 l0_1 a1).f2))) (fun _ hk => trivial)))⟩; have n1_ : Aside0 (w30.heap[gb283]? = some (.cells #[.int .i64 a0_0, .slice (some ad289) l0_1.length c0_1] 26 (0, 0))) := ⟨(by rw [hw]; exact (by (with_reducible repeat (first | refine blk_drewN ?_ _ | refine blk_drew ?_ | refine blk_alloc ?_ _)); refine blk_far ?_ NB283_290.out _; (with_reducible repeat (first | refine blk_drewN ?_ _ | refine blk_drew ?_ | refine blk_alloc ?_ _)); refine blk_far ?_ NB283_290.out _; (with_reducible repeat (first | refine blk_drewN ?_ _ | refine blk_drew ?_ | refine blk_alloc ?_ _)); refine blk_far ?_ NB283_290.out _; (with_reducible repeat (first | refine blk_drewN ?_ _ | refine blk_drew ?_ | refine blk_alloc ?_ _)); exact BK283.out))⟩; have n2_ : Aside0 (w30.heap[gb290]? = some (.cells #[.int .i64 ((rd_T39 l0_1 a1).f0), .int .i64 ((rd_T39 l0_1 a1).f1), .int .i64 ((rd_T39 l0_1 a1).f2)] 39 (0, 0))) := ⟨(by rw [hw]; exact (by (with_reducible repeat (first | refine blk_drewN ?_ _ | refine blk_drew ?_ | refine blk_alloc ?_ _)); refine blk_put (cs := #[.int .i64 ((rd_T39 l0_1 a1).f0), .int .i64 ((rd_T39 l0_1 a1).f1), .int .i64 0]) ?_ 2 _ rfl; (with_reducible repeat (first | refine blk_drewN ?_ _ | refine blk_drew ?_ | refine blk_alloc ?_ _)); refine blk_put (cs := #[.int .i64 ((rd_T39 l0_1 a1).f0), .int .i64 0, .int .i64 0]) ?_ 1 _ rfl; (with_reducible repeat (first | refine blk_drewN ?_ _ | refine blk_drew ?_ | refine blk_alloc ?_ _)); refine blk_put (cs := #[.int .i64 0, .int .i64 0, .int .i64 0]) ?_ 0 _ rfl; (with_reducible repeat (first | refine blk_drewN ?_ _ | refine blk_drew ?_ | refine blk_alloc ?_ _)); exact BK290.out))⟩; have n3_ : Aside0 (Below w.heap.size w w30) := ⟨(by rw [hw]; exact (by repeat (first | (with_reducible first | exact HB.out | apply below_alloc | apply pw_below_drewN | apply below_drew1 | refine below_set ?_ GE283.out | refine below_set ?_ GE290.out) | exact HB.out)))⟩; clear hw; clear HO_6; clear BK283; clear BK290; clear HB; have HO_6 := n0_; have BK283 := n1_; have BK290 := n2_; have HB := n3_; clear n0_ n1_ n2_ n3_; have hcz31_0 : w30.cell? ⟨gb290, 0, none⟩ = some (.int .i64 ((rd_T39 l0_1 a1).f0)) := (blk_cell BK290.out 0).trans rfl; have hcz31_1 : w30.cell? ⟨gb290, 1, none⟩ = some (.int .i64 ((rd_T39 l0_1 a1).f1)) := (blk_cell BK290.out 1).trans rfl; have hcz31_2 : w30.cell? ⟨gb290, 2, none⟩ = some (.int .i64 ((rd_T39 l0_1 a1).f2)) := (blk_cell BK290.out 2).trans rfl; have hfz31_0 := blk_frozen BK290.out 0; have hfz31_1 := blk_frozen BK290.out 1; have hfz31_2 := blk_frozen BK290.out 2; obtain ⟨Ao32, co32, eo32⟩ := Kd.S_slice HO_6.out; subst eo32; have p291 : 0 ≤ (((rd_T39 l0_1 a1).f1) : Int) := of_decide_eq_true (by with_reducible assumption); have q291 : ((rd_T39 l0_1 a1).f1) < (t284.length : Int) := of_decide_eq_true (by with_reducible assumption); obtain ⟨ad291, A291_0, c291_0, e291, hx291_0, hl291_0, hi291_0⟩ := at_L6 (Kd.S_reads' HO_6.out).2.2 ((rd_T39 l0_1 a1).f1) p291 q291; cases e291; obtain ⟨ce291, hce291, hMe291, hcc291⟩ := Kd.S_get HO_6.out [] ((rd_T39 l0_1 a1).f1) p291 (by first | exact q291 | exact of_decide_eq_true (by with_reducible assumption) | (have e_ := (Kd.S_reads' HO_6.out).1; omega)); obtain ⟨ve291_0, rfl, ge291_0⟩ := hMe291; have hv291_0 := hcc291 0 _ rfl; rw [Nat.add_zero, show ((Kd.slice 2 (Kd.int .i64))).sz = 1 from rfl, Nat.mul_one] at hv291_0; replace hv291_0 := Option.some.inj (hv291_0.symm.trans hx291_0); rw [hv291_0] at ge291_0; have HL291_0 := Aside0.mk (show Kd.R (Kd.int .i64) 2 _ _ _ _ (rd_L6 t284 ((rd_T39 l0_1 a1).f1)) from ge291_0); clear hv291_0 ge291_0; clear hcc291 hce291; have HR291_0 := Aside0.mk hi291_0; have HC291_0 := Aside0.mk hl291_0; clear hi291_0 hl291_0; replace p291 := eq_true p291; replace q291 := eq_true q291; have p292 : 0 ≤ (((rd_T39 l0_1 a1).f0) : Int) := of_decide_eq_true (by with_reducible assumption); have q292 : ((rd_T39 l0_1 a1).f0) < ((rd_L6 t284 ((rd_T39 l0_1 a1).f1)).length : Int) := of_decide_eq_true (by with_reducible assumption); obtain ⟨ad292, e292, hx292_0⟩ := Kd.at_int (by repeat (first | (with_reducible exact HR291_0.out) | (with_reducible refine Kd.C_alloc ?_ _) | (with_reducible refine Kd.C_drewN ?_ _) | (with_reducible refine Kd.C_drew ?_) | exact HR291_0.out)) ((rd_T39 l0_1 a1).f0) p292 q292; cases e292; replace p292 := eq_true p292; replace q292 := eq_true q292; have p293 : 0 ≤ (((rd_T39 l0_1 a1).f1) : Int) := of_decide_eq_true (by with_reducible assumption); have q293 : ((rd_T39 l0_1 a1).f1) < (t284.length : Int) := of_decide_eq_true (by with_reducible assumption); obtain ⟨ad293, A293_0, c293_0, e293, hx293_0, hl293_0, hi293_0⟩ := at_L6 (Kd.S_reads' HO_6.out).2.2 ((rd_T39 l0_1 a1).f1) p293 q293; obtain rfl : ad291 = ad293 := (by injection e293); obtain ⟨ce293, hce293, hMe293, hcc293⟩ := Kd.S_get HO_6.out [] ((rd_T39 l0_1 a1).f1) p293 (by first | exact q293 | exact of_decide_eq_true (by with_reducible assumption) | (have e_ := (Kd.S_reads' HO_6.out).1; omega)); obtain ⟨ve293_0, rfl, ge293_0⟩ := hMe293; have hv293_0 := hcc293 0 _ rfl; rw [Nat.add_zero, show ((Kd.slice 2 (Kd.int .i64))).sz = 1 from rfl, Nat.mul_one] at hv293_0; replace hv293_0 := Option.some.inj (hv293_0.symm.trans hx293_0); rw [hv293_0] at ge293_0; have HL293_0 := Aside0.mk (show Kd.R (Kd.int .i64) 2 _ _ _ _ (rd_L6 t284 ((rd_T39 l0_1 a1).f1)) from ge293_0); clear hv293_0 ge293_0; clear hcc293 hce293; have HR293_0 := Aside0.mk hi293_0; have HC293_0 := Aside0.mk hl293_0; clear hi293_0 hl293_0; replace p293 := eq_true p293; replace q293 := eq_true q293; have ea_ := Option.some.inj (hx291_0.symm.trans hx293_0); injection ea_ with ea_ en_ ec_; subst ea_; subst ec_; clear en_; have p294 : 0 ≤ (((rd_T39 l0_1 a1).f0) : Int) := of_decide_eq_true (by with_reducible assumption); have q294 : ((rd_T39 l0_1 a1).f0) < ((rd_L6 t284 ((rd_T39 l0_1 a1).f1)).length : Int) := of_decide_eq_true (by with_reducible assumption); obtain ⟨ad294, e294, hx294_0⟩ := Kd.at_int (by repeat (first | (with_reducible exact HR293_0.out) | (with_reducible refine Kd.C_alloc ?_ _) | (with_reducible refine Kd.C_drewN ?_ _) | (with_reducible refine Kd.C_drew ?_) | exact HR293_0.out)) ((rd_T39 l0_1 a1).f0) p294 q294; cases e294; replace p294 := eq_true p294; replace q294 := eq_true q294)); try go_wp2_with (first | ((with_reducible refine gate_dst (N := 8) rfl ?_); (try (refine gate_guard (by rfl) ?_; dsimp only)); refine box_event ?hg (N := 8) ?hd (cs := #[.int .i64 0, .int .i64 0, .int .i64 0]) (t := 39) ?hr ?_; (case hd => rfl); (case hg => rfl); (case hr => first | (go_simp; done) | (go_simp; rfl)); intro gb290 hg w27 hbox hb; have n0_ := Aside0.mk (Kd.S_below (by (with_reducible repeat (first | apply Kd.S_alloc | apply Kd.S_drewN | apply Kd.S_drew)); exact HO_6.out) hb); have n1_ := Aside0.mk (blk_below (g := gb283) (o := .cells #[.int .i64 a0_0, .slice (some ad289) l0_1.length c0_1] 26 (0, 0)) (by (with_reducible repeat (first | refine blk_drewN ?_ _ | refine blk_drew ?_ | refine blk_alloc ?_ _)); exact BK283.out) hb); have n2_ := Aside0.mk (below_step (by repeat (first | (with_reducible first | exact HB.out | apply below_alloc | apply pw_below_drewN | apply below_drew1 | refine below_set ?_ GE283.out) | exact HB.out)) hb); have n3_ := Aside0.mk (hbox); have n4_ := Aside0.mk ((by rw [hg]; exact (below_size (by repeat (first | (with_reducible first | exact HB.out | apply below_alloc | apply pw_below_drewN | apply below_drew1 | refine below_set ?_ GE283.out) | exact HB.out))) : w.heap.size ≤ gb290)); have n5_ := Aside0.mk ((by rw [hg]; exact (below_size (by repeat (first | (with_reducible first | exact HB.out | apply below_alloc | apply pw_below_drewN | apply below_drew1 | refine below_set ?_ GE283.out) | exact HB.out))) : w.heap.size ≤ gb290)); have n6_ := Aside0.mk ((by rw [hg]; exact Nat.ne_of_lt (blk_lt (g := gb283) (o := .cells #[.int .i64 a0_0, .slice (some ad289) l0_1.length c0_1] 26 (0, 0)) (by (with_reducible repeat (first | refine blk_drewN ?_ _ | refine blk_drew ?_ | refine blk_alloc ?_ _)); exact BK283.out)) : gb283 ≠ gb290)); have n7_ := Aside0.mk ((by rw [hg]; exact Nat.ne_of_gt (blk_lt (g := gb283) (o := .cells #[.int .i64 a0_0, .slice (some ad289) l0_1.length c0_1] 26 (0, 0)) (by (with_reducible repeat (first | refine blk_drewN ?_ _ | refine blk_drew ?_ | refine blk_alloc ?_ _)); exact BK283.out)) : gb290 ≠ gb283)); clear HO_6; clear BK283; clear HB; have HO_6 := n0_; have BK283 := n1_; have HB := n2_; have BK290 := n3_; have GW290 := n4_; have GE290 := n5_; have NB283_290 := n6_; have NB290_283 := n7_; clear n0_ n1_ n2_ n3_ n4_ n5_ n6_ n7_; clear hb hbox hg; have hnb28 := NB290_283.out; have hnc28 := NB283_290.out; have hcz29_0 : w27.cell? ⟨gb290, 0, none⟩ = some (.int .i64 0) := (blk_cell BK290.out 0).trans rfl; have hcz29_1 : w27.cell? ⟨gb290, 1, none⟩ = some (.int .i64 0) := (blk_cell BK290.out 1).trans rfl; have hcz29_2 : w27.cell? ⟨gb290, 2, none⟩ = some (.int .i64 0) := (blk_cell BK290.out 2).trans rfl; have hfz29_0 := blk_frozen BK290.out 0; have hfz29_1 := blk_frozen BK290.out 1; have hfz29_2 := blk_frozen BK290.out 2) | ((with_reducible refine gate_store (t := 39) (p := 8) rfl ?_); (try (rw [drewN_self w27]; generalize hq_ : World.drewN w27 _ = w27; have n0_ := Aside0.mk (Kd.S_at hq_ HO_6.out); have n1_ := Aside0.mk (blk_at hq_ BK283.out); have n2_ := Aside0.mk (blk_at hq_ BK290.out); have n3_ := Aside0.mk (below_at hq_ HB.out); clear hq_ HO_6 BK283 BK290 HB; have HO_6 := n0_; have BK283 := n1_; have BK290 := n2_; have HB := n3_; clear n0_ n1_ n2_ n3_)); refine store_event (t := 39) (p := 8) (v := ?vo_w30) (w1 := (((w27.setCell ⟨gb290, 0, none⟩ (.int .i64 ((rd_T39 l0_1 a1).f0))).setCell ⟨gb290, 1, none⟩ (.int .i64 ((rd_T39 l0_1 a1).f1))).setCell ⟨gb290, 2, none⟩ (.int .i64 ((rd_T39 l0_1 a1).f2)))) ?hg ?ho ?hn ?hr ?_; (case ho => rfl); (case hg => rfl); (case hn => rfl); (case hr => first | (go_simp; done) | (go_simp; rfl)); intro w30 hw; have n0_ : Aside0 (Kd.S (Kd.slice 2 (Kd.int .i64)) 28 w30 w.heap.size (fun _ => True) v285 t284) := ⟨(by rw [hw]; exact (by (with_reducible repeat (first | apply Kd.S_alloc | apply Kd.S_drewN | apply Kd.S_drew)); exact Kd.S_mono (Kd.S_far (p := ⟨gb290, 2, none⟩) (Kd.S_far (p := ⟨gb290, 1, none⟩) (Kd.S_far (p := ⟨gb290, 0, none⟩) (Kd.S_types HO_6.out BK290.out (by decide)) (fun _ hk => hk.2) (.int .i64 ((rd_T39 l0_1 a1).f0))) (fun _ hk => hk.2) (.int .i64 ((rd_T39 l0_1 a1).f1))) (fun _ hk => hk.2) (.int .i64 ((rd_T39 l0_1 a1).f2))) (fun _ hk => trivial)))⟩; have n1_ : Aside0 (w30.heap[gb283]? = some (.cells #[.int .i64 a0_0, .slice (some ad289) l0_1.length c0_1] 26 (0, 0))) := ⟨(by rw [hw]; exact (by (with_reducible repeat (first | refine blk_drewN ?_ _ | refine blk_drew ?_ | refine blk_alloc ?_ _)); refine blk_far ?_ NB283_290.out _; (with_reducible repeat (first | refine blk_drewN ?_ _ | refine blk_drew ?_ | refine blk_alloc ?_ _)); refine blk_far ?_ NB283_290.out _; (with_reducible repeat (first | refine blk_drewN ?_ _ | refine blk_drew ?_ | refine blk_alloc ?_ _)); refine blk_far ?_ NB283_290.out _; (with_reducible repeat (first | refine blk_drewN ?_ _ | refine blk_drew ?_ | refine blk_alloc ?_ _)); exact BK283.out))⟩; have n2_ : Aside0 (w30.heap[gb290]? = some (.cells #[.int .i64 ((rd_T39 l0_1 a1).f0), .int .i64 ((rd_T39 l0_1 a1).f1), .int .i64 ((rd_T39 l0_1 a1).f2)] 39 (0, 0))) := ⟨(by rw [hw]; exact (by (with_reducible repeat (first | refine blk_drewN ?_ _ | refine blk_drew ?_ | refine blk_alloc ?_ _)); refine blk_put (cs := #[.int .i64 ((rd_T39 l0_1 a1).f0), .int .i64 ((rd_T39 l0_1 a1).f1), .int .i64 0]) ?_ 2 _ rfl; (with_reducible repeat (first | refine blk_drewN ?_ _ | refine blk_drew ?_ | refine blk_alloc ?_ _)); refine blk_put (cs := #[.int .i64 ((rd_T39 l0_1 a1).f0), .int .i64 0, .int .i64 0]) ?_ 1 _ rfl; (with_reducible repeat (first | refine blk_drewN ?_ _ | refine blk_drew ?_ | refine blk_alloc ?_ _)); refine blk_put (cs := #[.int .i64 0, .int .i64 0, .int .i64 0]) ?_ 0 _ rfl; (with_reducible repeat (first | refine blk_drewN ?_ _ | refine blk_drew ?_ | refine blk_alloc ?_ _)); exact BK290.out))⟩; have n3_ : Aside0 (Below w.heap.size w w30) := ⟨(by rw [hw]; exact (by repeat (first | (with_reducible first | exact HB.out | apply below_alloc | apply pw_below_drewN | apply below_drew1 | refine below_set ?_ GE283.out | refine below_set ?_ GE290.out) | exact HB.out)))⟩; clear hw; clear HO_6; clear BK283; clear BK290; clear HB; have HO_6 := n0_; have BK283 := n1_; have BK290 := n2_; have HB := n3_; clear n0_ n1_ n2_ n3_; have hcz31_0 : w30.cell? ⟨gb290, 0, none⟩ = some (.int .i64 ((rd_T39 l0_1 a1).f0)) := (blk_cell BK290.out 0).trans rfl; have hcz31_1 : w30.cell? ⟨gb290, 1, none⟩ = some (.int .i64 ((rd_T39 l0_1 a1).f1)) := (blk_cell BK290.out 1).trans rfl; have hcz31_2 : w30.cell? ⟨gb290, 2, none⟩ = some (.int .i64 ((rd_T39 l0_1 a1).f2)) := (blk_cell BK290.out 2).trans rfl; have hfz31_0 := blk_frozen BK290.out 0; have hfz31_1 := blk_frozen BK290.out 1; have hfz31_2 := blk_frozen BK290.out 2; obtain ⟨Ao32, co32, eo32⟩ := Kd.S_slice HO_6.out; subst eo32; have p291 : 0 ≤ (((rd_T39 l0_1 a1).f1) : Int) := of_decide_eq_true (by with_reducible assumption); have q291 : ((rd_T39 l0_1 a1).f1) < (t284.length : Int) := of_decide_eq_true (by with_reducible assumption); obtain ⟨ad291, A291_0, c291_0, e291, hx291_0, hl291_0, hi291_0⟩ := at_L6 (Kd.S_reads' HO_6.out).2.2 ((rd_T39 l0_1 a1).f1) p291 q291; cases e291; obtain ⟨ce291, hce291, hMe291, hcc291⟩ := Kd.S_get HO_6.out [] ((rd_T39 l0_1 a1).f1) p291 (by first | exact q291 | exact of_decide_eq_true (by with_reducible assumption) | (have e_ := (Kd.S_reads' HO_6.out).1; omega)); obtain ⟨ve291_0, rfl, ge291_0⟩ := hMe291; have hv291_0 := hcc291 0 _ rfl; rw [Nat.add_zero, show ((Kd.slice 2 (Kd.int .i64))).sz = 1 from rfl, Nat.mul_one] at hv291_0; replace hv291_0 := Option.some.inj (hv291_0.symm.trans hx291_0); rw [hv291_0] at ge291_0; have HL291_0 := Aside0.mk (show Kd.R (Kd.int .i64) 2 _ _ _ _ (rd_L6 t284 ((rd_T39 l0_1 a1).f1)) from ge291_0); clear hv291_0 ge291_0; clear hcc291 hce291; have HR291_0 := Aside0.mk hi291_0; have HC291_0 := Aside0.mk hl291_0; clear hi291_0 hl291_0; replace p291 := eq_true p291; replace q291 := eq_true q291; have p292 : 0 ≤ (((rd_T39 l0_1 a1).f0) : Int) := of_decide_eq_true (by with_reducible assumption); have q292 : ((rd_T39 l0_1 a1).f0) < ((rd_L6 t284 ((rd_T39 l0_1 a1).f1)).length : Int) := of_decide_eq_true (by with_reducible assumption); obtain ⟨ad292, e292, hx292_0⟩ := Kd.at_int (by repeat (first | (with_reducible exact HR291_0.out) | (with_reducible refine Kd.C_alloc ?_ _) | (with_reducible refine Kd.C_drewN ?_ _) | (with_reducible refine Kd.C_drew ?_) | exact HR291_0.out)) ((rd_T39 l0_1 a1).f0) p292 q292; cases e292; replace p292 := eq_true p292; replace q292 := eq_true q292; have p293 : 0 ≤ (((rd_T39 l0_1 a1).f1) : Int) := of_decide_eq_true (by with_reducible assumption); have q293 : ((rd_T39 l0_1 a1).f1) < (t284.length : Int) := of_decide_eq_true (by with_reducible assumption); obtain ⟨ad293, A293_0, c293_0, e293, hx293_0, hl293_0, hi293_0⟩ := at_L6 (Kd.S_reads' HO_6.out).2.2 ((rd_T39 l0_1 a1).f1) p293 q293; obtain rfl : ad291 = ad293 := (by injection e293); obtain ⟨ce293, hce293, hMe293, hcc293⟩ := Kd.S_get HO_6.out [] ((rd_T39 l0_1 a1).f1) p293 (by first | exact q293 | exact of_decide_eq_true (by with_reducible assumption) | (have e_ := (Kd.S_reads' HO_6.out).1; omega)); obtain ⟨ve293_0, rfl, ge293_0⟩ := hMe293; have hv293_0 := hcc293 0 _ rfl; rw [Nat.add_zero, show ((Kd.slice 2 (Kd.int .i64))).sz = 1 from rfl, Nat.mul_one] at hv293_0; replace hv293_0 := Option.some.inj (hv293_0.symm.trans hx293_0); rw [hv293_0] at ge293_0; have HL293_0 := Aside0.mk (show Kd.R (Kd.int .i64) 2 _ _ _ _ (rd_L6 t284 ((rd_T39 l0_1 a1).f1)) from ge293_0); clear hv293_0 ge293_0; clear hcc293 hce293; have HR293_0 := Aside0.mk hi293_0; have HC293_0 := Aside0.mk hl293_0; clear hi293_0 hl293_0; replace p293 := eq_true p293; replace q293 := eq_true q293; have ea_ := Option.some.inj (hx291_0.symm.trans hx293_0); injection ea_ with ea_ en_ ec_; subst ea_; subst ec_; clear en_; have p294 : 0 ≤ (((rd_T39 l0_1 a1).f0) : Int) := of_decide_eq_true (by with_reducible assumption); have q294 : ((rd_T39 l0_1 a1).f0) < ((rd_L6 t284 ((rd_T39 l0_1 a1).f1)).length : Int) := of_decide_eq_true (by with_reducible assumption); obtain ⟨ad294, e294, hx294_0⟩ := Kd.at_int (by repeat (first | (with_reducible exact HR293_0.out) | (with_reducible refine Kd.C_alloc ?_ _) | (with_reducible refine Kd.C_drewN ?_ _) | (with_reducible refine Kd.C_drew ?_) | exact HR293_0.out)) ((rd_T39 l0_1 a1).f0) p294 q294; cases e294; replace p294 := eq_true p294; replace q294 := eq_true q294)))
           go_ret2
           exact ⟨by first | rfl | (simp [errW_none, errW_some] <;> rfl) | (simp [*, errW_none, errW_some] <;> rfl), by repeat (first | (with_reducible first | exact HB.out | apply below_alloc | apply pw_below_drewN | apply below_drew1 | refine below_set ?_ GE283.out | refine below_set ?_ GE290.out) | exact HB.out)⟩
         ·rw [if_neg c17] at H
          exact absurd H (by simp)
        ·rw [if_neg c16] at H
         exact absurd H (by simp)
       ·rw [if_neg c15] at H
        exact absurd H (by simp)
      ·rw [if_neg c14] at H
       exact absurd H (by simp)
     ·rw [if_neg c13] at H
      exact absurd H (by simp)
    ·rw [if_neg c12] at H
     exact absurd H (by simp)

end Go.Proofs.YtbgokpobaemibaaDoor.Pa

namespace Go.Proofs.YtbgokpobaemibaaDoor.Pa
open Go.RowKit Go.Proofs.YtbgokpobaemibaaDoorW.PrintWords Go.Proofs.YtbgokpobaemibaaDoorW.PrintLast Go.Proofs.YtbgokpobaemibaaDoorW.PrintMore
attribute [local go_sem] max2_int min2_int max_two min_two max_three min_three max_four min_four   -- for this text's walks alone
set_option linter.unusedVariables false
set_option linter.unusedSimpArgs false

/-! ### AUX needF -/
/-- The bounds of which the numbers are listed. -/
def fewOf (bs : List S39) (own : List Int) : List S39 := own.map fun i => rd_T39 bs i
/-- None of the few follows from the others: from the i-th on, d of them. -/
def restLoop (k : Nat) (n : Int) (few : List S39) : Nat → Nat → Option Bool
 | 0, _ => some true
 | d + 1, i => (impl_FollowsFrom.f k n (few.eraseIdx i) (rd_T39 few (i : Int)).f0 (rd_T39 few (i : Int)).f1 (rd_T39 few (i : Int)).f2).bind fun q => if q = true then none else restLoop k n few d (i + 1)
/-- A bound made less. -/
def bentOf (bs : List S39) (a : Int) (room b : Int) : List S39 := bs.set a.toNat ⟨(rd_T39 bs a).f0, (rd_T39 bs a).f1, if room = 1000000 then -1000 else wrap64 ((rd_T39 bs a).f2 - wrap64 (room + b))⟩
def bentStep (k : Nat) (n : Int) (bs : List S39) (a room b : Int) (z : Bool) : Option Bool :=
 (impl_TightestBounds.f k n (bentOf bs a room b)).bind fun t => (impl_ValidDiagram.f n (bentOf bs a room b)).bind fun v => if v = true then if t.2 = (decide (room = 1000000) || z) then some true else none else some true
def needRest (k : Nat) (l1 : List Int) (n : Int) (bs : List S39) : Option Bool :=
 if bs.length = 0 then some true else (laws_r8At.f l1 0 (bs.length : Int)).bind fun a => if 0 ≤ a ∧ a < (bs.length : Int) then (impl_RoomOf.f k n bs a).bind fun rm => if rm.2 = true ∧ 0 ≤ rm.1 then
  (bentStep k n bs a rm.1 0 true).bind fun _ => bentStep k n bs a rm.1 1 false
  else none else none
def needF (k : Nat) (l0 l1 : List Int) : Option Bool :=
 (laws_r8Long.f l0 l1).bind fun t => if t = true then some true else
 (spec_R8Diagram.f k l0).bind fun d => (impl_NeededBounds.f k d.1 d.2).bind fun nd => (impl_TightestBounds.f k d.1 d.2).bind fun al => (impl_DiagramText.f k d.1 d.2).bind fun tx => (impl_ReadDiagram.f tx.1).bind fun bk =>
 if nd.2 = al.2 ∧ tx.2 = true ∧ bk.2.2 = true ∧ bk.1 = d.1 ∧ bk.2.1.length = d.2.length ∧ d.2.length ≤ 50 then
  if nd.2 = true then
   if (∀ x ∈ nd.1, 0 ≤ x ∧ x < (d.2.length : Int)) ∧ nd.1.length ≤ 50 then
    (impl_TightestBounds.f k d.1 (fewOf d.2 nd.1)).bind fun tg => if tg.2 = true then (laws_r8Rows.f k tg.1 al.1).bind fun eq => if eq = true then (restLoop k d.1 (fewOf d.2 nd.1) nd.1.length 0).bind fun _ => needRest k l1 d.1 d.2 else none else none
   else none
  else some true
 else none

end Go.Proofs.YtbgokpobaemibaaDoor.Pa

/- What the program's functions on diagrams answer: what follows, the room, the needed bounds, a diagram's text; and a bound made less. -/
namespace Go.Proofs.YtbgokpobaemibaaDoor.Pure
open Go.RowKit Go.Proofs.YtbgokpobaemibaaDoor.Pa Go.Proofs.YtbgokpobaemibaaDoorW.PrintWords Go.Proofs.YtbgokpobaemibaaDoorW.PrintLast Go.Proofs.YtbgokpobaemibaaDoorW.PrintMore
set_option linter.unusedVariables false
set_option linter.unusedSimpArgs false

theorem implTB {m : Nat} (h0 : 1 ≤ m) (hn : m ≤ 10) (bs : List S39) (hl : bs.length ≤ 24) (hb : ∀ b ∈ bs, Bd m b) (hok : diagramOk (m : Int) bs = true) : ∃ K, ∀ k, K ≤ k →
  impl_TightestBounds.f k (m : Int) bs = some (if feasible m bs [] = true then (tight m bs [], true) else ([], false)) := by
 obtain ⟨K, hK⟩ := impl_tight h0 hn bs hl hb
 refine ⟨K, fun k hk => ?_⟩
 unfold impl_TightestBounds.f impl_ValidDiagram.f
 simp only [Option.bind_some]
 rw [if_pos hok, hK k hk]
 rfl
theorem implTB_no {n : Int} {bs : List S39} (hok : diagramOk n bs = false) (k : Nat) : impl_TightestBounds.f k n bs = some ([], false) := by
 unfold impl_TightestBounds.f impl_ValidDiagram.f
 simp only [Option.bind_some]
 rw [if_neg (by rw [hok]; simp)]
theorem T_row {m : Nat} {T : List (List Int)} (h : Sq m T) {a : Int} (h0 : 0 ≤ a) (h1 : a < (m : Int)) : (T.length : Int) = (m : Int) ∧ ((rd_L6 T a).length : Int) = (m : Int) := by
 have := row_len h (i := a.toNat) (by omega)
 rw [show ((a.toNat : Nat) : Int) = a by omega] at this
 exact ⟨by rw [h.1], by rw [this]⟩
/-- A diagram in bounds. -/
structure Dg (m : Nat) (bs : List S39) : Prop where
 h0 : 1 ≤ m
 hn : m ≤ 10
 hl : bs.length ≤ 24
 ok : diagramOk (m : Int) bs = true
 hb : ∀ b ∈ bs, Bd m b
 lim : ∀ b ∈ bs, Lim b
theorem ok_bound {m : Int} {bs : List S39} (h : diagramOk m bs = true) : ∀ b ∈ bs, boundOk m b = true := by
 unfold diagramOk at h
 simp only [Bool.and_eq_true, decide_eq_true_eq, List.all_eq_true] at h
 exact h.2
theorem bound_lim {m : Int} {b : S39} (h : boundOk m b = true) : Lim b := by
 unfold boundOk at h
 simp only [Bool.and_eq_true, decide_eq_true_eq] at h
 unfold Lim
 omega
theorem Dg.of_ok {n : Int} {bs : List S39} (h : diagramOk n bs = true) : ∃ m : Nat, n = (m : Int) ∧ Dg m bs := by
 obtain ⟨m, rfl, h0, hn, hl, hb⟩ := dia_ok h
 exact ⟨m, rfl, h0, hn, hl, h, hb, fun b hm => bound_lim (ok_bound h b hm)⟩
theorem Dg.sub {m : Nat} {bs cs : List S39} (h : Dg m bs) (hl : cs.length ≤ 24) (hs : ∀ b ∈ cs, b ∈ bs) : Dg m cs := by
 refine ⟨h.h0, h.hn, hl, ?_, fun b hm => h.hb b (hs b hm), fun b hm => h.lim b (hs b hm)⟩
 have := h.ok
 unfold diagramOk at this ⊢
 simp only [Bool.and_eq_true, decide_eq_true_eq, List.all_eq_true] at this ⊢
 exact ⟨⟨this.1.1, hl⟩, fun b hm => this.2 b (hs b hm)⟩
theorem rdB_get' {l : List S39} {i : Nat} (h : i < l.length) : rd_T39 l (i : Int) = l[i] := by
 unfold rd_T39
 rw [List.getD_eq_getElem?_getD, Int.toNat_natCast, List.getElem?_eq_getElem h]
 rfl
/-- Whether a bound follows. -/
theorem follow_val {m : Nat} {bs : List S39} (h : Dg m bs) (hf : feasible m bs [] = true) (b : S39) (hB : boundOk (m : Int) b = true) : ∃ K, ∀ k, K ≤ k → impl_FollowsFrom.f k (m : Int) bs b.f0 b.f1 b.f2 = some (decide (V (tight m bs []) b.f0.toNat b.f1.toNat ≤ b.f2)) := by
 obtain ⟨K, hK⟩ := implTB h.h0 h.hn bs h.hl h.hb h.ok
 have hn := h.hn
 have h0 := h.h0
 have hB0 := hB
 unfold boundOk at hB0
 simp only [Bool.and_eq_true, decide_eq_true_eq] at hB0
 obtain ⟨⟨⟨⟨a0, a1⟩, a2, a3⟩, _⟩, _⟩ := hB0
 obtain ⟨t1, t2⟩ := T_row (tight_Sq h.hb []) (a := b.f0) (by omega) (by omega)
 refine ⟨K, fun k hk => ?_⟩
 unfold impl_FollowsFrom.f
 rw [hK k hk, if_pos hf]
 simp only [Option.bind_some, if_true]
 rw [isBound_tells _ _ _ _ (by omega) (by omega), hB]
 simp only [Option.bind_some, if_true]
 rw [if_pos (by omega), if_pos (by omega), if_pos (by omega), if_pos (by omega)]
 unfold V
 rw [show ((b.f0.toNat : Nat) : Int) = b.f0 by omega, show ((b.f1.toNat : Nat) : Int) = b.f1 by omega]
/-- The room of a bound. -/
theorem room_val {m : Nat} {bs : List S39} (h : Dg m bs) (hf : feasible m bs [] = true) {p : Nat} (hp : p < bs.length) : ∃ K, ∀ k, K ≤ k →
  impl_RoomOf.f k (m : Int) bs (p : Int) = some (if V (tight m bs []) bs[p].f1.toNat bs[p].f0.toNat = 1000000 then (1000000, true) else (wrap64 (bs[p].f2 + V (tight m bs []) bs[p].f1.toNat bs[p].f0.toNat), true)) := by
 obtain ⟨K, hK⟩ := implTB h.h0 h.hn bs h.hl h.hb h.ok
 have hl := h.hl
 obtain ⟨c0, c1, c2, c3, _⟩ := h.hb _ (List.getElem_mem hp)
 obtain ⟨t1, t2⟩ := T_row (tight_Sq h.hb []) (a := bs[p].f1) c2 c3
 have win : impl_within.f (p : Int) 0 (wrap64 ((bs.length : Int) - 1)) = some true := by
  unfold impl_within.f
  rw [wrap_id (by omega) (by omega), if_pos (by omega), decide_eq_true (by omega)]
 refine ⟨K + 1, fun k hk => ?_⟩
 obtain ⟨k, rfl⟩ : ∃ q, k = q + 1 := ⟨k - 1, by omega⟩
 unfold impl_RoomOf.f
 rw [hK (k + 1) (by omega), if_pos hf]
 simp only [Option.bind_some, if_true]
 rw [win]
 simp only [Option.bind_some, Bool.not_true, impl_RoomOf.j0, Bool.false_eq_true, if_false]
 rw [rdB_get' hp, if_pos (by omega), if_pos (by omega), if_pos c2, if_pos (by omega), if_pos c0, if_pos (by omega)]
 unfold V
 rw [show ((bs[p].f1.toNat : Nat) : Int) = bs[p].f1 by omega, show ((bs[p].f0.toNat : Nat) : Int) = bs[p].f0 by omega]
 split <;> rfl
section
variable {m : Nat} {bs : List S39}
theorem room_pos (h : Dg m bs) (hf : feasible m bs [] = true) {p : Nat} (hp : p < bs.length) (hv : V (tight m bs []) bs[p].f1.toNat bs[p].f0.toNat < 1000000) : 0 ≤ bs[p].f2 + V (tight m bs []) bs[p].f1.toNat bs[p].f0.toNat := by
 obtain ⟨i0, i1, _, _⟩ := Bd_in (h.hb _ (List.getElem_mem hp))
 have hm := bound_V h.hn h.hb (List.getElem_mem hp)
 have hlim := h.lim _ (List.getElem_mem hp)
 unfold Lim at hlim
 have h1 := tight_via h.hn h.hb h.lim hf i0 i1 i0 (by omega) hv
 have h2 := tight_self h.hn h.hb h.lim hf i0
 omega
/-- A bound made less by its room, or less than anything where it has no limit: there are still times. -/
theorem bent_yes (h : Dg m bs) (hf : feasible m bs [] = true) {p : Nat} (hp : p < bs.length) (mv : Int) (hg : Dg m (bs.set p ⟨bs[p].f0, bs[p].f1, mv⟩)) (hmv : V (tight m bs []) bs[p].f1.toNat bs[p].f0.toNat < 1000000 → -V (tight m bs []) bs[p].f1.toNat bs[p].f0.toNat ≤ mv) : feasible m (bs.set p ⟨bs[p].f0, bs[p].f1, mv⟩) [] = true := by
 obtain ⟨i0, i1, _, _⟩ := Bd_in (h.hb _ (List.getElem_mem hp))
 have hnew : (⟨bs[p].f0, bs[p].f1, mv⟩ : S39) ∈ bs.set p ⟨bs[p].f0, bs[p].f1, mv⟩ := List.mem_iff_getElem.2 ⟨p, by simpa using hp, by simp⟩
 have hlm := hg.lim _ hnew
 unfold Lim at hlm
 dsimp only at hlm
 have hs := tight_self h.hn h.hb h.lim hf i1
 refine timed_feasible h.hn hg.hb hg.lim (fun j => if V (tight m bs []) bs[p].f1.toNat j < 1000000 then V (tight m bs []) bs[p].f1.toNat j else 30000 + pot (tight m bs []) m j) (fun c hc => ?_)
 rcases List.mem_or_eq_of_mem_set hc with hc | rfl
 ·obtain ⟨j0, j1, _, _⟩ := Bd_in (h.hb c hc)
  have hv := bound_V h.hn h.hb hc
  have hlc := h.lim c hc
  unfold Lim at hlc
  have hk := pot_keeps h.hn h.hb h.lim hf c hc
  have q0 := pot_in h.hn h.hb h.lim hf _ j0
  by_cases e0 : V (tight m bs []) bs[p].f1.toNat c.f0.toNat < 1000000
  ·have h1 := tight_via h.hn h.hb h.lim hf i1 j0 j1 e0 (by omega)
   have h2 := tight_range h.hn h.hb h.lim hf i1 j0 e0
   rw [if_pos e0, if_pos (by omega)]
   omega
  ·rw [if_neg e0]
   by_cases e1 : V (tight m bs []) bs[p].f1.toNat c.f1.toNat < 1000000
   ·have h2 := tight_range h.hn h.hb h.lim hf i1 j1 e1
    rw [if_pos e1]
    omega
   ·rw [if_neg e1]
    omega
 ·dsimp only
  rw [if_pos (show V (tight m bs []) bs[p].f1.toNat bs[p].f1.toNat < 1000000 by omega)]
  by_cases e0 : V (tight m bs []) bs[p].f1.toNat bs[p].f0.toNat < 1000000
  ·rw [if_pos e0]
   have := hmv e0
   omega
  ·rw [if_neg e0]
   have q0 := pot_in h.hn h.hb h.lim hf _ i0
   omega
/-- .. and by more: there are none. -/
theorem bent_no (h : Dg m bs) (hf : feasible m bs [] = true) {p : Nat} (hp : p < bs.length) (mv : Int) (hg : Dg m (bs.set p ⟨bs[p].f0, bs[p].f1, mv⟩)) (hv : V (tight m bs []) bs[p].f1.toNat bs[p].f0.toNat < 1000000) (hmv : mv < -V (tight m bs []) bs[p].f1.toNat bs[p].f0.toNat) (hle : mv ≤ bs[p].f2) : feasible m (bs.set p ⟨bs[p].f0, bs[p].f1, mv⟩) [] = false := by
 cases hq : feasible m (bs.set p ⟨bs[p].f0, bs[p].f1, mv⟩) [] with
 | false => rfl
 | true =>
  exfalso
  obtain ⟨i0, i1, _, _⟩ := Bd_in (h.hb _ (List.getElem_mem hp))
  have hnew : (⟨bs[p].f0, bs[p].f1, mv⟩ : S39) ∈ bs.set p ⟨bs[p].f0, bs[p].f1, mv⟩ := List.mem_iff_getElem.2 ⟨p, by simpa using hp, by simp⟩
  have hk := pot_keeps h.hn hg.hb hg.lim hq
  have h1 := hk _ hnew
  dsimp only at h1
  have h2 := times_in h.hn h.hb h.lim hf (pot (tight m (bs.set p ⟨bs[p].f0, bs[p].f1, mv⟩) []) m) (fun c hc => by
   obtain ⟨q, hq', rfl⟩ := List.getElem_of_mem hc
   by_cases e : q = p
   ·subst e
    omega
   ·have := hk bs[q] (List.mem_iff_getElem.2 ⟨q, by simpa using hq', by rw [List.getElem_set_ne (Ne.symm e)]⟩)
    exact this) i1 i0 hv
  omega
end
theorem bentStep_tells {m : Nat} {bs : List S39} (h : Dg m bs) (hf : feasible m bs [] = true) {p : Nat} (hp : p < bs.length) (room : Int) (hr : room = if V (tight m bs []) bs[p].f1.toNat bs[p].f0.toNat = 1000000 then 1000000 else bs[p].f2 + V (tight m bs []) bs[p].f1.toNat bs[p].f0.toNat) (b : Int) (z : Bool) (hb : (b = 0 ∧ z = true) ∨ (b = 1 ∧ z = false)) :
  ∃ K, ∀ k, K ≤ k → bentStep k (m : Int) bs (p : Int) room b z = some true := by
 obtain ⟨i0, i1, _, _⟩ := Bd_in (h.hb _ (List.getElem_mem hp))
 have hle := tight_le (w := []) h.hb i1 i0
 have hlim := h.lim _ (List.getElem_mem hp)
 unfold Lim at hlim
 obtain ⟨mv, hmv⟩ : ∃ mv, mv = (if room = 1000000 then -1000 else wrap64 (bs[p].f2 - wrap64 (room + b))) := ⟨_, rfl⟩
 have hbent : bentOf bs (p : Int) room b = bs.set p ⟨bs[p].f0, bs[p].f1, mv⟩ := by
  unfold bentOf
  rw [rdB_get' hp, Int.toNat_natCast, hmv]
 have run : ∀ q : Bool, (diagramOk (m : Int) (bs.set p ⟨bs[p].f0, bs[p].f1, mv⟩) = true → feasible m (bs.set p ⟨bs[p].f0, bs[p].f1, mv⟩) [] = q ∧ q = (decide (room = 1000000) || z)) → ∃ K, ∀ k, K ≤ k → bentStep k (m : Int) bs (p : Int) room b z = some true := by
  intro q hq
  by_cases hok : diagramOk (m : Int) (bs.set p ⟨bs[p].f0, bs[p].f1, mv⟩) = true
  ·obtain ⟨m', e, hg⟩ := Dg.of_ok hok
   obtain rfl : m = m' := by omega
   obtain ⟨K, hK⟩ := implTB hg.h0 hg.hn _ hg.hl hg.hb hg.ok
   obtain ⟨q1, q2⟩ := hq hok
   refine ⟨K, fun k hk => ?_⟩
   unfold bentStep
   rw [hbent, hK k hk, Option.bind_some]
   unfold impl_ValidDiagram.f
   rw [Option.bind_some, hok, if_pos rfl, q1]
   cases q with
   | true => rw [if_pos rfl, ← q2, if_pos rfl]
   | false =>
    simp only [Bool.false_eq_true, if_false]
    rw [← q2]
    rfl
  ·refine ⟨0, fun k _ => ?_⟩
   unfold bentStep
   rw [hbent, implTB_no (by simpa using hok), Option.bind_some]
   unfold impl_ValidDiagram.f
   rw [Option.bind_some, if_neg hok]
 by_cases hv : V (tight m bs []) bs[p].f1.toNat bs[p].f0.toNat = 1000000
 ·rw [if_pos hv] at hr
  rw [if_pos hr] at hmv
  refine run true fun hok => ?_
  obtain ⟨m', e, hg⟩ := Dg.of_ok hok
  obtain rfl : m = m' := by omega
  exact ⟨bent_yes h hf hp mv hg (fun hh => by omega), by rw [decide_eq_true hr]; rfl⟩
 ·rw [if_neg hv] at hr
  have hvr := tight_range h.hn h.hb h.lim hf i1 i0 (by omega)
  have hpos := room_pos h hf hp (by omega)
  have hroom : ¬ room = 1000000 := by omega
  rw [if_neg hroom] at hmv
  rcases hb with ⟨rfl, rfl⟩ | ⟨rfl, rfl⟩
  ·have hmv2 : mv = -V (tight m bs []) bs[p].f1.toNat bs[p].f0.toNat := by
    rw [hmv, wrap_id (x := room + 0) (by omega) (by omega), wrap_id (by omega) (by omega)]
    omega
   refine run true fun hok => ?_
   obtain ⟨m', e, hg⟩ := Dg.of_ok hok
   obtain rfl : m = m' := by omega
   exact ⟨bent_yes h hf hp mv hg (fun hh => by omega), by simp⟩
  ·have hmv2 : mv = -V (tight m bs []) bs[p].f1.toNat bs[p].f0.toNat - 1 := by
    rw [hmv, wrap_id (x := room + 1) (by omega) (by omega), wrap_id (by omega) (by omega)]
    omega
   refine run false fun hok => ?_
   obtain ⟨m', e, hg⟩ := Dg.of_ok hok
   obtain rfl : m = m' := by omega
   exact ⟨bent_no h hf hp mv hg (by omega) (by omega) (by omega), by rw [decide_eq_false hroom]; rfl⟩
/-! ### the needed bounds -/
section
variable {m : Nat} {bs : List S39}
theorem few_mem {own : List Int} (h : ∀ y ∈ own, 0 ≤ y ∧ y < (bs.length : Int)) : ∀ b ∈ fewOf bs own, b ∈ bs := by
 intro b hb
 obtain ⟨y, hy, rfl⟩ := List.mem_map.1 hb
 have := h y hy
 have e := rdB_get' (l := bs) (i := y.toNat) (by omega)
 rw [show ((y.toNat : Nat) : Int) = y by omega] at e
 rw [e]
 exact List.getElem_mem _
theorem erase_mem {α : Type} {l : List α} {i : Nat} {x : α} (h : x ∈ l.eraseIdx i) : x ∈ l := List.mem_of_mem_eraseIdx h
/-- A smaller diagram lets more be: what did not follow does not follow. -/
theorem sub_ge (h : Dg m bs) (hf : feasible m bs [] = true) {cs ds : List S39} (hc : ∀ b ∈ cs, b ∈ bs) (hd : ∀ b ∈ ds, b ∈ cs) {i j : Nat} (hi : i < m) (hj : j < m) : V (tight m cs []) i j ≤ V (tight m ds []) i j := by
 have hb' : ∀ b ∈ cs, Bd m b := fun b q => h.hb b (hc b q)
 have hl' : ∀ b ∈ cs, Lim b := fun b q => h.lim b (hc b q)
 have hf' := sub_feasible h.hn h.hb h.lim hf cs hc
 have hf2 := sub_feasible h.hn h.hb h.lim hf ds (fun b q => hc b (hd b q))
 exact tight_mono h.hn (fun b q => hb' b (hd b q)) (fun b q => hl' b (hd b q)) hf2 cs hb' hl' hf' (fun b q => bound_V h.hn hb' (hd b q)) hi hj
theorem nb_tells (h : Dg m bs) (hf : feasible m bs [] = true) : ∀ (d x : Nat) (own : List Int), x + d = bs.length → (∀ y ∈ own, 0 ≤ y ∧ y < (x : Int)) → own.length ≤ x → tight m (fewOf bs own ++ bs.drop x) [] = tight m bs [] →
  (∀ p (hp : p < (fewOf bs own).length), ¬ V (tight m ((fewOf bs own).eraseIdx p ++ bs.drop x) []) (fewOf bs own)[p].f0.toNat (fewOf bs own)[p].f1.toNat ≤ (fewOf bs own)[p].f2) →
  ∃ r K, (∀ k, K ≤ k → nbLoop k (m : Int) bs d x (fewOf bs own) own = some r) ∧ (∀ y ∈ r, 0 ≤ y ∧ y < (bs.length : Int)) ∧ r.length ≤ bs.length ∧ tight m (fewOf bs r) [] = tight m bs [] ∧
   ∀ p (hp : p < (fewOf bs r).length), ¬ V (tight m ((fewOf bs r).eraseIdx p) []) (fewOf bs r)[p].f0.toNat (fewOf bs r)[p].f1.toNat ≤ (fewOf bs r)[p].f2
 | 0, x, own, hx, hy, hl, ht, hno => by
  refine ⟨own, 0, fun k _ => rfl, fun y q => by have := hy y q; omega, by omega, ?_, fun p hp => ?_⟩
  ·rw [List.drop_of_length_le (by omega), List.append_nil] at ht
   exact ht
  ·have := hno p hp
   rw [List.drop_of_length_le (by omega), List.append_nil] at this
   exact this
 | d + 1, x, own, hx, hy, hl, ht, hno => by
  have hlt : x < bs.length := by omega
  have hl24 := h.hl
  have hrd := rdB_get' hlt
  have hfl : (fewOf bs own).length = own.length := by simp [fewOf]
  have hk := few_mem (bs := bs) (own := own) (fun y q => by have := hy y q; omega)
  have hdrop : bs.drop x = bs[x] :: bs.drop (x + 1) := List.drop_eq_getElem_cons hlt
  have hs1 : ∀ b ∈ fewOf bs own ++ bs.drop (x + 1), b ∈ bs := by
   intro b q
   rcases List.mem_append.1 q with q | q
   ·exact hk b q
   ·exact List.mem_of_mem_drop q
  have hs0 : ∀ b ∈ fewOf bs own ++ bs.drop x, b ∈ bs := by
   intro b q
   rcases List.mem_append.1 q with q | q
   ·exact hk b q
   ·exact List.mem_of_mem_drop q
  have hs10 : ∀ b ∈ fewOf bs own ++ bs.drop (x + 1), b ∈ fewOf bs own ++ bs.drop x := by
   intro b q
   rw [hdrop]
   rcases List.mem_append.1 q with q | q
   ·exact List.mem_append_left _ q
   ·exact List.mem_append_right _ (List.mem_cons_of_mem _ q)
  have g1 : Dg m (fewOf bs own ++ bs.drop (x + 1)) := h.sub (by rw [List.length_append, List.length_drop]; omega) hs1
  have g0 : Dg m (fewOf bs own ++ bs.drop x) := h.sub (by rw [List.length_append, List.length_drop]; omega) hs0
  have f1 := sub_feasible h.hn h.hb h.lim hf _ hs1
  have f0 := sub_feasible h.hn h.hb h.lim hf _ hs0
  obtain ⟨K1, hK1⟩ := follow_val g1 f1 bs[x] (ok_bound h.ok _ (List.getElem_mem hlt))
  obtain ⟨i0, i1, _, _⟩ := Bd_in (h.hb _ (List.getElem_mem hlt))
  by_cases hq : V (tight m (fewOf bs own ++ bs.drop (x + 1)) []) bs[x].f0.toNat bs[x].f1.toNat ≤ bs[x].f2
  ·have e1 : tight m (fewOf bs own ++ bs.drop (x + 1)) [] = tight m (fewOf bs own ++ bs.drop x) [] := tight_same h.hn g0.hb g0.lim f0 _ hs10 (fun b q => by
    rw [hdrop] at q
    rcases List.mem_append.1 q with q | q
    ·exact bound_V h.hn g1.hb (List.mem_append_left _ q)
    ·rcases List.mem_cons.1 q with rfl | q
     ·exact hq
     ·exact bound_V h.hn g1.hb (List.mem_append_right _ q))
   obtain ⟨r, K, hr, a1, a2, a3, a4⟩ := nb_tells h hf d (x + 1) own (by omega) (fun y q => by have := hy y q; omega) (by omega) (e1.trans ht) (fun p hp hh => by
    obtain ⟨j0, j1, _, _⟩ := Bd_in (h.hb _ (hk _ (List.getElem_mem hp)))
    refine hno p hp (Int.le_trans ?_ hh)
    refine sub_ge h hf (cs := (fewOf bs own).eraseIdx p ++ bs.drop x) (ds := (fewOf bs own).eraseIdx p ++ bs.drop (x + 1)) ?_ ?_ j0 j1
    ·intro b q
     rcases List.mem_append.1 q with q | q
     ·exact hk b (erase_mem q)
     ·exact List.mem_of_mem_drop q
    ·intro b q
     rw [hdrop]
     rcases List.mem_append.1 q with q | q
     ·exact List.mem_append_left _ q
     ·exact List.mem_append_right _ (List.mem_cons_of_mem _ q))
   refine ⟨r, max K1 K, fun k hk' => ?_, a1, a2, a3, a4⟩
   rw [nbLoop, hrd, hK1 k (by omega), decide_eq_true hq]
   simp only [Option.bind_some]
   exact hr k (by omega)
  ·have hfew : fewOf bs (own ++ [(x : Int)]) = fewOf bs own ++ [bs[x]] := by
    unfold fewOf
    rw [List.map_append, List.map_cons, List.map_nil, hrd]
   obtain ⟨r, K, hr, a1, a2, a3, a4⟩ := nb_tells h hf d (x + 1) (own ++ [(x : Int)]) (by omega) (fun y q => by
     rcases List.mem_append.1 q with q | q
     ·have := hy y q; omega
     ·rw [List.mem_singleton] at q; omega) (by simp; omega) (by rw [hfew, List.append_assoc, List.singleton_append, ← hdrop]; exact ht) (fun p hp => by
    simp only [hfew] at hp ⊢
    rw [List.length_append, List.length_singleton] at hp
    by_cases e : p < (fewOf bs own).length
    ·rw [List.getElem_append_left e, List.eraseIdx_append_of_lt_length e, List.append_assoc, List.singleton_append, ← hdrop]
     exact hno p e
    ·obtain rfl : p = (fewOf bs own).length := by omega
     rw [List.getElem_append_right (Nat.le_refl _), List.eraseIdx_append_of_length_le (Nat.le_refl _)]
     simp only [Nat.sub_self, List.getElem_cons_zero, List.eraseIdx_cons_zero, List.append_nil]
     exact hq)
   refine ⟨r, max K1 K, fun k hk' => ?_, a1, a2, a3, a4⟩
   rw [nbLoop, hrd, hK1 k (by omega), decide_eq_false hq]
   simp only [Option.bind_some]
   rw [← hfew]
   exact hr k (by omega)
theorem rest_tells (h : Dg m bs) (hf : feasible m bs [] = true) {few : List S39} (hs : ∀ b ∈ few, b ∈ bs) (hl : few.length ≤ 24) (hno : ∀ p (hp : p < few.length), ¬ V (tight m (few.eraseIdx p) []) few[p].f0.toNat few[p].f1.toNat ≤ few[p].f2) : ∀ (d i : Nat), i + d = few.length → ∃ K, ∀ k, K ≤ k → restLoop k (m : Int) few d i = some true
 | 0, i, hi => ⟨0, fun _ _ => rfl⟩
 | d + 1, i, hi => by
  have hlt : i < few.length := by omega
  obtain ⟨K, hK⟩ := rest_tells h hf hs hl hno d (i + 1) (by omega)
  have he := List.length_eraseIdx_le (l := few) (i := i)
  obtain ⟨K1, hK1⟩ := follow_val (h.sub (cs := few.eraseIdx i) (by omega) (fun b q => hs b (erase_mem q))) (sub_feasible h.hn h.hb h.lim hf _ (fun b q => hs b (erase_mem q))) few[i] (ok_bound h.ok _ (hs _ (List.getElem_mem hlt)))
  refine ⟨max K1 K, fun k hk => ?_⟩
  rw [restLoop, rdB_get' hlt, hK1 k (by omega), decide_eq_false (hno i hlt), Option.bind_some, if_neg (by decide)]
  exact hK k (by omega)
end
/-! ### rows that are compared -/
theorem rows_l1 (A : List (List Int)) (i : Nat) (hi : i < A.length) (hA : A.length ≤ 1000) (hr : (rd_L6 A (i : Int)).length ≤ 1000) : ∀ (d k j : Nat), j + d = (rd_L6 A (i : Int)).length → laws_r8Rows.l1 (k + d + 1) A A (i : Int) (j : Int) = laws_r8Rows.l0 k A A ((i + 1 : Nat) : Int)
 | 0, k, j, hj => by
  simp only [Nat.add_zero, laws_r8Rows.l1]
  rw [if_pos (by omega), if_pos (by omega), if_neg (by omega), wrap_id (by omega) (by omega)]
  push_cast
  rfl
 | d + 1, k, j, hj => by
  rw [show k + (d + 1) + 1 = (k + d + 1) + 1 from rfl, laws_r8Rows.l1]
  rw [if_pos (by omega), if_pos (by omega), if_pos (by omega), if_pos (by omega), if_pos (by omega), if_pos (by omega), if_pos rfl, wrap_id (by omega) (by omega)]
  have := rows_l1 A i hi hA hr d k (j + 1) (by omega)
  push_cast at this
  exact this
theorem rows_l0 (n : Nat) (hn : n ≤ 10) (A : List (List Int)) (hA : Sq n A) : ∀ (d k i : Nat), i + d = n → laws_r8Rows.l0 (k + (n + 2) * d + 1) A A (i : Int) = some true
 | 0, k, i, hi => by
  have hl := hA.1
  simp only [Nat.mul_zero, Nat.add_zero, laws_r8Rows.l0]
  rw [if_neg (by omega)]
 | d + 1, k, i, hi => by
  have hl := hA.1
  have hr := row_len hA (i := i) (by omega)
  rw [show k + (n + 2) * (d + 1) + 1 = ((k + (n + 2) * d + 1) + n + 1) + 1 by rw [Nat.mul_add]; omega]
  rw [laws_r8Rows.l0, if_pos (by omega), if_pos (by omega), if_pos (by omega), if_pos rfl]
  have := rows_l1 A i (by omega) (by omega) (by omega) n (k + (n + 2) * d + 1) 0 (by omega)
  rw [show ((0 : Nat) : Int) = 0 from rfl] at this
  rw [this]
  exact rows_l0 n hn A hA d k (i + 1) (by omega)
theorem rows_same {n : Nat} (hn : n ≤ 10) {A : List (List Int)} (hA : Sq n A) (k : Nat) (hk : 200 < k) : laws_r8Rows.f k A A = some true := by
 have hm : (n + 2) * n ≤ 120 := Nat.le_trans (Nat.mul_le_mul (show n + 2 ≤ 12 by omega) hn) (by omega)
 unfold laws_r8Rows.f
 rw [if_pos rfl]
 have := rows_l0 n hn A hA n (k - (n + 2) * n - 1) 0 (by omega)
 rw [show k - (n + 2) * n - 1 + (n + 2) * n + 1 = k by omega] at this
 exact this
end Go.Proofs.YtbgokpobaemibaaDoor.Pure

/- A valid diagram's text, by the program, and what the program reads out of it. -/
namespace Go.Proofs.YtbgokpobaemibaaDoor.Pure
open Go.RowKit Go.Proofs.YtbgokpobaemibaaDoor.Pa Go.Proofs.YtbgokpobaemibaaDoorW.PrintWords Go.Proofs.YtbgokpobaemibaaDoorW.PrintLast Go.Proofs.YtbgokpobaemibaaDoorW.PrintMore
set_option linter.unusedVariables false
set_option linter.unusedSimpArgs false

/-- What a bound adds to the text. -/
def addB (b : S39) : ByteArray := (((((⟨#[44]⟩ : ByteArray) ++ decB b.f0) ++ (⟨#[46]⟩ : ByteArray)) ++ decB b.f1) ++ (⟨#[46]⟩ : ByteArray)) ++ decB b.f2
def tx (out : ByteArray) : List S39 → ByteArray
 | [] => out
 | b :: l => tx (out ++ addB b) l
def Near (b : S39) : Prop := (-1000 ≤ b.f0 ∧ b.f0 ≤ 1000) ∧ (-1000 ≤ b.f1 ∧ b.f1 ≤ 1000) ∧ (-1000 ≤ b.f2 ∧ b.f2 ≤ 1000)
theorem e44 : (⟨#[44]⟩ : ByteArray).size = 1 := rfl
theorem e46 : (⟨#[46]⟩ : ByteArray).size = 1 := rfl
theorem dec_size5 (u : Nat) (h : u ≤ 1000) : (Lib.decDigits u).length ≤ 4 := by
 rw [Lib.decDigits]
 by_cases h1 : u < 10
 ·rw [dif_pos h1]; simp
 ·rw [dif_neg h1, Lib.decDigits]
  by_cases h2 : u / 10 < 10
  ·rw [dif_pos h2]; simp
  ·rw [dif_neg h2, Lib.decDigits]
   by_cases h3 : u / 10 / 10 < 10
   ·rw [dif_pos h3]; simp
   ·rw [dif_neg h3, Lib.decDigits, dif_pos (by omega)]; simp
theorem decB_size5 (n : Int) (h0 : -1000 ≤ n) (h1 : n ≤ 1000) : (decB n).size ≤ 5 := by
 have e : (decB n).size = (Lib.itoa n).length := by
  unfold decB
  simp [ByteArray.size]
 rw [e]
 unfold Lib.itoa
 split
 ·have := dec_size5 n.natAbs (by omega)
  rw [List.length_cons]; omega
 ·have := dec_size5 n.toNat (by omega)
  omega
theorem addB_size {b : S39} (h : Near b) : (addB b).size ≤ 18 := by
 have h1 := decB_size5 b.f0 h.1.1 h.1.2
 have h2 := decB_size5 b.f1 h.2.1.1 h.2.1.2
 have h3 := decB_size5 b.f2 h.2.2.1 h.2.2.2
 unfold addB
 simp only [ByteArray.size_append, e44, e46]
 omega
theorem rdBd_get {l : List S39} {i : Nat} (h : i < l.length) : rd_T39 l (i : Int) = l[i] := by
 unfold rd_T39
 rw [List.getD_eq_getElem?_getD, Int.toNat_natCast, List.getElem?_eq_getElem h]
 rfl
theorem dec_prog (n : Int) (h0 : -1000 ≤ n) (h1 : n ≤ 1000) : impl_Decimal.f n = some (decB n) := by
 unfold impl_Decimal.f
 rw [if_pos ⟨by omega, by omega⟩]
theorem text_impl (l : List S39) (hl : l.length ≤ 24) (hn : ∀ b ∈ l, Near b) : ∀ d i k (out : ByteArray), l.length - i = d → i ≤ l.length → out.size ≤ 100 * (i + 1) → d + 1200 < k →
  impl_DiagramText.l0 k out l (l.length : Int) (i : Int) = some (tx out (l.drop i), true)
 | 0, i, k, out, hd, hi, ho, hk => by
  obtain ⟨k, rfl⟩ : ∃ q, k = q + 1 := ⟨k - 1, by omega⟩
  simp only [impl_DiagramText.l0]
  rw [if_neg (by omega), List.drop_of_length_le (by omega)]
  rfl
 | d + 1, i, k, out, hd, hi, ho, hk => by
  obtain ⟨k, rfl⟩ : ∃ q, k = q + 1 := ⟨k - 1, by omega⟩
  have hl2 : i < l.length := by omega
  have hb := hn l[i] (List.getElem_mem hl2)
  have hw : wrap64 ((i : Int) + 1) = ((i + 1 : Nat) : Int) := by rw [wrap_id (by omega) (by omega)]; omega
  have s0 := decB_size5 _ hb.1.1 hb.1.2
  have s1 := decB_size5 _ hb.2.1.1 hb.2.1.2
  have s2 := decB_size5 _ hb.2.2.1 hb.2.2.2
  have hs := addB_size hb
  simp only [impl_DiagramText.l0]
  rw [if_pos (by omega), if_pos (by omega), if_pos (by omega), rdBd_get hl2, dec_prog _ hb.1.1 hb.1.2, Option.bind_some, dec_prog _ hb.2.1.1 hb.2.1.2, Option.bind_some, dec_prog _ hb.2.2.1 hb.2.2.2, Option.bind_some,
   if_pos (by omega), if_pos (by simp only [ByteArray.size_append, e44, e46]; omega), if_pos (by simp only [ByteArray.size_append, e44, e46]; omega), if_pos (by simp only [ByteArray.size_append, e44, e46]; omega), if_pos (by simp only [ByteArray.size_append, e44, e46]; omega), if_pos (by simp only [ByteArray.size_append, e44, e46]; omega), hw]
  have := text_impl l hl hn d (i + 1) k (out ++ addB l[i]) (by omega) (by omega) (by rw [ByteArray.size_append]; omega) (by omega)
  rw [List.drop_eq_getElem_cons hl2]
  exact this
def tri (b : S39) : Int × Int × Int := (b.f0, b.f1, b.f2)
theorem addB_data (b : S39) : (addB b).data.toList = 44 :: textThree (tri b) := by
 unfold addB textThree tri decB joinL joinL joinL
 simp [ByteArray.data_append]
theorem joinL_flat (c : UInt8) (w : List UInt8) : ∀ ws : List (List UInt8), joinL c (w :: ws) = w ++ (ws.map (c :: ·)).flatten := by
 intro ws
 induction ws generalizing w with
 | nil => simp [joinL]
 | cons v ws ih =>
  show w ++ c :: joinL c (v :: ws) = _
  rw [ih]
  simp
theorem tx_data : ∀ (l : List S39) (out : ByteArray), (tx out l).data.toList = out.data.toList ++ ((l.map tri).map fun t => 44 :: textThree t).flatten
 | [], out => by simp [tx]
 | b :: l, out => by
  unfold tx
  rw [tx_data l, ByteArray.data_append, Array.toList_append, addB_data]
  simp
theorem text_is (n : Int) (l : List S39) : (tx (decB n) l).data.toList = textD n (l.map tri) := by
 unfold textD
 rw [tx_data, joinL_flat]
 simp only [List.map_map]
 rfl
theorem rdB_some {x : ByteArray} {v : Int} (h : rdDec x.data.toList = some v) : rdB x = (v, true) := by
 unfold rdB
 rw [h]
theorem rd3_some {x : ByteArray} {b : Int × Int × Int} (h : rdThree x.data.toList = some b) : rd3 x = (b.1, b.2.1, b.2.2, true) := by
 unfold rdThree at h
 rw [← wordsB_cut] at h
 unfold rd3
 match hw : wordsB 46 x with
 | [] => rw [hw] at h; cases h
 | [_] => rw [hw] at h; cases h
 | [_, _] => rw [hw] at h; cases h
 | _ :: _ :: _ :: _ :: _ => rw [hw] at h; cases h
 | [u, v, w] =>
  rw [hw] at h
  simp only [List.map_cons, List.map_nil] at h
  obtain ⟨a, ha, h⟩ := Option.bind_eq_some_iff.mp h
  obtain ⟨b', hb, h⟩ := Option.bind_eq_some_iff.mp h
  obtain ⟨c, hc, h⟩ := Option.bind_eq_some_iff.mp h
  obtain rfl := Option.some.inj h
  dsimp only
  rw [rdB_some ha, rdB_some hb, rdB_some hc]
  rfl
theorem rows_some : ∀ (xs : List ByteArray) (bs : List S39), rdAll (xs.map (·.data.toList)) = some (bs.map tri) → rdRows xs = bs ∧ rdOks xs = true
 | [], bs, h => by
  cases bs with
  | nil => exact ⟨rfl, rfl⟩
  | cons _ _ => cases h
 | x :: xs, bs, h => by
  obtain ⟨b, hb, h⟩ := Option.bind_eq_some_iff.mp h
  obtain ⟨l, hl, h⟩ := Option.bind_eq_some_iff.mp h
  have h := Option.some.inj h
  cases bs with
  | nil => cases h
  | cons b' bs =>
   rw [List.map_cons] at h
   injection h with h1 h2
   subst h1
   rw [h2] at hl
   have ih := rows_some xs bs hl
   have h3 := rd3_some hb
   refine ⟨?_, ?_⟩
   ·show _ :: rdRows xs = _
    dsimp only
    rw [ih.1, h3]
    rfl
   ·show ((rd3 x).2.2.2 && rdOks xs) = true
    rw [ih.2, h3]
    rfl
theorem ok_near {n : Int} {bs : List S39} (h : diagramOk n bs = true) : (1 ≤ n ∧ n ≤ 10) ∧ bs.length ≤ 24 ∧ ∀ b ∈ bs, Near b := by
 unfold diagramOk at h
 simp only [Bool.and_eq_true, decide_eq_true_eq, List.all_eq_true] at h
 refine ⟨⟨h.1.1.1, h.1.1.2⟩, h.1.2, fun b hb => ?_⟩
 have := h.2 b hb
 unfold boundOk at this
 simp only [Bool.and_eq_true, decide_eq_true_eq] at this
 have h1 := h.1.1.1
 have h2 := h.1.1.2
 unfold Near
 omega
theorem readF_yes {n : Int} {bs : List S39} (h : diagramOk n bs = true) (s : ByteArray) (hs : s.data.toList = textD n (bs.map tri)) : readF s = (n, bs, true) := by
 obtain ⟨hn, hl, hb⟩ := ok_near h
 have hr : rdD s.data.toList = some (n, bs.map tri) := (rdD_iff _ _ _).2 ⟨hs, by omega, fun t ht => by
  obtain ⟨b, hb', rfl⟩ := List.mem_map.1 ht
  have := hb b hb'
  unfold Near at this
  unfold inThree tri
  dsimp only
  omega⟩
 unfold rdD at hr
 rw [← wordsB_cut] at hr
 unfold readF
 cases hw : wordsB 44 s with
 | nil => rw [hw] at hr; cases hr
 | cons x xs =>
  rw [hw] at hr
  simp only [List.map_cons] at hr
  obtain ⟨n', hn', hr⟩ := Option.bind_eq_some_iff.mp hr
  obtain ⟨l, hl', hr⟩ := Option.bind_eq_some_iff.mp hr
  have hr := Option.some.inj hr
  injection hr with e1 e2
  subst e1
  subst e2
  have h1 := rdB_some hn'
  have h2 := rows_some xs bs hl'
  dsimp only
  rw [h1, h2.1, h2.2, if_pos ⟨rfl, rfl, h⟩]
theorem tx_size : ∀ (l : List S39) (out : ByteArray), (∀ b ∈ l, Near b) → (tx out l).size ≤ out.size + 18 * l.length
 | [], out, _ => by unfold tx; simp
 | b :: l, out, h => by
  have h1 := tx_size l (out ++ addB b) (fun x hx => h x (List.mem_cons_of_mem _ hx))
  have h2 := addB_size (h b (by simp))
  rw [ByteArray.size_append] at h1
  unfold tx
  rw [List.length_cons]
  omega
theorem text_prog {n : Int} {bs : List S39} (h : diagramOk n bs = true) (k : Nat) (hk : 1300 < k) : impl_DiagramText.f k n bs = some (tx (decB n) bs, true) := by
 obtain ⟨hn, hl, hb⟩ := ok_near h
 have hs := decB_size5 n (by omega) (by omega)
 have t1 := text_impl bs hl hb bs.length 0 k (decB n) (by omega) (by omega) (by omega) (by omega)
 rw [show ((0 : Nat) : Int) = 0 from rfl, List.drop_zero] at t1
 unfold impl_DiagramText.f impl_ValidDiagram.f
 rw [Option.bind_some, h, if_pos rfl, dec_prog n (by omega) (by omega), Option.bind_some]
 exact t1
theorem read_prog {n : Int} {bs : List S39} (h : diagramOk n bs = true) : impl_ReadDiagram.f (tx (decB n) bs) = some (n, bs, true) := by
 obtain ⟨hn, hl, hb⟩ := ok_near h
 have h1 := tx_size bs (decB n) hb
 have h2 := decB_size5 n (by omega) (by omega)
 unfold impl_ReadDiagram.f
 rw [if_pos (by omega), readF_yes h _ (text_is n bs)]
end Go.Proofs.YtbgokpobaemibaaDoor.Pure

/- What the sources of the laws draw: a byte, a number below another, a chance. -/
namespace Go.Proofs.YtbgokpobaemibaaDoor.Pure
open Go.RowKit Go.Proofs.YtbgokpobaemibaaDoor.Pa Go.Proofs.YtbgokpobaemibaaDoorW.PrintWords Go.Proofs.YtbgokpobaemibaaDoorW.PrintLast Go.Proofs.YtbgokpobaemibaaDoorW.PrintMore
set_option linter.unusedVariables false
set_option linter.unusedSimpArgs false

def Bytes (l : List Int) : Prop := ∀ x ∈ l, 0 ≤ x ∧ x ≤ 255
theorem u64_in (n : Int) : 0 ≤ IntKind.u64.wrap n ∧ IntKind.u64.wrap n < 18446744073709551616 := by
 have : IntKind.u64.wrap n = n % 18446744073709551616 := by simp [IntKind.wrap, IntKind.bits, IntKind.signed]
 rw [this]
 omega
theorem hash_in (y : Int) (h0 : 0 ≤ y) (h1 : y < 18446744073709551616) : 0 ≤ wrap64 (Go.bits .and .u64 (y / 1099511627776) 255) ∧ wrap64 (Go.bits .and .u64 (y / 1099511627776) 255) ≤ 255 := by
 have hq0 : 0 ≤ y / 1099511627776 := by omega
 have hq1 : y / 1099511627776 < 2 ^ 24 := by omega
 have := bits_mask .u64 24 (by decide) (fun n h0 h1 => by
  have e : IntKind.u64.wrap n = n % 18446744073709551616 := by simp [IntKind.wrap, IntKind.bits, IntKind.signed]
  rw [e]; omega) 8 (by decide) (y / 1099511627776) hq0 hq1
 rw [show (255 : Int) = 2 ^ 8 - 1 by decide, this]
 unfold wrap64
 omega
/-- The next number is a byte; the place goes on by one. -/
theorem next_tells (l : List Int) (hl : Bytes l) (hlen : l.length ≤ 1000) (p h : Int) (hp : 0 ≤ p) (hp2 : p ≤ 1000000) : ∃ v h', spec_l00Src_next.f l p h = some (v, p + 1, h') ∧ 0 ≤ v ∧ v ≤ 255 := by
 unfold spec_l00Src_next.f
 have hw : wrap64 (p + 1) = p + 1 := wrap_id (by omega) (by omega)
 rw [hw]
 by_cases c : p < (l.length : Int)
 ·obtain ⟨i, rfl⟩ : ∃ i : Nat, p = i := ⟨p.toNat, by omega⟩
  have hi : i < l.length := by omega
  have hb := hl l[i] (List.getElem_mem hi)
  have hr : wrap64 (rd l (i : Int)) = l[i] := by rw [rd_get hi]; exact wrap_id (by omega) (by omega)
  rw [if_pos c, if_pos hp, if_pos (by omega)]
  exact ⟨_, _, rfl, by rw [hr]; exact hb.1, by rw [hr]; exact hb.2⟩
 ·rw [if_neg c, if_neg (by omega)]
  have := u64_in (IntKind.u64.wrap (IntKind.u64.wrap (h * 6364136223846793005) + 0) + 1442695040888963407)
  have := hash_in _ this.1 this.2
  exact ⟨_, _, rfl, this.1, this.2⟩
/-- A number below a. -/
theorem pick_tells (l : List Int) (hl : Bytes l) (hlen : l.length ≤ 1000) (p h a : Int) (hp : 0 ≤ p) (hp2 : p ≤ 1000000) (ha : a ≤ 200) : ∃ v p' h', spec_l00Src_pick.f l p h a = some (v, p', h') ∧ 0 ≤ v ∧ (2 ≤ a → v < a) ∧ (a ≤ 1 → v = 0) ∧ p ≤ p' ∧ p' ≤ p + 1 := by
 unfold spec_l00Src_pick.f
 by_cases c : a ≤ 1
 ·rw [if_pos c]
  exact ⟨_, _, _, rfl, by omega, by omega, fun _ => rfl, by omega, by omega⟩
 ·obtain ⟨v, h', e, v0, v1⟩ := next_tells l hl hlen p h hp hp2
  rw [if_neg c, e]
  simp only [Option.bind_some]
  rw [if_neg (by omega), if_neg (by omega)]
  exact ⟨_, _, _, rfl, Int.tmod_nonneg _ v0, fun _ => Int.tmod_lt_of_pos _ (by omega), fun h => absurd h c, by omega, by omega⟩
theorem one_tells (l : List Int) (hl : Bytes l) (hlen : l.length ≤ 1000) (p h a : Int) (hp : 0 ≤ p) (hp2 : p ≤ 1000000) (ha : a ≤ 200) : ∃ v p' h', spec_l00Src_one.f l p h a = some (v, p', h') ∧ p ≤ p' ∧ p' ≤ p + 1 := by
 obtain ⟨v, p', h', e, _, _, _, q0, q1⟩ := pick_tells l hl hlen p h a hp hp2 ha
 unfold spec_l00Src_one.f
 rw [e]
 exact ⟨_, _, _, rfl, q0, q1⟩
end Go.Proofs.YtbgokpobaemibaaDoor.Pure

/- What the short laws draw from their bytes: diagrams in bounds, times in bounds. -/
namespace Go.Proofs.YtbgokpobaemibaaDoor.Pure
open Go.RowKit Go.Proofs.YtbgokpobaemibaaDoor.Pa Go.Proofs.YtbgokpobaemibaaDoorW.PrintWords Go.Proofs.YtbgokpobaemibaaDoorW.PrintLast Go.Proofs.YtbgokpobaemibaaDoorW.PrintMore
set_option linter.unusedVariables false
set_option linter.unusedSimpArgs false

/-- A bound between two of n events, of a small size. -/
def Good8 (n : Int) (b : S39) : Prop := 0 ≤ b.f0 ∧ b.f0 ≤ n - 1 ∧ 0 ≤ b.f1 ∧ b.f1 ≤ n - 1 ∧ b.f0 ≠ b.f1 ∧ -1000 ≤ b.f2 ∧ b.f2 ≤ 1000
theorem draw_l1 (l : List Int) (hl : Bytes l) (hlen : l.length ≤ 1000) (n : Nat) (h1 : 1 ≤ n) (hn : n ≤ 10) (x4 : List Int) (h4 : x4.length = n) (hx4 : ∀ t ∈ x4, 0 ≤ t ∧ t ≤ 19) (c : Nat) : ∀ (k : Nat) (p h : Int) (bs : List S39), 0 ≤ p → p + 5 * (c : Int) ≤ 1000 → bs.length + c ≤ 9 → (∀ b ∈ bs, Good8 (n : Int) b) →
  ∃ bs' p' h', spec_l04DrawOk.l1 (k + 2 * c + 2) x4 (c : Int) l p h (n : Int) bs = some ((n : Int), bs', p', h') ∧ bs'.length ≤ 9 ∧ ∀ b ∈ bs', Good8 (n : Int) b := by
 induction c with
 | zero =>
  intro k p h bs hp hp2 hb hg
  refine ⟨bs, p, h, ?_, by omega, hg⟩
  rw [show k + 2 * 0 + 2 = (k + 1) + 1 from rfl]
  simp only [spec_l04DrawOk.l1]
  rw [if_neg (by omega)]
  simp only [spec_l04DrawOk.j3]
  simp
 | succ c ih =>
  intro k p h bs hp hp2 hb hg
  push_cast at hp2
  rw [show k + 2 * (c + 1) + 2 = (k + 2 * c + 2 + 1) + 1 by omega]
  by_cases hn1 : n = 1
  ·subst hn1
   refine ⟨bs, p, h, ?_, by omega, hg⟩
   generalize k + 2 * c + 2 = q
   simp only [spec_l04DrawOk.l1]
   rw [if_pos (by omega)]
   simp only [spec_l04DrawOk.j3]
   simp
  ·obtain ⟨a, p1, g1, e1, a0, a1, _, q1, q2⟩ := pick_tells l hl hlen p h (n : Int) hp (by omega) (by omega)
   have a2 := a1 (by omega)
   obtain ⟨b, p2, g2, e2, b0, b1, b1', q3, q4⟩ := pick_tells l hl hlen p1 g1 ((n : Int) - 1) (by omega) (by omega) (by omega)
   have b2 : b ≤ (n : Int) - 2 := by
    by_cases hh : (2 : Int) ≤ (n : Int) - 1
    ·have := b1 hh; omega
    ·have := b1' (by omega); omega
   obtain ⟨s, p3, g3, e3, s0, s1, _, q5, q6⟩ := pick_tells l hl hlen p2 g2 6 (by omega) (by omega) (by omega)
   have s2 := s1 (by omega)
   obtain ⟨o, p4, g4, e4, q7, q8⟩ := one_tells l hl hlen p3 g3 12 (by omega) (by omega) (by omega)
   have hm : Int.tmod (a + 1 + b) (n : Int) = if a + 1 + b < (n : Int) then a + 1 + b else a + 1 + b - (n : Int) := by
    rw [Int.tmod_eq_emod_of_nonneg (by omega)]
    split
    ·exact Int.emod_eq_of_lt (by omega) (by omega)
    ·rw [← Int.sub_emod_right]
     exact Int.emod_eq_of_lt (by omega) (by omega)
   generalize hT : Int.tmod (a + 1 + b) (n : Int) = T at hm
   have t0 : 0 ≤ T := by rw [hm]; split <;> omega
   have t1 : T < (n : Int) := by rw [hm]; split <;> omega
   have t2 : a ≠ T := by rw [hm]; split <;> omega
   have ra : 0 ≤ rd x4 a ∧ rd x4 a ≤ 19 := by
    have := rd_get (l := x4) (i := a.toNat) (by omega)
    rw [show ((a.toNat : Nat) : Int) = a by omega] at this
    rw [this]; exact hx4 _ (List.getElem_mem _)
   have rT : 0 ≤ rd x4 T ∧ rd x4 T ≤ 19 := by
    have := rd_get (l := x4) (i := T.toNat) (by omega)
    rw [show ((T.toNat : Nat) : Int) = T by omega] at this
    rw [this]; exact hx4 _ (List.getElem_mem _)
   have next : ∀ m : Int, -1000 ≤ m → m ≤ 1000 → ∃ bs' p' h', spec_l04DrawOk.l1 (k + 2 * c + 2) x4 (c : Int) l p4 g4 (n : Int) (bs ++ [⟨a, T, m⟩]) = some ((n : Int), bs', p', h') ∧ bs'.length ≤ 9 ∧ ∀ b ∈ bs', Good8 (n : Int) b := by
    intro m m0 m1
    refine ih k p4 g4 _ (by omega) (by omega) (by simp; omega) (fun y hy => ?_)
    rcases List.mem_append.mp hy with hy | hy
    ·exact hg y hy
    ·rw [List.mem_singleton] at hy
     subst hy
     exact ⟨a0, (by show a ≤ (n : Int) - 1; omega), t0, (by show T ≤ (n : Int) - 1; omega), t2, m0, m1⟩
   generalize k + 2 * c + 2 = q at next ⊢
   simp only [spec_l04DrawOk.l1]
   rw [if_pos (by omega), decide_eq_true (by omega : (n : Int) > 1)]
   simp only [spec_l04DrawOk.j3, if_true]
   rw [e1]
   simp only [Option.bind_some]
   rw [wrap_id (x := (n : Int) - 1) (by omega) (by omega), e2]
   simp only [Option.bind_some]
   rw [wrap_id (x := a + 1) (by omega) (by omega), wrap_id (x := a + 1 + b) (by omega) (by omega), hT, if_neg (by omega), if_pos t0, if_pos (by omega), if_pos a0, if_pos (by omega), e3]
   simp only [Option.bind_some]
   rw [e4]
   simp only [Option.bind_some]
   have hc : wrap64 (((c + 1 : Nat) : Int) - 1) = (c : Int) := by rw [wrap_id (by omega) (by omega)]; omega
   rw [hc, wrap_id (x := rd x4 T - rd x4 a) (by omega) (by omega), wrap_id (x := rd x4 T - rd x4 a + s) (by omega) (by omega), wrap_id (x := rd x4 T - rd x4 a + s - 4) (by omega) (by omega)]
   by_cases ho : o = true
   ·rw [if_pos ho, if_pos (by omega)]
    exact next _ (by omega) (by omega)
   ·rw [if_neg ho, if_pos (by omega)]
    exact next _ (by omega) (by omega)
theorem draw_l0 (l : List Int) (hl : Bytes l) (hlen : l.length ≤ 1000) (n : Nat) (h1 : 1 ≤ n) (hn : n ≤ 10) (d : Nat) : ∀ (k : Nat) (x4 : List Int) (i : Nat) (p h : Int), x4.length = i → i + d = n → 0 ≤ p → p ≤ 2 + i → (∀ t ∈ x4, 0 ≤ t ∧ t ≤ 19) →
  ∃ bs' p' h', spec_l04DrawOk.l0 (k + 20 + d + 1) x4 (i : Int) l p h (n : Int) [] = some ((n : Int), bs', p', h') ∧ bs'.length ≤ 9 ∧ ∀ b ∈ bs', Good8 (n : Int) b := by
 induction d with
 | zero =>
  intro k x4 i p h ha hi hp hp2 ht
  obtain ⟨c, p1, g1, e1, c0, c1, _, q1, q2⟩ := pick_tells l hl hlen p h 10 hp (by omega) (by omega)
  have c2 := c1 (by omega)
  obtain ⟨cn, rfl⟩ : ∃ m : Nat, c = m := ⟨c.toNat, by omega⟩
  have := draw_l1 l hl hlen n h1 hn x4 (by omega) ht cn (k + 20 - 2 * cn - 2) p1 g1 [] (by omega) (by omega) (by simp; omega) (by simp)
  rw [show k + 20 - 2 * cn - 2 + 2 * cn + 2 = k + 20 by omega] at this
  simp only [Nat.add_zero, spec_l04DrawOk.l0]
  rw [if_neg (by omega), e1]
  simp only [Option.bind_some]
  exact this
 | succ d ih =>
  intro k x4 i p h ha hi hp hp2 ht
  obtain ⟨v, p1, g1, e1, v0, v1, _, q1, q2⟩ := pick_tells l hl hlen p h 20 hp (by omega) (by omega)
  have v2 := v1 (by omega)
  have := ih k (x4 ++ [v]) (i + 1) p1 g1 (by simp [ha]) (by omega) (by omega) (by push_cast; omega) (fun t hm => by
   rcases List.mem_append.mp hm with hm | hm
   ·exact ht t hm
   ·rw [List.mem_singleton] at hm; omega)
  rw [show k + 20 + (d + 1) + 1 = (k + 20 + d + 1) + 1 from rfl]
  rw [show ((i + 1 : Nat) : Int) = (i : Int) + 1 from by omega] at this
  generalize k + 20 + d + 1 = q at this ⊢
  simp only [spec_l04DrawOk.l0]
  rw [if_pos (by omega), e1]
  simp only [Option.bind_some]
  rw [if_pos (by omega), wrap_id (by omega) (by omega)]
  exact this
/-- A drawn diagram is in bounds and has at most six events. -/
theorem diagram_tells (l : List Int) (hl : Bytes l) (hlen : l.length ≤ 1000) : ∃ K, ∀ k, K ≤ k → ∃ (n : Nat) (bs : List S39), spec_R8Diagram.f k l = some ((n : Int), bs) ∧ 1 ≤ n ∧ n ≤ 6 ∧ bs.length ≤ 9 ∧ ∀ b ∈ bs, Good8 (n : Int) b := by
 refine ⟨100, fun k hk => ?_⟩
 obtain ⟨a, p1, g1, e1, a0, a1, _, q1, q2⟩ := pick_tells l hl hlen 0 0 6 (by omega) (by omega) (by omega)
 have a2 := a1 (by omega)
 obtain ⟨o, p2, g2, e2, q3, q4⟩ := one_tells l hl hlen p1 g1 20 (by omega) (by omega) (by omega)
 have run : ∀ n : Nat, 1 ≤ n → n ≤ 10 → ∃ bs' p' h', spec_l04DrawOk.j0 k l p2 g2 (n : Int) [] = some ((n : Int), bs', p', h') ∧ bs'.length ≤ 9 ∧ ∀ b ∈ bs', Good8 (n : Int) b := by
  intro n h1 hn
  obtain ⟨q, rfl⟩ : ∃ q, k = (q + 20 + n + 1) + 1 := ⟨k - 22 - n, by omega⟩
  have := draw_l0 l hl hlen n h1 hn n q [] 0 p2 g2 rfl (by omega) (by omega) (by omega) (by simp)
  rw [show ((0 : Nat) : Int) = 0 from rfl] at this
  simp only [spec_l04DrawOk.j0]
  exact this
 have both : ∃ (n : Nat) (bs : List S39) (p h : Int), spec_l04DrawOk.f k l 0 0 = some ((n : Int), bs, p, h) ∧ 1 ≤ n ∧ bs.length ≤ 9 ∧ ∀ b ∈ bs, Good8 (n : Int) b := by
  unfold spec_l04DrawOk.f
  rw [e1]
  simp only [Option.bind_some]
  rw [e2]
  simp only [Option.bind_some]
  by_cases ho : o = true
  ·rw [if_pos ho]
   obtain ⟨bs, p, h, e, r1, r2⟩ := run 10 (by omega) (by omega)
   exact ⟨10, bs, p, h, e, by omega, r1, r2⟩
  ·rw [if_neg ho, wrap_id (by omega) (by omega)]
   obtain ⟨bs, p, h, e, r1, r2⟩ := run (1 + a).toNat (by omega) (by omega)
   rw [show (((1 + a).toNat : Nat) : Int) = 1 + a by omega] at e r2
   refine ⟨(1 + a).toNat, bs, p, h, ?_, by omega, r1, ?_⟩
   ·rw [e, show (((1 + a).toNat : Nat) : Int) = 1 + a by omega]
   ·rw [show (((1 + a).toNat : Nat) : Int) = 1 + a by omega]; exact r2
 obtain ⟨n, bs, p, h, e, n1, r1, r2⟩ := both
 unfold spec_R8Diagram.f spec_l00From.f
 simp only [Option.bind_some]
 rw [e]
 simp only [Option.bind_some]
 by_cases c : (n : Int) > 6
 ·rw [if_pos c]
  exact ⟨2, [], rfl, by omega, by omega, by simp, by simp⟩
 ·rw [if_neg c]
  exact ⟨n, bs, rfl, n1, by omega, r1, r2⟩
end Go.Proofs.YtbgokpobaemibaaDoor.Pure

