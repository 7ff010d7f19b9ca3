-- Written for this claim by a program of this session.
import Derived.Test.YtahjcmmgdcedpaaXPax0
import Derived.Test.YtahjcmmgdcedpaaXCoreP1
import Derived.Test.YtahjcmmgdcedpaaXCoreP8
namespace Go.Proofs.Ytahjcmmgdcedpaa.Pa
open Go.RowKit Go.Proofs.YtahjcmmgdcedpaaW.PrintWords Go.Proofs.YtahjcmmgdcedpaaW.PrintLast Go.Proofs.YtahjcmmgdcedpaaW.PrintMore
attribute [local go_sem] max2_int min2_int max_two min_two max_three min_three max_four min_four   -- for this text's walks alone
set_option linter.unusedVariables false
set_option linter.unusedSimpArgs false

/-! ### spec_PadCircuit: function 23 -/
mutual
def spec_PadCircuit.j0 : Nat → List Int → Bool → Int → List (S56) → List Int → Int → Int → Int → Int → Option (Int × (List (S56)) × List Int × Int × Int × Int × Int × Bool)
 | 0, _, _, _, _, _, _, _, _, _ => none
 | k + 1, x1, x17, x553000, x553001, x553002, x553003, x553004, x553005, x553006 => if x17 = true then (some (0, ([] : List (S56)), ([] : List Int), 0, 0, 0, 0, false)) else ((spec_l00Own.f x553002).bind fun t558 => (spec_PadCircuit.l0 k x1 0 x553000 x553001 x553002 x553003 x553004 x553005 x553006 x553000 (([] : List (S56))) t558 x553003 x553004 x553005 x553006))
def spec_PadCircuit.l0 : Nat → List Int → Int → Int → List (S56) → List Int → Int → Int → Int → Int → Int → List (S56) → List Int → Int → Int → Int → Int → Option (Int × (List (S56)) × List Int × Int × Int × Int × Int × Bool)
 | 0, _, _, _, _, _, _, _, _, _, _, _, _, _, _, _, _ => none
 | k + 1, x1, x7, x553000, x553001, x553002, x553003, x553004, x553005, x553006, x562000, x562001, x562002, x562003, x562004, x562005, x562006 => if x7 < (x553001.length : Int) then (if 0 ≤ x7 then ((spec_l00Own.f ((rd_T56 x553001 x7).f2)).bind fun t565 => (if x562001.length < 3518437208883 then (spec_PadCircuit.l0 k x1 (wrap64 (x7 + 1)) x553000 x553001 x553002 x553003 x553004 x553005 x553006 x562000 (x562001 ++ [(⟨(rd_T56 x553001 x7).f0, (rd_T56 x553001 x7).f1, t565⟩ : S56)]) x562002 x562003 x562004 x562005 x562006) else (none))) else (none)) else (spec_PadCircuit.l1 k x1 0 x553000 x553001 x553002 x553003 x553004 x553005 x553006 x562000 x562001 x562002 x562003 x562004 x562005 x562006)
def spec_PadCircuit.l1 : Nat → List Int → Int → Int → List (S56) → List Int → Int → Int → Int → Int → Int → List (S56) → List Int → Int → Int → Int → Int → Option (Int × (List (S56)) × List Int × Int × Int × Int × Int × Bool)
 | 0, _, _, _, _, _, _, _, _, _, _, _, _, _, _, _, _ => none
 | k + 1, x1, x8, x553000, x553001, x553002, x553003, x553004, x553005, x553006, x562000, x562001, x562002, x562003, x562004, x562005, x562006 => if x8 < (x1.length : Int) then (if 0 ≤ x8 then ((spec_l00In.f (rd x1 x8) 0 100).bind fun t573 => (if t573 = true then (if (rd x1 x8) > 0 then (if x8 < (x553002.length : Int) then (if x562001.length < 3518437208883 then ((some (x562001 ++ [(⟨rd x1 x8, rd x1 x8, (([rd x553002 x8] : List Int))⟩ : S56)] : List (S56))).bind fun y581 => (if x8 < (x562002.length : Int) then (spec_PadCircuit.l1 k x1 (wrap64 (x8 + 1)) x553000 x553001 x553002 x553003 x553004 x553005 x553006 x562000 y581 (x562002.set (x8 : Int).toNat (wrap64 ((wrap64 (x553000 + (y581.length : Int))) - 1))) x562003 x562004 x562005 x562006) else (none))) else (none)) else (none)) else (spec_PadCircuit.l1 k x1 (wrap64 (x8 + 1)) x553000 x553001 x553002 x553003 x553004 x553005 x553006 x562000 x562001 x562002 x562003 x562004 x562005 x562006)) else (some (0, ([] : List (S56)), ([] : List Int), 0, 0, 0, 0, false)))) else (none)) else ((spec_l06Is_at.f x562000 x562001 x562002 x562003 x562004 x562005 x562006).bind fun t571 => (if t571 = true then (some (x562000, x562001, x562002, x562003, x562004, x562005, x562006, true)) else (some (0, ([] : List (S56)), ([] : List Int), 0, 0, 0, 0, false))))
end
def spec_PadCircuit.f (k : Nat) (a0_0 : Int) (l0_1 : List (S56)) (l0_2 : List Int) (a0_3 : Int) (a0_4 : Int) (a0_5 : Int) (a0_6 : Int) (l1 : List Int) : Option (Int × (List (S56)) × List Int × Int × Int × Int × Int × Bool) := (spec_l06Is_at.f a0_0 l0_1 l0_2 a0_3 a0_4 a0_5 a0_6).bind fun t554 => (if t554 = true then (spec_PadCircuit.j0 k l1 ((l1.length : Int) != a0_0) a0_0 l0_1 l0_2 a0_3 a0_4 a0_5 a0_6) else (spec_PadCircuit.j0 k l1 true a0_0 l0_1 l0_2 a0_3 a0_4 a0_5 a0_6))
def spec_PadCircuit.T3 : Bool × List (List Nat × List Nat) := (true, [([], []), ([0], [0]), ([], []), ([], []), ([3], [3]), ([4], [4]), ([], []), ([6], [6]), ([], []), ([8], [8]), ([], []), ([10], [10]), ([], []), ([12], [12]), ([1, 2, 5, 7, 9, 11, 13], [1, 2, 5, 7, 9, 11, 13]), ([], []), ([15, 14, 5, 0, 1, 2, 3, 4, 5, 6, 7, 8, 9, 10, 11, 12, 13, 14, 15], [14, 15])])
def spec_PadCircuit.B3 : List Nat := [0, 1, 0, 0, 8, 24, 0, 64, 0, 256, 0, 1024, 0, 4096, 16383, 0, 65535]
theorem spec_PadCircuit.tab3 : rtab .any (opsOf Try.f23 3) = spec_PadCircuit.T3 := by kernel_rfl
theorem spec_PadCircuit.bits3 : waitsOk spec_PadCircuit.T3.2 spec_PadCircuit.B3 = true := by kernel_rfl
def spec_PadCircuit.T7 : Bool × List (List Nat × List Nat) := (true, [([], []), ([0], [0]), ([], []), ([2], [2]), ([], []), ([3, 4], [3, 4]), ([5], [5]), ([6], [6]), ([], []), ([8], [8]), ([], []), ([9, 10], [9, 10]), ([11], [11]), ([12], [12]), ([], []), ([14], [14]), ([], []), ([15, 16], [15, 16]), ([17], [17]), ([18], [18]), ([19], [19]), ([7, 13, 20], [7, 13, 20]), ([21], [21]), ([1, 22, 20], [1, 22]), ([0, 1, 2, 3, 4, 5, 6, 7, 8, 9, 10, 11, 12, 13, 14, 15, 16, 17, 18, 19, 20, 21, 22, 23], []), ([24, 23, 23, 0, 1, 2, 3, 4, 5, 6, 7, 8, 9, 10, 11, 12, 13, 14, 15, 16, 17, 18, 19, 20, 21, 22, 23], [23, 24])])
def spec_PadCircuit.B7 : List Nat := [0, 1, 0, 4, 0, 28, 60, 124, 0, 256, 0, 1792, 3840, 7936, 0, 16384, 0, 114688, 245760, 507904, 1032192, 2097148, 4194300, 8388607, 16777215, 33554431]
theorem spec_PadCircuit.tab7 : rtab .any (opsOf Try.f23 7) = spec_PadCircuit.T7 := by kernel_rfl
theorem spec_PadCircuit.bits7 : waitsOk spec_PadCircuit.T7.2 spec_PadCircuit.B7 = true := by kernel_rfl
def spec_PadCircuit.T14 : Bool × List (List Nat × List Nat) := (true, [([], []), ([0], [0]), ([], []), ([], []), ([2, 3], [2, 3]), ([4], [4]), ([], []), ([], []), ([6, 7], [6, 7]), ([8], [8]), ([], []), ([10], [10]), ([], []), ([11, 12], [11, 12]), ([13], [13]), ([14], [14]), ([5, 9, 15], [5, 9, 15]), ([16], [16]), ([1, 17], [1, 17]), ([0, 1, 2, 3, 4, 5, 6, 7, 8, 9, 10, 11, 12, 13, 14, 15, 16, 17, 18], []), ([19, 18, 18, 0, 1, 2, 3, 4, 5, 6, 7, 8, 9, 10, 11, 12, 13, 14, 15, 16, 17, 18], [18, 19])])
def spec_PadCircuit.B14 : List Nat := [0, 1, 0, 0, 12, 28, 0, 0, 192, 448, 0, 1024, 0, 7168, 15360, 31744, 65532, 131068, 262143, 524287, 1048575]
theorem spec_PadCircuit.tab14 : rtab .any (opsOf Try.f23 14) = spec_PadCircuit.T14 := by kernel_rfl
theorem spec_PadCircuit.bits14 : waitsOk spec_PadCircuit.T14.2 spec_PadCircuit.B14 = true := by kernel_rfl
set_option maxHeartbeats 8000000 in
set_option maxRecDepth 100000 in
theorem spec_PadCircuit.calls (k : Nat) (a0_0 : Int) (A0_1 : Option Addr) (c0_1 : Nat) (l0_1 : List (S56)) (A0_2 : Option Addr) (c0_2 : Nat) (l0_2 : List Int) (a0_3 : Int) (a0_4 : Int) (a0_5 : Int) (a0_6 : Int) (A1 : Option Addr) (c1 : Nat) (l1 : List Int) (r1 : Int) (r2 : List (S56)) (r3 : List Int) (r4 : Int) (r5 : Int) (r6 : Int) (r7 : Int) (r8 : Bool) (w : World) (hr0_1 : Kd.C k56 w A0_1 l0_1.length l0_1) (hc0_1 : l0_1.length ≤ c0_1) (hr0_2 : Kd.C (Kd.int .i64) w A0_2 l0_2.length l0_2) (hc0_2 : l0_2.length ≤ c0_2) (hr1 : Kd.C (Kd.int .i64) w A1 l1.length l1) (hc1 : l1.length ≤ c1) (h : spec_PadCircuit.f k a0_0 l0_1 l0_2 a0_3 a0_4 a0_5 a0_6 l1 = some (r1, r2, r3, r4, r5, r6, r7, r8)) :
  Calls Try.prog 23 #[.agg #[.int .i64 a0_0, .slice A0_1 l0_1.length c0_1, .slice A0_2 l0_2.length c0_2, .int .i64 a0_3, .int .i64 a0_4, .int .i64 a0_5, .int .i64 a0_6], .slice A1 l1.length c1] w fun e w' => ∃ v1_ v2_ : Value, e = .returned (.tuple #[.agg #[.int .i64 r1, v1_, v2_, .int .i64 r4, .int .i64 r5, .int .i64 r6, .int .i64 r7], .bool r8]) ∧ Kd.S k56 56 w' w.heap.size (fun k_ => some k_ ≠ (v2_ : Value).ownBlock) v1_ r2 ∧ Kd.R (Kd.int .i64) 2 w' w.heap.size (fun _ => True) v2_ r3 ∧ Below w.heap.size w w' := by
 have hu45 := Try.underlying45
 have hu56 := Try.underlying56
 have HR0_1 := Aside0.mk hr0_1
 have HC0_1 := Aside0.mk hc0_1
 clear hr0_1 hc0_1
 have HR0_2 := Aside0.mk hr0_2
 have HC0_2 := Aside0.mk hc0_2
 clear hr0_2 hc0_2
 have HR1 := Aside0.mk hr1
 have HC1 := Aside0.mk hc1
 clear hr1 hc1
 have HB := Aside0.mk (Below.refl w.heap.size w)
 have H : ((spec_l06Is_at.f a0_0 l0_1 l0_2 a0_3 a0_4 a0_5 a0_6).bind fun t554 => (if t554 = true then (spec_PadCircuit.j0 k l1 ((l1.length : Int) != a0_0) a0_0 l0_1 l0_2 a0_3 a0_4 a0_5 a0_6) else (spec_PadCircuit.j0 k l1 true a0_0 l0_1 l0_2 a0_3 a0_4 a0_5 a0_6))) = some (r1, r2, r3, r4, r5, r6, r7, r8) := h
 clear h
 have HC3 := Aside0.mk H
 clear H
 go_enter Try.func23, Try.ntmps23
 go_upto_region 1 with (first | ((with_reducible refine gate_dst (N := 2) rfl ?_); (try (refine gate_guard (by rfl) ?_; dsimp only)); refine box_event ?hg (N := 2) ?hd (cs := #[.int .i64 a0_0, .slice A0_1 l0_1.length c0_1, .slice A0_2 l0_2.length c0_2, .int .i64 a0_3, .int .i64 a0_4, .int .i64 a0_5, .int .i64 a0_6]) (t := 45) ?hr ?_; (case hd => rfl); (case hg => rfl); (case hr => first | (go_simp; done) | (go_simp; rfl)); intro gb552 hg w4 hbox hb; have n0_ := Aside0.mk (below_step (by with_reducible repeat (first | exact HB.out | apply below_alloc | apply pw_below_drewN | apply below_drew1)) hb); have n1_ := Aside0.mk (hbox); have n2_ := Aside0.mk ((by rw [hg]; exact (below_size (by with_reducible repeat (first | exact HB.out | apply below_alloc | apply pw_below_drewN | apply below_drew1))) : w.heap.size ≤ gb552)); have n3_ := Aside0.mk ((by rw [hg]; exact (below_size (by with_reducible repeat (first | exact HB.out | apply below_alloc | apply pw_below_drewN | apply below_drew1))) : w.heap.size ≤ gb552)); clear HB; have HB := n0_; have BK552 := n1_; have GW552 := n2_; have GE552 := n3_; clear n0_ n1_ n2_ n3_; clear hb hbox hg) | ((with_reducible refine gate_dst (N := 4) rfl ?_); (try (refine gate_guard (by rfl) ?_; dsimp only)); refine box_event ?hg (N := 4) ?hd (cs := #[.int .i64 0, .slice none 0 0, .slice none 0 0, .int .i64 0, .int .i64 0, .int .i64 0, .int .i64 0]) (t := 45) ?hr ?_; (case hd => rfl); (case hg => rfl); (case hr => first | (go_simp; done) | (go_simp; rfl)); intro gb553 hg w5 hbox hb; have n0_ := Aside0.mk (blk_below (g := gb552) (by (with_reducible repeat (first | refine blk_drewN ?_ _ | refine blk_drew ?_ | refine blk_alloc ?_ _)); exact BK552.out) hb); have n1_ := Aside0.mk (below_step (by with_reducible repeat (first | exact HB.out | apply below_alloc | apply pw_below_drewN | apply below_drew1 | refine below_set ?_ GE552.out)) hb); have n2_ := Aside0.mk (hbox); have n3_ := Aside0.mk ((by rw [hg]; exact (below_size (by with_reducible repeat (first | exact HB.out | apply below_alloc | apply pw_below_drewN | apply below_drew1 | refine below_set ?_ GE552.out))) : w.heap.size ≤ gb553)); have n4_ := Aside0.mk ((by rw [hg]; exact (below_size (by with_reducible repeat (first | exact HB.out | apply below_alloc | apply pw_below_drewN | apply below_drew1 | refine below_set ?_ GE552.out))) : w.heap.size ≤ gb553)); have n5_ := Aside0.mk ((by rw [hg]; exact Nat.ne_of_lt (blk_lt (g := gb552) (by (with_reducible repeat (first | refine blk_drewN ?_ _ | refine blk_drew ?_ | refine blk_alloc ?_ _)); exact BK552.out)) : gb552 ≠ gb553)); have n6_ := Aside0.mk ((by rw [hg]; exact Nat.ne_of_gt (blk_lt (g := gb552) (by (with_reducible repeat (first | refine blk_drewN ?_ _ | refine blk_drew ?_ | refine blk_alloc ?_ _)); exact BK552.out)) : gb553 ≠ gb552)); clear BK552; clear HB; have BK552 := n0_; have HB := n1_; have BK553 := n2_; have GW553 := n3_; have GE553 := n4_; have NB552_553 := n5_; have NB553_552 := n6_; clear n0_ n1_ n2_ n3_ n4_ n5_ n6_; clear hb hbox hg))
 (try simp only [Act.put, List.setIfInBounds_toArray, List.set_cons_zero, List.set_cons_succ])
 go_cut [17] (fun v17 wc => ∃ (kq : Nat) (x17_2 : Bool), v17 = .bool x17_2 ∧ Aside0 (spec_PadCircuit.j0 kq l1 x17_2 a0_0 l0_1 l0_2 a0_3 a0_4 a0_5 a0_6 = some (r1, r2, r3, r4, r5, r6, r7, r8)) ∧ Aside0 (kq ≤ k) ∧ Aside0 (wc.heap[gb552]? = some (.cells #[.int .i64 a0_0, (.slice A0_1 l0_1.length c0_1), (.slice A0_2 l0_2.length c0_2), .int .i64 a0_3, .int .i64 a0_4, .int .i64 a0_5, .int .i64 a0_6] 45 (0, 0))) ∧ Aside0 (wc.heap[gb553]? = some (.cells #[.int .i64 0, (.slice none 0 0), (.slice none 0 0), .int .i64 0, .int .i64 0, .int .i64 0, .int .i64 0] 45 (0, 0))) ∧ Aside0 (Below w.heap.size w wc))
 case first =>
  have H := HC3.out
  clear HC3
  replace H := Option.bind_eq_some_iff.mp H
  obtain ⟨t554, A60, H⟩ := H
  try dsimp only at H
  have A6 := Aside0.mk A60
  clear A60
  by_cases c7 : t554 = true
  ·subst c7
   rw [if_pos rfl] at H
   have H' := Aside0.mk H
   clear H
   have hnb8 := NB552_553.out
   have hnc8 := NB553_552.out
   have hcz9_0 : w5.cell? ⟨gb552, 0, none⟩ = some (.int .i64 a0_0) := (blk_cell BK552.out 0).trans rfl
   have hcz9_1 : w5.cell? ⟨gb552, 1, none⟩ = some (.slice A0_1 l0_1.length c0_1) := (blk_cell BK552.out 1).trans rfl
   have hcz9_2 : w5.cell? ⟨gb552, 2, none⟩ = some (.slice A0_2 l0_2.length c0_2) := (blk_cell BK552.out 2).trans rfl
   have hcz9_3 : w5.cell? ⟨gb552, 3, none⟩ = some (.int .i64 a0_3) := (blk_cell BK552.out 3).trans rfl
   have hcz9_4 : w5.cell? ⟨gb552, 4, none⟩ = some (.int .i64 a0_4) := (blk_cell BK552.out 4).trans rfl
   have hcz9_5 : w5.cell? ⟨gb552, 5, none⟩ = some (.int .i64 a0_5) := (blk_cell BK552.out 5).trans rfl
   have hcz9_6 : w5.cell? ⟨gb552, 6, none⟩ = some (.int .i64 a0_6) := (blk_cell BK552.out 6).trans rfl
   have hfz9_0 := blk_frozen BK552.out 0
   have hfz9_1 := blk_frozen BK552.out 1
   have hfz9_2 := blk_frozen BK552.out 2
   have hfz9_3 := blk_frozen BK552.out 3
   have hfz9_4 := blk_frozen BK552.out 4
   have hfz9_5 := blk_frozen BK552.out 5
   have hfz9_6 := blk_frozen BK552.out 6
   go_wp2_with (first | ((with_reducible refine gate_callee (f := 54) rfl ?_); refine goesL_ (some 9) rfl rfl Try.func54 (by kernel_rfl) rfl #[.pointer (some ⟨gb552, 0, none⟩)] rfl (by (try simp only [List.map_toArray, List.map_cons, List.map_nil]); first | done | rfl | (simp only [List.length_drop, List.length_take]; rfl)) ?_; (with_reducible refine (spec_l06Is_at.calls (hbk := (by (with_reducible repeat (first | refine blk_drewN ?_ _ | refine blk_drew ?_ | refine blk_alloc ?_ _)); first | exact BK552.out | exact BK553.out)) a0_0 _ _ l0_1 _ _ l0_2 a0_3 a0_4 a0_5 a0_6 true _ ?side1 ?side2 ?side3 ?side4 A6.out).mono ?_); (case side1 => repeat (first | exact (Kd.C_below HR0_1.out HB.out) | (with_reducible refine Kd.C_alloc ?_ _) | (with_reducible refine Kd.C_drewN ?_ _) | (with_reducible refine Kd.C_drew ?_))); (case side2 => exact HC0_1.out); (case side3 => repeat (first | exact (Kd.C_below HR0_2.out HB.out) | (with_reducible refine Kd.C_alloc ?_ _) | (with_reducible refine Kd.C_drewN ?_ _) | (with_reducible refine Kd.C_drew ?_))); (case side4 => exact HC0_2.out); rintro e w10 ⟨rfl, hb⟩; refine ⟨_, rfl, ?_⟩; have n0_ := Aside0.mk (blk_below (g := gb552) (by (with_reducible repeat (first | refine blk_drewN ?_ _ | refine blk_drew ?_ | refine blk_alloc ?_ _)); exact BK552.out) hb); have n1_ := Aside0.mk (blk_below (g := gb553) (by (with_reducible repeat (first | refine blk_drewN ?_ _ | refine blk_drew ?_ | refine blk_alloc ?_ _)); exact BK553.out) hb); have n2_ := Aside0.mk (below_step (by with_reducible repeat (first | exact HB.out | apply below_alloc | apply pw_below_drewN | apply below_drew1 | refine below_set ?_ GE552.out | refine below_set ?_ GE553.out)) hb); clear BK552; clear BK553; clear HB; have BK552 := n0_; have BK553 := n1_; have HB := n2_; clear n0_ n1_ n2_; (try clear hb); (try clear hb2); (try clear hk); (try clear hi); have hcz11_0 : w10.cell? ⟨gb552, 0, none⟩ = some (.int .i64 a0_0) := (blk_cell BK552.out 0).trans rfl; have hcz11_1 : w10.cell? ⟨gb552, 1, none⟩ = some (.slice A0_1 l0_1.length c0_1) := (blk_cell BK552.out 1).trans rfl; have hcz11_2 : w10.cell? ⟨gb552, 2, none⟩ = some (.slice A0_2 l0_2.length c0_2) := (blk_cell BK552.out 2).trans rfl; have hcz11_3 : w10.cell? ⟨gb552, 3, none⟩ = some (.int .i64 a0_3) := (blk_cell BK552.out 3).trans rfl; have hcz11_4 : w10.cell? ⟨gb552, 4, none⟩ = some (.int .i64 a0_4) := (blk_cell BK552.out 4).trans rfl; have hcz11_5 : w10.cell? ⟨gb552, 5, none⟩ = some (.int .i64 a0_5) := (blk_cell BK552.out 5).trans rfl; have hcz11_6 : w10.cell? ⟨gb552, 6, none⟩ = some (.int .i64 a0_6) := (blk_cell BK552.out 6).trans rfl; have hfz11_0 := blk_frozen BK552.out 0; have hfz11_1 := blk_frozen BK552.out 1; have hfz11_2 := blk_frozen BK552.out 2; have hfz11_3 := blk_frozen BK552.out 3; have hfz11_4 := blk_frozen BK552.out 4; have hfz11_5 := blk_frozen BK552.out 5; have hfz11_6 := blk_frozen BK552.out 6))
   go_meet
   case rel => exact ⟨_, (((l1.length : Int) != a0_0)), (by first | rfl | (simp; done) | (simp [*]; done)), H', ⟨by first | omega | exact Nat.le_refl _⟩, ⟨by (with_reducible repeat (first | refine blk_drewN ?_ _ | refine blk_drew ?_ | refine blk_alloc ?_ _)); exact BK552.out⟩, ⟨by (with_reducible repeat (first | refine blk_drewN ?_ _ | refine blk_drew ?_ | refine blk_alloc ?_ _)); exact BK553.out⟩, ⟨by with_reducible repeat (first | exact HB.out | apply below_alloc | apply pw_below_drewN | apply below_drew1 | refine below_set ?_ GE552.out | refine below_set ?_ GE553.out)⟩⟩
  ·replace c7 := Bool.eq_false_iff.mpr c7
   subst c7
   rw [if_neg (by decide)] at H
   have H' := Aside0.mk H
   clear H
   have hnb12 := NB552_553.out
   have hnc12 := NB553_552.out
   have hcz13_0 : w5.cell? ⟨gb552, 0, none⟩ = some (.int .i64 a0_0) := (blk_cell BK552.out 0).trans rfl
   have hcz13_1 : w5.cell? ⟨gb552, 1, none⟩ = some (.slice A0_1 l0_1.length c0_1) := (blk_cell BK552.out 1).trans rfl
   have hcz13_2 : w5.cell? ⟨gb552, 2, none⟩ = some (.slice A0_2 l0_2.length c0_2) := (blk_cell BK552.out 2).trans rfl
   have hcz13_3 : w5.cell? ⟨gb552, 3, none⟩ = some (.int .i64 a0_3) := (blk_cell BK552.out 3).trans rfl
   have hcz13_4 : w5.cell? ⟨gb552, 4, none⟩ = some (.int .i64 a0_4) := (blk_cell BK552.out 4).trans rfl
   have hcz13_5 : w5.cell? ⟨gb552, 5, none⟩ = some (.int .i64 a0_5) := (blk_cell BK552.out 5).trans rfl
   have hcz13_6 : w5.cell? ⟨gb552, 6, none⟩ = some (.int .i64 a0_6) := (blk_cell BK552.out 6).trans rfl
   have hfz13_0 := blk_frozen BK552.out 0
   have hfz13_1 := blk_frozen BK552.out 1
   have hfz13_2 := blk_frozen BK552.out 2
   have hfz13_3 := blk_frozen BK552.out 3
   have hfz13_4 := blk_frozen BK552.out 4
   have hfz13_5 := blk_frozen BK552.out 5
   have hfz13_6 := blk_frozen BK552.out 6
   go_wp2_with (first | ((with_reducible refine gate_callee (f := 54) rfl ?_); refine goesL_ (some 9) rfl rfl Try.func54 (by kernel_rfl) rfl #[.pointer (some ⟨gb552, 0, none⟩)] rfl (by (try simp only [List.map_toArray, List.map_cons, List.map_nil]); first | done | rfl | (simp only [List.length_drop, List.length_take]; rfl)) ?_; (with_reducible refine (spec_l06Is_at.calls (hbk := (by (with_reducible repeat (first | refine blk_drewN ?_ _ | refine blk_drew ?_ | refine blk_alloc ?_ _)); first | exact BK552.out | exact BK553.out)) a0_0 _ _ l0_1 _ _ l0_2 a0_3 a0_4 a0_5 a0_6 false _ ?side1 ?side2 ?side3 ?side4 A6.out).mono ?_); (case side1 => repeat (first | exact (Kd.C_below HR0_1.out HB.out) | (with_reducible refine Kd.C_alloc ?_ _) | (with_reducible refine Kd.C_drewN ?_ _) | (with_reducible refine Kd.C_drew ?_))); (case side2 => exact HC0_1.out); (case side3 => repeat (first | exact (Kd.C_below HR0_2.out HB.out) | (with_reducible refine Kd.C_alloc ?_ _) | (with_reducible refine Kd.C_drewN ?_ _) | (with_reducible refine Kd.C_drew ?_))); (case side4 => exact HC0_2.out); rintro e w14 ⟨rfl, hb⟩; refine ⟨_, rfl, ?_⟩; have n0_ := Aside0.mk (blk_below (g := gb552) (by (with_reducible repeat (first | refine blk_drewN ?_ _ | refine blk_drew ?_ | refine blk_alloc ?_ _)); exact BK552.out) hb); have n1_ := Aside0.mk (blk_below (g := gb553) (by (with_reducible repeat (first | refine blk_drewN ?_ _ | refine blk_drew ?_ | refine blk_alloc ?_ _)); exact BK553.out) hb); have n2_ := Aside0.mk (below_step (by with_reducible repeat (first | exact HB.out | apply below_alloc | apply pw_below_drewN | apply below_drew1 | refine below_set ?_ GE552.out | refine below_set ?_ GE553.out)) hb); clear BK552; clear BK553; clear HB; have BK552 := n0_; have BK553 := n1_; have HB := n2_; clear n0_ n1_ n2_; (try clear hb); (try clear hb2); (try clear hk); (try clear hi)))
   go_meet
   case rel => exact ⟨_, (true), (by first | rfl | (simp; done) | (simp [*]; done)), H', ⟨by first | omega | exact Nat.le_refl _⟩, ⟨by (with_reducible repeat (first | refine blk_drewN ?_ _ | refine blk_drew ?_ | refine blk_alloc ?_ _)); exact BK552.out⟩, ⟨by (with_reducible repeat (first | refine blk_drewN ?_ _ | refine blk_drew ?_ | refine blk_alloc ?_ _)); exact BK553.out⟩, ⟨by with_reducible repeat (first | exact HB.out | apply below_alloc | apply pw_below_drewN | apply below_drew1 | refine below_set ?_ GE552.out | refine below_set ?_ GE553.out)⟩⟩
 case rest =>
  clear HC3
  try clear c1
  try clear c2
  try clear p2
  try clear c7
  try clear c8
  try clear c12
  try clear hcz11_0
  try clear hcz11_1
  try clear hcz11_2
  try clear hcz11_3
  try clear hcz11_4
  try clear hcz11_5
  try clear hcz11_6
  try clear hcz13_0
  try clear hcz13_1
  try clear hcz13_2
  try clear hcz13_3
  try clear hcz13_4
  try clear hcz13_5
  try clear hcz13_6
  try clear hcz9_0
  try clear hcz9_1
  try clear hcz9_2
  try clear hcz9_3
  try clear hcz9_4
  try clear hcz9_5
  try clear hcz9_6
  try clear hfz11_0
  try clear hfz11_1
  try clear hfz11_2
  try clear hfz11_3
  try clear hfz11_4
  try clear hfz11_5
  try clear hfz11_6
  try clear hfz13_0
  try clear hfz13_1
  try clear hfz13_2
  try clear hfz13_3
  try clear hfz13_4
  try clear hfz13_5
  try clear hfz13_6
  try clear hfz9_0
  try clear hfz9_1
  try clear hfz9_2
  try clear hfz9_3
  try clear hfz9_4
  try clear hfz9_5
  try clear hfz9_6
  obtain ⟨kq, x17_2, rfl, HA, HJ2, BK552, BK553, HB⟩ := hcut
  cases kq with
  | zero => exact absurd HA.out (by simp [spec_PadCircuit.j0])
  | succ kj2 =>
   have H := HA.out
   clear HA
   simp only [spec_PadCircuit.j0] at H
   by_cases c15 : x17_2 = true
   ·subst c15
    rw [if_pos rfl] at H
    simp only [Option.some.injEq, Prod.mk.injEq] at H
    obtain ⟨rfl, rfl, rfl, rfl, rfl, rfl, rfl, rfl⟩ := H
    have hnb16 := NB553_552.out
    have hnc16 := NB552_553.out
    have hcz17_0 : wc.cell? ⟨gb553, 0, none⟩ = some (.int .i64 0) := (blk_cell BK553.out 0).trans rfl
    have hcz17_1 : wc.cell? ⟨gb553, 1, none⟩ = some (.slice none 0 0) := (blk_cell BK553.out 1).trans rfl
    have hcz17_2 : wc.cell? ⟨gb553, 2, none⟩ = some (.slice none 0 0) := (blk_cell BK553.out 2).trans rfl
    have hcz17_3 : wc.cell? ⟨gb553, 3, none⟩ = some (.int .i64 0) := (blk_cell BK553.out 3).trans rfl
    have hcz17_4 : wc.cell? ⟨gb553, 4, none⟩ = some (.int .i64 0) := (blk_cell BK553.out 4).trans rfl
    have hcz17_5 : wc.cell? ⟨gb553, 5, none⟩ = some (.int .i64 0) := (blk_cell BK553.out 5).trans rfl
    have hcz17_6 : wc.cell? ⟨gb553, 6, none⟩ = some (.int .i64 0) := (blk_cell BK553.out 6).trans rfl
    have hfz17_0 := blk_frozen BK553.out 0
    have hfz17_1 := blk_frozen BK553.out 1
    have hfz17_2 := blk_frozen BK553.out 2
    have hfz17_3 := blk_frozen BK553.out 3
    have hfz17_4 := blk_frozen BK553.out 4
    have hfz17_5 := blk_frozen BK553.out 5
    have hfz17_6 := blk_frozen BK553.out 6
    go_wp2
    refine bodyPost_ret (results_ct rfl _ _ gb553 45 #[.int .i64 0, .slice none 0 0, .slice none 0 0, .int .i64 0, .int .i64 0, .int .i64 0, .int .i64 0] (0, 0) _ rfl (by (with_reducible repeat (first | refine blk_drewN ?_ _ | refine blk_drew ?_ | refine blk_alloc ?_ _)); refine blk_put (cs := #[.int .i64 0, .slice none 0 0, .slice none 0 0, .int .i64 0, .int .i64 0, .int .i64 0, .int .i64 0]) ?_ 6 _ rfl; (with_reducible repeat (first | refine blk_drewN ?_ _ | refine blk_drew ?_ | refine blk_alloc ?_ _)); refine blk_put (cs := #[.int .i64 0, .slice none 0 0, .slice none 0 0, .int .i64 0, .int .i64 0, .int .i64 0, .int .i64 0]) ?_ 5 _ rfl; (with_reducible repeat (first | refine blk_drewN ?_ _ | refine blk_drew ?_ | refine blk_alloc ?_ _)); refine blk_put (cs := #[.int .i64 0, .slice none 0 0, .slice none 0 0, .int .i64 0, .int .i64 0, .int .i64 0, .int .i64 0]) ?_ 4 _ rfl; (with_reducible repeat (first | refine blk_drewN ?_ _ | refine blk_drew ?_ | refine blk_alloc ?_ _)); refine blk_put (cs := #[.int .i64 0, .slice none 0 0, .slice none 0 0, .int .i64 0, .int .i64 0, .int .i64 0, .int .i64 0]) ?_ 3 _ rfl; (with_reducible repeat (first | refine blk_drewN ?_ _ | refine blk_drew ?_ | refine blk_alloc ?_ _)); refine blk_put (cs := #[.int .i64 0, .slice none 0 0, .slice none 0 0, .int .i64 0, .int .i64 0, .int .i64 0, .int .i64 0]) ?_ 2 _ rfl; (with_reducible repeat (first | refine blk_drewN ?_ _ | refine blk_drew ?_ | refine blk_alloc ?_ _)); refine blk_put (cs := #[.int .i64 0, .slice none 0 0, .slice none 0 0, .int .i64 0, .int .i64 0, .int .i64 0, .int .i64 0]) ?_ 1 _ rfl; (with_reducible repeat (first | refine blk_drewN ?_ _ | refine blk_drew ?_ | refine blk_alloc ?_ _)); refine blk_put (cs := #[.int .i64 0, .slice none 0 0, .slice none 0 0, .int .i64 0, .int .i64 0, .int .i64 0, .int .i64 0]) ?_ 0 _ rfl; (with_reducible repeat (first | refine blk_drewN ?_ _ | refine blk_drew ?_ | refine blk_alloc ?_ _)); exact BK553.out) Try.underlying45 rfl (by kernel_rfl)) rfl ?_
    exact ⟨_, _, by first | rfl | (simp [errW_none, errW_some] <;> rfl) | (simp [*, errW_none, errW_some] <;> rfl), by first | exact Kd.S_nil _ _ _ _ _ | exact Kd.N_nil _ _ _ _ _ | exact Kd.V_nil _ _ _ _ _ | exact Kd.Q_nil _ _ _ _ _ | exact Kd.R_nil _ _ _ _ _, by first | exact Kd.R_nil _ _ _ _ _ | exact Kd.N_nil _ _ _ _ _ | exact Kd.V_nil _ _ _ _ _ | exact Kd.Q_nil _ _ _ _ _ | exact Kd.S_nil _ _ _ _ _, by with_reducible repeat (first | exact HB.out | apply below_alloc | apply pw_below_drewN | apply below_drew1 | refine below_set ?_ GE552.out | refine below_set ?_ GE553.out)⟩
   ·replace c15 := Bool.eq_false_iff.mpr c15
    subst c15
    rw [if_neg (by decide)] at H
    obtain ⟨y555, hy555⟩ : ∃ y_ : List (S56), y_ = (([] : List (S56))) := ⟨_, rfl⟩
    (try rw [Option.bind_some] at H); try rw [← hy555] at H
    have Ny555 := Aside0.mk hy555
    clear hy555
    replace H := Option.bind_eq_some_iff.mp H
    obtain ⟨t558, A180, H⟩ := H
    try dsimp only at H
    have A18 := Aside0.mk A180
    clear A180
    have H' := Aside0.mk H
    clear H
    try go_wp2
    have n0_ := Aside0.mk (blk_drew BK552.out)
    have n1_ := Aside0.mk (blk_drew BK553.out)
    have n2_ := Aside0.mk (below_drew1 HB.out)
    clear BK552
    clear BK553
    clear HB
    have BK552 := n0_
    have BK553 := n1_
    have HB := n2_
    clear n0_ n1_ n2_
    refine start_ (n := 17) (S := fun w' => w'.cell? ⟨gb552, 0, none⟩ = some (.int .i64 a0_0) ∧ w'.cell? ⟨gb552, 1, none⟩ = some (.slice A0_1 l0_1.length c0_1) ∧ w'.cell? ⟨gb552, 2, none⟩ = some (.slice A0_2 l0_2.length c0_2) ∧ w'.cell? ⟨gb552, 3, none⟩ = some (.int .i64 a0_3) ∧ w'.cell? ⟨gb552, 4, none⟩ = some (.int .i64 a0_4) ∧ w'.cell? ⟨gb552, 5, none⟩ = some (.int .i64 a0_5) ∧ w'.cell? ⟨gb552, 6, none⟩ = some (.int .i64 a0_6)) (ds := []) #[false, false, false, false, false, false, false, false, false, false, false, false, false, false, false, false, false] (by kernel_rfl) rfl rfl ⟨(blk_cell BK552.out 0).trans rfl, (blk_cell BK552.out 1).trans rfl, (blk_cell BK552.out 2).trans rfl, (blk_cell BK552.out 3).trans rfl, (blk_cell BK552.out 4).trans rfl, (blk_cell BK552.out 5).trans rfl, (blk_cell BK552.out 6).trans rfl⟩ (fun hHeld => ?_); refine with_tabW spec_PadCircuit.tab3 spec_PadCircuit.bits3 (fun HT_ HW_ => ?_)
    generalize wc.drew = w19 at BK552 BK553 HB hHeld ⊢
    refine pure_ (i := 0) (N := some 19) (v := ?_) (a' := ?_) #[true, false, false, false, false, false, false, false, false, false, false, false, false, false, false, false, false] rfl rfl (any_of HT_.out (by kernel_rfl)) (fun _ _ _ h => h) (Or.inl ⟨by rfl, ?_⟩) ?_ ?_
    rotate_left
    ·intro w'
     go_simp
     with_reducible rfl
    rotate_left
    ·simp only [Act.put, List.setIfInBounds_toArray, List.set_cons_zero, List.set_cons_succ, i64_w, i32_w]
     rfl
    refine pure_ (i := 3) (N := some 22) (v := ?_) (a' := ?_) #[true, false, false, true, false, false, false, false, false, false, false, false, false, false, false, false, false] rfl rfl (any_of HT_.out (by kernel_rfl)) (fun _ _ _ h => h) (Or.inl ⟨by rfl, ?_⟩) ?_ ?_
    rotate_left
    ·intro w'
     go_simp
     with_reducible rfl
    rotate_left
    ·simp only [Act.put, List.setIfInBounds_toArray, List.set_cons_zero, List.set_cons_succ, i64_w, i32_w]
     rfl
    refine pure_ (i := 6) (N := some 25) (v := ?_) (a' := ?_) #[true, false, false, true, false, false, true, false, false, false, false, false, false, false, false, false, false] rfl rfl (any_of HT_.out (by kernel_rfl)) (fun _ _ _ h => h) (Or.inl ⟨by rfl, ?_⟩) ?_ ?_
    rotate_left
    ·intro w'
     go_simp
     with_reducible rfl
    rotate_left
    ·simp only [Act.put, List.setIfInBounds_toArray, List.set_cons_zero, List.set_cons_succ, i64_w, i32_w]
     rfl
    refine pure_ (i := 8) (N := some 27) (v := ?_) (a' := ?_) #[true, false, false, true, false, false, true, false, true, false, false, false, false, false, false, false, false] rfl rfl (any_of HT_.out (by kernel_rfl)) (fun _ _ _ h => h) (Or.inl ⟨by rfl, ?_⟩) ?_ ?_
    rotate_left
    ·intro w'
     go_simp
     with_reducible rfl
    rotate_left
    ·simp only [Act.put, List.setIfInBounds_toArray, List.set_cons_zero, List.set_cons_succ, i64_w, i32_w]
     rfl
    refine pure_ (i := 10) (N := some 29) (v := ?_) (a' := ?_) #[true, false, false, true, false, false, true, false, true, false, true, false, false, false, false, false, false] rfl rfl (any_of HT_.out (by kernel_rfl)) (fun _ _ _ h => h) (Or.inl ⟨by rfl, ?_⟩) ?_ ?_
    rotate_left
    ·intro w'
     go_simp
     with_reducible rfl
    rotate_left
    ·simp only [Act.put, List.setIfInBounds_toArray, List.set_cons_zero, List.set_cons_succ, i64_w, i32_w]
     rfl
    refine pure_ (i := 12) (N := some 31) (v := ?_) (a' := ?_) #[true, false, false, true, false, false, true, false, true, false, true, false, true, false, false, false, false] rfl rfl (any_of HT_.out (by kernel_rfl)) (fun _ _ _ h => h) (Or.inl ⟨by rfl, ?_⟩) ?_ ?_
    rotate_left
    ·intro w'
     go_simp
     with_reducible rfl
    rotate_left
    ·simp only [Act.put, List.setIfInBounds_toArray, List.set_cons_zero, List.set_cons_succ, i64_w, i32_w]
     rfl
    refine take_ (i := 1) (N := some 20) (v := ?_) (a' := ?_) #[true, true, false, true, false, false, true, false, true, false, true, false, true, false, false, false, false] rfl rfl (take_ofW HT_.out HW_.out (by kernel_rfl)) (fun _ _ _ h => h) (Or.inl ⟨by rfl, ?_⟩) hHeld ?_ ?_
    rotate_left
    ·rintro w' ⟨s0, s1, s2, s3, s4, s5, s6⟩
     go_simp
     with_reducible rfl
    rotate_left
    ·simp only [Act.put, List.setIfInBounds_toArray, List.set_cons_zero, List.set_cons_succ, i64_w, i32_w]
     rfl
    refine take_ (i := 4) (N := some 23) (v := ?_) (a' := ?_) #[true, true, false, true, true, false, true, false, true, false, true, false, true, false, false, false, false] rfl rfl (take_ofW HT_.out HW_.out (by kernel_rfl)) (fun _ _ _ h => h) (Or.inl ⟨by rfl, ?_⟩) hHeld ?_ ?_
    rotate_left
    ·rintro w' ⟨s0, s1, s2, s3, s4, s5, s6⟩
     go_simp
     with_reducible rfl
    rotate_left
    ·simp only [Act.put, List.setIfInBounds_toArray, List.set_cons_zero, List.set_cons_succ, i64_w, i32_w]
     rfl
    refine take_ (i := 7) (N := some 26) (v := ?_) (a' := ?_) #[true, true, false, true, true, false, true, true, true, false, true, false, true, false, false, false, false] rfl rfl (take_ofW HT_.out HW_.out (by kernel_rfl)) (fun _ _ _ h => h) (Or.inl ⟨by rfl, ?_⟩) hHeld ?_ ?_
    rotate_left
    ·rintro w' ⟨s0, s1, s2, s3, s4, s5, s6⟩
     go_simp
     with_reducible rfl
    rotate_left
    ·simp only [Act.put, List.setIfInBounds_toArray, List.set_cons_zero, List.set_cons_succ, i64_w, i32_w]
     rfl
    refine take_ (i := 9) (N := some 28) (v := ?_) (a' := ?_) #[true, true, false, true, true, false, true, true, true, true, true, false, true, false, false, false, false] rfl rfl (take_ofW HT_.out HW_.out (by kernel_rfl)) (fun _ _ _ h => h) (Or.inl ⟨by rfl, ?_⟩) hHeld ?_ ?_
    rotate_left
    ·rintro w' ⟨s0, s1, s2, s3, s4, s5, s6⟩
     go_simp
     with_reducible rfl
    rotate_left
    ·simp only [Act.put, List.setIfInBounds_toArray, List.set_cons_zero, List.set_cons_succ, i64_w, i32_w]
     rfl
    refine take_ (i := 11) (N := some 30) (v := ?_) (a' := ?_) #[true, true, false, true, true, false, true, true, true, true, true, true, true, false, false, false, false] rfl rfl (take_ofW HT_.out HW_.out (by kernel_rfl)) (fun _ _ _ h => h) (Or.inl ⟨by rfl, ?_⟩) hHeld ?_ ?_
    rotate_left
    ·rintro w' ⟨s0, s1, s2, s3, s4, s5, s6⟩
     go_simp
     with_reducible rfl
    rotate_left
    ·simp only [Act.put, List.setIfInBounds_toArray, List.set_cons_zero, List.set_cons_succ, i64_w, i32_w]
     rfl
    refine take_ (i := 13) (N := some 32) (v := ?_) (a' := ?_) #[true, true, false, true, true, false, true, true, true, true, true, true, true, true, false, false, false] rfl rfl (take_ofW HT_.out HW_.out (by kernel_rfl)) (fun _ _ _ h => h) (Or.inl ⟨by rfl, ?_⟩) hHeld ?_ ?_
    rotate_left
    ·rintro w' ⟨s0, s1, s2, s3, s4, s5, s6⟩
     go_simp
     with_reducible rfl
    rotate_left
    ·simp only [Act.put, List.setIfInBounds_toArray, List.set_cons_zero, List.set_cons_succ, i64_w, i32_w]
     rfl
    refine join_ (σ := Value × Value × Nat) 1 #[true, true, true, true, true, true, true, true, true, true, true, true, true, true, true, true, false] (fun s_ => [(21, s_.1), (24, s_.2.1), (6, .pointer (some ⟨s_.2.2, 0, none⟩)), (33, .agg #[.int .i64 a0_0, s_.1, s_.2.1, .int .i64 a0_3, .int .i64 a0_4, .int .i64 a0_5, .int .i64 a0_6])]) (fun s_ w' => (w'.cell? ⟨gb552, 0, none⟩ = some (.int .i64 a0_0) ∧ w'.cell? ⟨gb552, 1, none⟩ = some (.slice A0_1 l0_1.length c0_1) ∧ w'.cell? ⟨gb552, 2, none⟩ = some (.slice A0_2 l0_2.length c0_2) ∧ w'.cell? ⟨gb552, 3, none⟩ = some (.int .i64 a0_3) ∧ w'.cell? ⟨gb552, 4, none⟩ = some (.int .i64 a0_4) ∧ w'.cell? ⟨gb552, 5, none⟩ = some (.int .i64 a0_5) ∧ w'.cell? ⟨gb552, 6, none⟩ = some (.int .i64 a0_6)) ∧ (Kd.S k56 56 w' w.heap.size (fun k_ => some k_ ≠ (s_.2.1 : Value).ownBlock) s_.1 y555) ∧ (Kd.R (Kd.int .i64) 2 w' w.heap.size (fun _ => True) s_.2.1 t558) ∧ (w'.heap[gb552]? = some (.cells #[.int .i64 a0_0, .slice A0_1 l0_1.length c0_1, .slice A0_2 l0_2.length c0_2, .int .i64 a0_3, .int .i64 a0_4, .int .i64 a0_5, .int .i64 a0_6] 45 (0, 0))) ∧ (w'.heap[gb553]? = some (.cells #[.int .i64 0, .slice none 0 0, .slice none 0 0, .int .i64 0, .int .i64 0, .int .i64 0, .int .i64 0] 45 (0, 0))) ∧ (w'.heap[s_.2.2]? = some (.cells #[.int .i64 0, .slice none 0 0, .slice none 0 0, .int .i64 0, .int .i64 0, .int .i64 0, .int .i64 0] 45 (0, 0))) ∧ (w.heap.size ≤ s_.2.2) ∧ (w.heap.size ≤ s_.2.2) ∧ (gb552 ≠ s_.2.2) ∧ (s_.2.2 ≠ gb552) ∧ (gb553 ≠ s_.2.2) ∧ (s_.2.2 ≠ gb553) ∧ (Below w.heap.size w w')) ?_ ?_
    rotate_left
    ·intro hJ2_5_15
     refine join_ (σ := Value × Value) 2 #[true, true, true, true, true, true, true, true, true, true, true, true, true, true, true, false, false] (fun s_ => [(21, s_.1), (24, s_.2), (33, .agg #[.int .i64 a0_0, s_.1, s_.2, .int .i64 a0_3, .int .i64 a0_4, .int .i64 a0_5, .int .i64 a0_6])]) (fun s_ w' => (w'.cell? ⟨gb552, 0, none⟩ = some (.int .i64 a0_0) ∧ w'.cell? ⟨gb552, 1, none⟩ = some (.slice A0_1 l0_1.length c0_1) ∧ w'.cell? ⟨gb552, 2, none⟩ = some (.slice A0_2 l0_2.length c0_2) ∧ w'.cell? ⟨gb552, 3, none⟩ = some (.int .i64 a0_3) ∧ w'.cell? ⟨gb552, 4, none⟩ = some (.int .i64 a0_4) ∧ w'.cell? ⟨gb552, 5, none⟩ = some (.int .i64 a0_5) ∧ w'.cell? ⟨gb552, 6, none⟩ = some (.int .i64 a0_6)) ∧ (Kd.S k56 56 w' w.heap.size (fun k_ => some k_ ≠ (s_.2 : Value).ownBlock) s_.1 y555) ∧ (Kd.R (Kd.int .i64) 2 w' w.heap.size (fun _ => True) s_.2 t558) ∧ (w'.heap[gb552]? = some (.cells #[.int .i64 a0_0, .slice A0_1 l0_1.length c0_1, .slice A0_2 l0_2.length c0_2, .int .i64 a0_3, .int .i64 a0_4, .int .i64 a0_5, .int .i64 a0_6] 45 (0, 0))) ∧ (w'.heap[gb553]? = some (.cells #[.int .i64 0, .slice none 0 0, .slice none 0 0, .int .i64 0, .int .i64 0, .int .i64 0, .int .i64 0] 45 (0, 0))) ∧ (Below w.heap.size w w')) ?_ ?_
     rotate_left
     ·intro hJ2_5
      refine join_ (σ := Value × Nat) 3 #[true, true, true, true, true, false, true, true, true, true, true, true, true, true, false, true, false] (fun s_ => [(21, s_.1), (6, .pointer (some ⟨s_.2, 0, none⟩))]) (fun s_ w' => (w'.cell? ⟨gb552, 0, none⟩ = some (.int .i64 a0_0) ∧ w'.cell? ⟨gb552, 1, none⟩ = some (.slice A0_1 l0_1.length c0_1) ∧ w'.cell? ⟨gb552, 2, none⟩ = some (.slice A0_2 l0_2.length c0_2) ∧ w'.cell? ⟨gb552, 3, none⟩ = some (.int .i64 a0_3) ∧ w'.cell? ⟨gb552, 4, none⟩ = some (.int .i64 a0_4) ∧ w'.cell? ⟨gb552, 5, none⟩ = some (.int .i64 a0_5) ∧ w'.cell? ⟨gb552, 6, none⟩ = some (.int .i64 a0_6)) ∧ (Kd.S k56 56 w' w.heap.size (fun _ => True) s_.1 y555) ∧ (w'.heap[gb552]? = some (.cells #[.int .i64 a0_0, .slice A0_1 l0_1.length c0_1, .slice A0_2 l0_2.length c0_2, .int .i64 a0_3, .int .i64 a0_4, .int .i64 a0_5, .int .i64 a0_6] 45 (0, 0))) ∧ (w'.heap[gb553]? = some (.cells #[.int .i64 0, .slice none 0 0, .slice none 0 0, .int .i64 0, .int .i64 0, .int .i64 0, .int .i64 0] 45 (0, 0))) ∧ (w'.heap[s_.2]? = some (.cells #[.int .i64 0, .slice none 0 0, .slice none 0 0, .int .i64 0, .int .i64 0, .int .i64 0, .int .i64 0] 45 (0, 0))) ∧ (w.heap.size ≤ s_.2) ∧ (w.heap.size ≤ s_.2) ∧ (gb552 ≠ s_.2) ∧ (s_.2 ≠ gb552) ∧ (gb553 ≠ s_.2) ∧ (s_.2 ≠ gb553) ∧ (Below w.heap.size w w')) ?_ ?_
      rotate_left
      ·intro hJ2_15
       refine join_ (σ := Value × Nat) 3 #[true, true, false, true, true, true, true, true, true, true, true, true, true, true, false, true, false] (fun s_ => [(24, s_.1), (6, .pointer (some ⟨s_.2, 0, none⟩))]) (fun s_ w' => (w'.cell? ⟨gb552, 0, none⟩ = some (.int .i64 a0_0) ∧ w'.cell? ⟨gb552, 1, none⟩ = some (.slice A0_1 l0_1.length c0_1) ∧ w'.cell? ⟨gb552, 2, none⟩ = some (.slice A0_2 l0_2.length c0_2) ∧ w'.cell? ⟨gb552, 3, none⟩ = some (.int .i64 a0_3) ∧ w'.cell? ⟨gb552, 4, none⟩ = some (.int .i64 a0_4) ∧ w'.cell? ⟨gb552, 5, none⟩ = some (.int .i64 a0_5) ∧ w'.cell? ⟨gb552, 6, none⟩ = some (.int .i64 a0_6)) ∧ (Kd.R (Kd.int .i64) 2 w' w.heap.size (fun _ => True) s_.1 t558) ∧ (w'.heap[gb552]? = some (.cells #[.int .i64 a0_0, .slice A0_1 l0_1.length c0_1, .slice A0_2 l0_2.length c0_2, .int .i64 a0_3, .int .i64 a0_4, .int .i64 a0_5, .int .i64 a0_6] 45 (0, 0))) ∧ (w'.heap[gb553]? = some (.cells #[.int .i64 0, .slice none 0 0, .slice none 0 0, .int .i64 0, .int .i64 0, .int .i64 0, .int .i64 0] 45 (0, 0))) ∧ (w'.heap[s_.2]? = some (.cells #[.int .i64 0, .slice none 0 0, .slice none 0 0, .int .i64 0, .int .i64 0, .int .i64 0, .int .i64 0] 45 (0, 0))) ∧ (w.heap.size ≤ s_.2) ∧ (w.heap.size ≤ s_.2) ∧ (gb552 ≠ s_.2) ∧ (s_.2 ≠ gb552) ∧ (gb553 ≠ s_.2) ∧ (s_.2 ≠ gb553) ∧ (Below w.heap.size w w')) ?_ ?_
       rotate_left
       ·intro hJ5_15
        refine join_ (σ := Value) 4 #[true, true, true, true, true, false, true, true, true, true, true, true, true, true, false, false, false] (fun s_ => [(21, s_)]) (fun s_ w' => (w'.cell? ⟨gb552, 0, none⟩ = some (.int .i64 a0_0) ∧ w'.cell? ⟨gb552, 1, none⟩ = some (.slice A0_1 l0_1.length c0_1) ∧ w'.cell? ⟨gb552, 2, none⟩ = some (.slice A0_2 l0_2.length c0_2) ∧ w'.cell? ⟨gb552, 3, none⟩ = some (.int .i64 a0_3) ∧ w'.cell? ⟨gb552, 4, none⟩ = some (.int .i64 a0_4) ∧ w'.cell? ⟨gb552, 5, none⟩ = some (.int .i64 a0_5) ∧ w'.cell? ⟨gb552, 6, none⟩ = some (.int .i64 a0_6)) ∧ (Kd.S k56 56 w' w.heap.size (fun _ => True) s_ y555) ∧ (w'.heap[gb552]? = some (.cells #[.int .i64 a0_0, .slice A0_1 l0_1.length c0_1, .slice A0_2 l0_2.length c0_2, .int .i64 a0_3, .int .i64 a0_4, .int .i64 a0_5, .int .i64 a0_6] 45 (0, 0))) ∧ (w'.heap[gb553]? = some (.cells #[.int .i64 0, .slice none 0 0, .slice none 0 0, .int .i64 0, .int .i64 0, .int .i64 0, .int .i64 0] 45 (0, 0))) ∧ (Below w.heap.size w w')) ?_ ?_
        rotate_left
        ·intro hJ2
         refine join_ (σ := Value) 4 #[true, true, false, true, true, true, true, true, true, true, true, true, true, true, false, false, false] (fun s_ => [(24, s_)]) (fun s_ w' => (w'.cell? ⟨gb552, 0, none⟩ = some (.int .i64 a0_0) ∧ w'.cell? ⟨gb552, 1, none⟩ = some (.slice A0_1 l0_1.length c0_1) ∧ w'.cell? ⟨gb552, 2, none⟩ = some (.slice A0_2 l0_2.length c0_2) ∧ w'.cell? ⟨gb552, 3, none⟩ = some (.int .i64 a0_3) ∧ w'.cell? ⟨gb552, 4, none⟩ = some (.int .i64 a0_4) ∧ w'.cell? ⟨gb552, 5, none⟩ = some (.int .i64 a0_5) ∧ w'.cell? ⟨gb552, 6, none⟩ = some (.int .i64 a0_6)) ∧ (Kd.R (Kd.int .i64) 2 w' w.heap.size (fun _ => True) s_ t558) ∧ (w'.heap[gb552]? = some (.cells #[.int .i64 a0_0, .slice A0_1 l0_1.length c0_1, .slice A0_2 l0_2.length c0_2, .int .i64 a0_3, .int .i64 a0_4, .int .i64 a0_5, .int .i64 a0_6] 45 (0, 0))) ∧ (w'.heap[gb553]? = some (.cells #[.int .i64 0, .slice none 0 0, .slice none 0 0, .int .i64 0, .int .i64 0, .int .i64 0, .int .i64 0] 45 (0, 0))) ∧ (Below w.heap.size w w')) ?_ ?_
         rotate_left
         ·intro hJ5
          refine join_ (σ := Nat) 4 #[true, true, false, true, true, false, true, true, true, true, true, true, true, true, false, true, false] (fun s_ => [(6, .pointer (some ⟨s_, 0, none⟩))]) (fun s_ w' => (w'.cell? ⟨gb552, 0, none⟩ = some (.int .i64 a0_0) ∧ w'.cell? ⟨gb552, 1, none⟩ = some (.slice A0_1 l0_1.length c0_1) ∧ w'.cell? ⟨gb552, 2, none⟩ = some (.slice A0_2 l0_2.length c0_2) ∧ w'.cell? ⟨gb552, 3, none⟩ = some (.int .i64 a0_3) ∧ w'.cell? ⟨gb552, 4, none⟩ = some (.int .i64 a0_4) ∧ w'.cell? ⟨gb552, 5, none⟩ = some (.int .i64 a0_5) ∧ w'.cell? ⟨gb552, 6, none⟩ = some (.int .i64 a0_6)) ∧ (w'.heap[gb552]? = some (.cells #[.int .i64 a0_0, .slice A0_1 l0_1.length c0_1, .slice A0_2 l0_2.length c0_2, .int .i64 a0_3, .int .i64 a0_4, .int .i64 a0_5, .int .i64 a0_6] 45 (0, 0))) ∧ (w'.heap[gb553]? = some (.cells #[.int .i64 0, .slice none 0 0, .slice none 0 0, .int .i64 0, .int .i64 0, .int .i64 0, .int .i64 0] 45 (0, 0))) ∧ (w'.heap[s_]? = some (.cells #[.int .i64 0, .slice none 0 0, .slice none 0 0, .int .i64 0, .int .i64 0, .int .i64 0, .int .i64 0] 45 (0, 0))) ∧ (w.heap.size ≤ s_) ∧ (w.heap.size ≤ s_) ∧ (gb552 ≠ s_) ∧ (s_ ≠ gb552) ∧ (gb553 ≠ s_) ∧ (s_ ≠ gb553) ∧ (Below w.heap.size w w')) ?_ ?_
          rotate_left
          ·intro hJ15
           refine three_ (i := 2) (j := 5) (k := 15) (Ni := some 21) (Nj := some 24) (Nk := some 6) #[true, true, true, true, true, false, true, true, true, true, true, true, true, true, false, false, false] #[true, true, false, true, true, true, true, true, true, true, true, true, true, true, false, false, false] #[true, true, false, true, true, false, true, true, true, true, true, true, true, true, false, true, false] rfl rfl rfl rfl rfl rfl (three_of HT_.out (by kernel_rfl)) (by decide) (by decide) (by decide) (fun K hK => ?_) (fun K hK => ?_) (fun K hK => ?_)
           ·skip
            refine Kd.S_lit_step k56 _ 56 ?hg (N := 21) ?hd (xs := ([] : List (S56))) (inner := []) (ok := fun _ => True) (okp := fun _ => True) ?hr ?hp (fun _ hk => hk) trivial (Below.refl _ _) (Nat.le_refl _) (by simp) ?_; (case hd => rfl); (case hg => rfl); (case hr => first | (go_simp; done) | (go_simp; rfl)); (case hp => exact (Reps.none _ _))
            intro v556 w20 ho21 hb hg_ hnew_
            clear hg_ hnew_
            (first | rw [← Ny555.out] at ho21 | (simp only [Int.reduceToNat] at ho21; rw [← Ny555.out] at ho21))
            have n0_ := Aside0.mk (Kd.S_lower ho21 (below_size (by with_reducible repeat (first | exact HB.out | apply below_alloc | apply pw_below_drewN | apply below_drew1 | refine below_set ?_ GE552.out | refine below_set ?_ GE553.out))))
            have n1_ := Aside0.mk (blk_below (g := gb552) (by (with_reducible repeat (first | refine blk_drewN ?_ _ | refine blk_drew ?_ | refine blk_alloc ?_ _)); exact BK552.out) hb)
            have n2_ := Aside0.mk (blk_below (g := gb553) (by (with_reducible repeat (first | refine blk_drewN ?_ _ | refine blk_drew ?_ | refine blk_alloc ?_ _)); exact BK553.out) hb)
            have n3_ := Aside0.mk (below_step (by with_reducible repeat (first | exact HB.out | apply below_alloc | apply pw_below_drewN | apply below_drew1 | refine below_set ?_ GE552.out | refine below_set ?_ GE553.out)) hb)
            clear BK552
            clear BK553
            clear HB
            have HO557 := n0_
            have BK552 := n1_
            have BK553 := n2_
            have HB := n3_
            clear n0_ n1_ n2_ n3_
            clear hb ho21
            refine hK.out _ _ ⟨(blk_cell BK552.out 0).trans rfl, (blk_cell BK552.out 1).trans rfl, (blk_cell BK552.out 2).trans rfl, (blk_cell BK552.out 3).trans rfl, (blk_cell BK552.out 4).trans rfl, (blk_cell BK552.out 5).trans rfl, (blk_cell BK552.out 6).trans rfl⟩ (fun hHeld => ?_)
            clear hK K
            refine norm_ (a' := ?_) ?_ ?_
            rotate_left
            ·show Act.put _ (some 21) _ = _
             simp only [Act.put, List.setIfInBounds_toArray, List.set_cons_zero, List.set_cons_succ, i64_w, i32_w]
             rfl
            exact norm_ (by first | (simp only [putAll, Act.put, List.setIfInBounds_toArray, List.set_cons_zero, List.set_cons_succ]; done) | (simp only [putAll, Act.put, List.setIfInBounds_toArray, List.set_cons_zero, List.set_cons_succ]; rfl)) (hJ2 (v556) _ ⟨hHeld, (by (with_reducible repeat (first | apply Kd.S_alloc | apply Kd.S_drewN | apply Kd.S_drew)); exact HO557.out), (by (with_reducible repeat (first | refine blk_drewN ?_ _ | refine blk_drew ?_ | refine blk_alloc ?_ _)); exact BK552.out), (by (with_reducible repeat (first | refine blk_drewN ?_ _ | refine blk_drew ?_ | refine blk_alloc ?_ _)); exact BK553.out), (by with_reducible repeat (first | exact HB.out | apply below_alloc | apply pw_below_drewN | apply below_drew1 | refine below_set ?_ GE552.out | refine below_set ?_ GE553.out))⟩)
           ·skip
            refine goes_ Try.func55 (by kernel_rfl) rfl #[.slice A0_2 l0_2.length c0_2] (by rfl) rfl rfl (by (try simp only [List.map_toArray, List.map_cons, List.map_nil]); first | done | rfl | (simp only [List.length_drop, List.length_take]; rfl)) ?_
            with_reducible refine (spec_l00Own.calls _ _ l0_2 t558 _ ?side1 ?side2 A18.out).mono ?_
            (case side1 => repeat (first | exact (Kd.C_below HR0_2.out HB.out) | (with_reducible refine Kd.C_alloc ?_ _) | (with_reducible refine Kd.C_drewN ?_ _) | (with_reducible refine Kd.C_drew ?_)))
            (case side2 => exact HC0_2.out)
            rintro e w20 ⟨v559, rfl, ho0, hb⟩
            refine ⟨_, rfl, ?_⟩
            have n0_ := Aside0.mk (Kd.R_lower ho0 (below_size (by with_reducible repeat (first | exact HB.out | apply below_alloc | apply pw_below_drewN | apply below_drew1 | refine below_set ?_ GE552.out | refine below_set ?_ GE553.out))))
            have n1_ := Aside0.mk (blk_below (g := gb552) (by (with_reducible repeat (first | refine blk_drewN ?_ _ | refine blk_drew ?_ | refine blk_alloc ?_ _)); exact BK552.out) hb)
            have n2_ := Aside0.mk (blk_below (g := gb553) (by (with_reducible repeat (first | refine blk_drewN ?_ _ | refine blk_drew ?_ | refine blk_alloc ?_ _)); exact BK553.out) hb)
            have n3_ := Aside0.mk (below_step (by with_reducible repeat (first | exact HB.out | apply below_alloc | apply pw_below_drewN | apply below_drew1 | refine below_set ?_ GE552.out | refine below_set ?_ GE553.out)) hb)
            clear BK552
            clear BK553
            clear HB
            have HO560 := n0_
            have BK552 := n1_
            have BK553 := n2_
            have HB := n3_
            clear n0_ n1_ n2_ n3_
            (try clear hb)
            (try clear hb2)
            (try clear hk)
            (try clear hi)
            (try clear ho0)
            refine hK.out _ _ ⟨(blk_cell BK552.out 0).trans rfl, (blk_cell BK552.out 1).trans rfl, (blk_cell BK552.out 2).trans rfl, (blk_cell BK552.out 3).trans rfl, (blk_cell BK552.out 4).trans rfl, (blk_cell BK552.out 5).trans rfl, (blk_cell BK552.out 6).trans rfl⟩ (fun hHeld => ?_)
            clear hK K
            refine norm_ (a' := ?_) ?_ ?_
            rotate_left
            ·show Act.put _ (some 24) _ = _
             simp only [Act.put, List.setIfInBounds_toArray, List.set_cons_zero, List.set_cons_succ, i64_w, i32_w]
             rfl
            exact norm_ (by first | (simp only [putAll, Act.put, List.setIfInBounds_toArray, List.set_cons_zero, List.set_cons_succ]; done) | (simp only [putAll, Act.put, List.setIfInBounds_toArray, List.set_cons_zero, List.set_cons_succ]; rfl)) (hJ5 (v559) _ ⟨hHeld, (by (with_reducible repeat (first | apply Kd.R_alloc | apply Kd.R_drewN | apply Kd.R_drew)); exact HO560.out), (by (with_reducible repeat (first | refine blk_drewN ?_ _ | refine blk_drew ?_ | refine blk_alloc ?_ _)); exact BK552.out), (by (with_reducible repeat (first | refine blk_drewN ?_ _ | refine blk_drew ?_ | refine blk_alloc ?_ _)); exact BK553.out), (by with_reducible repeat (first | exact HB.out | apply below_alloc | apply pw_below_drewN | apply below_drew1 | refine below_set ?_ GE552.out | refine below_set ?_ GE553.out))⟩)
           ·skip
            refine box_step ?hg (N := 6) ?hd (cs := #[.int .i64 0, .slice none 0 0, .slice none 0 0, .int .i64 0, .int .i64 0, .int .i64 0, .int .i64 0]) (t := 45) ?hr ?_; (case hd => rfl); (case hg => rfl); (case hr => first | (go_simp; done) | (go_simp; rfl))
            intro gb561 hg w20 hbox hb
            have n0_ := Aside0.mk (blk_below (g := gb552) (by (with_reducible repeat (first | refine blk_drewN ?_ _ | refine blk_drew ?_ | refine blk_alloc ?_ _)); exact BK552.out) hb)
            have n1_ := Aside0.mk (blk_below (g := gb553) (by (with_reducible repeat (first | refine blk_drewN ?_ _ | refine blk_drew ?_ | refine blk_alloc ?_ _)); exact BK553.out) hb)
            have n2_ := Aside0.mk (below_step (by with_reducible repeat (first | exact HB.out | apply below_alloc | apply pw_below_drewN | apply below_drew1 | refine below_set ?_ GE552.out | refine below_set ?_ GE553.out)) hb)
            have n3_ := Aside0.mk (hbox)
            have n4_ := Aside0.mk ((by rw [hg]; exact (below_size (by with_reducible repeat (first | exact HB.out | apply below_alloc | apply pw_below_drewN | apply below_drew1 | refine below_set ?_ GE552.out | refine below_set ?_ GE553.out))) : w.heap.size ≤ gb561))
            have n5_ := Aside0.mk ((by rw [hg]; exact (below_size (by with_reducible repeat (first | exact HB.out | apply below_alloc | apply pw_below_drewN | apply below_drew1 | refine below_set ?_ GE552.out | refine below_set ?_ GE553.out))) : w.heap.size ≤ gb561))
            have n6_ := Aside0.mk ((by rw [hg]; exact Nat.ne_of_lt (blk_lt (g := gb552) (by (with_reducible repeat (first | refine blk_drewN ?_ _ | refine blk_drew ?_ | refine blk_alloc ?_ _)); exact BK552.out)) : gb552 ≠ gb561))
            have n7_ := Aside0.mk ((by rw [hg]; exact Nat.ne_of_gt (blk_lt (g := gb552) (by (with_reducible repeat (first | refine blk_drewN ?_ _ | refine blk_drew ?_ | refine blk_alloc ?_ _)); exact BK552.out)) : gb561 ≠ gb552))
            have n8_ := Aside0.mk ((by rw [hg]; exact Nat.ne_of_lt (blk_lt (g := gb553) (by (with_reducible repeat (first | refine blk_drewN ?_ _ | refine blk_drew ?_ | refine blk_alloc ?_ _)); exact BK553.out)) : gb553 ≠ gb561))
            have n9_ := Aside0.mk ((by rw [hg]; exact Nat.ne_of_gt (blk_lt (g := gb553) (by (with_reducible repeat (first | refine blk_drewN ?_ _ | refine blk_drew ?_ | refine blk_alloc ?_ _)); exact BK553.out)) : gb561 ≠ gb553))
            clear BK552
            clear BK553
            clear HB
            have BK552 := n0_
            have BK553 := n1_
            have HB := n2_
            have BK561 := n3_
            have GW561 := n4_
            have GE561 := n5_
            have NB552_561 := n6_
            have NB561_552 := n7_
            have NB553_561 := n8_
            have NB561_553 := n9_
            clear n0_ n1_ n2_ n3_ n4_ n5_ n6_ n7_ n8_ n9_
            clear hb hbox hg
            refine hK.out _ _ ⟨(blk_cell BK552.out 0).trans rfl, (blk_cell BK552.out 1).trans rfl, (blk_cell BK552.out 2).trans rfl, (blk_cell BK552.out 3).trans rfl, (blk_cell BK552.out 4).trans rfl, (blk_cell BK552.out 5).trans rfl, (blk_cell BK552.out 6).trans rfl⟩ (fun hHeld => ?_)
            clear hK K
            refine norm_ (a' := ?_) ?_ ?_
            rotate_left
            ·show Act.put _ (some 6) _ = _
             simp only [Act.put, List.setIfInBounds_toArray, List.set_cons_zero, List.set_cons_succ, i64_w, i32_w]
             rfl
            exact norm_ (by first | (simp only [putAll, Act.put, List.setIfInBounds_toArray, List.set_cons_zero, List.set_cons_succ]; done) | (simp only [putAll, Act.put, List.setIfInBounds_toArray, List.set_cons_zero, List.set_cons_succ]; rfl)) (hJ15 (gb561) _ ⟨hHeld, (by (with_reducible repeat (first | refine blk_drewN ?_ _ | refine blk_drew ?_ | refine blk_alloc ?_ _)); exact BK552.out), (by (with_reducible repeat (first | refine blk_drewN ?_ _ | refine blk_drew ?_ | refine blk_alloc ?_ _)); exact BK553.out), (by (with_reducible repeat (first | refine blk_drewN ?_ _ | refine blk_drew ?_ | refine blk_alloc ?_ _)); exact BK561.out), GW561.out, GE561.out, NB552_561.out, NB561_552.out, NB553_561.out, NB561_553.out, (by with_reducible repeat (first | exact HB.out | apply below_alloc | apply pw_below_drewN | apply below_drew1 | refine below_set ?_ GE552.out | refine below_set ?_ GE553.out | refine below_set ?_ GE561.out))⟩)
          ·skip
           rintro gb561 w21 ⟨hS_, h0_, h1_, h2_, h3_, h4_, h5_, h6_, h7_, h8_, h9_⟩
           have n0_ : Aside0 (w21.heap[gb552]? = some (.cells #[.int .i64 a0_0, .slice A0_1 l0_1.length c0_1, .slice A0_2 l0_2.length c0_2, .int .i64 a0_3, .int .i64 a0_4, .int .i64 a0_5, .int .i64 a0_6] 45 (0, 0))) := ⟨h0_⟩
           have n1_ : Aside0 (w21.heap[gb553]? = some (.cells #[.int .i64 0, .slice none 0 0, .slice none 0 0, .int .i64 0, .int .i64 0, .int .i64 0, .int .i64 0] 45 (0, 0))) := ⟨h1_⟩
           have n2_ : Aside0 (w21.heap[gb561]? = some (.cells #[.int .i64 0, .slice none 0 0, .slice none 0 0, .int .i64 0, .int .i64 0, .int .i64 0, .int .i64 0] 45 (0, 0))) := ⟨h2_⟩
           have n3_ : Aside0 (w.heap.size ≤ gb561) := ⟨h3_⟩
           have n4_ : Aside0 (w.heap.size ≤ gb561) := ⟨h4_⟩
           have n5_ : Aside0 (gb552 ≠ gb561) := ⟨h5_⟩
           have n6_ : Aside0 (gb561 ≠ gb552) := ⟨h6_⟩
           have n7_ : Aside0 (gb553 ≠ gb561) := ⟨h7_⟩
           have n8_ : Aside0 (gb561 ≠ gb553) := ⟨h8_⟩
           have n9_ : Aside0 (Below w.heap.size w w21) := ⟨h9_⟩
           clear BK552
           clear BK553
           clear HB
           clear h0_ h1_ h2_ h3_ h4_ h5_ h6_ h7_ h8_ h9_
           have BK552 := n0_
           have BK553 := n1_
           have BK561 := n2_
           have GW561 := n3_
           have GE561 := n4_
           have NB552_561 := n5_
           have NB561_552 := n6_
           have NB553_561 := n7_
           have NB561_553 := n8_
           have HB := n9_
           clear n0_ n1_ n2_ n3_ n4_ n5_ n6_ n7_ n8_ n9_
           have hHeld : w21.cell? ⟨gb552, 0, none⟩ = some (.int .i64 a0_0) ∧ w21.cell? ⟨gb552, 1, none⟩ = some (.slice A0_1 l0_1.length c0_1) ∧ w21.cell? ⟨gb552, 2, none⟩ = some (.slice A0_2 l0_2.length c0_2) ∧ w21.cell? ⟨gb552, 3, none⟩ = some (.int .i64 a0_3) ∧ w21.cell? ⟨gb552, 4, none⟩ = some (.int .i64 a0_4) ∧ w21.cell? ⟨gb552, 5, none⟩ = some (.int .i64 a0_5) ∧ w21.cell? ⟨gb552, 6, none⟩ = some (.int .i64 a0_6) := hS_
           refine norm_ (a' := ?_) ?_ ?_
           rotate_left
           ·simp only [putAll, Act.put, List.setIfInBounds_toArray, List.set_cons_zero, List.set_cons_succ]
            rfl
           refine two_ (i := 2) (j := 5) (Ni := some 21) (Nj := some 24) #[true, true, true, true, true, false, true, true, true, true, true, true, true, true, false, true, false] #[true, true, false, true, true, true, true, true, true, true, true, true, true, true, false, true, false] rfl rfl rfl rfl (two_of HT_.out (by kernel_rfl)) (by decide) (by decide) (fun K hK => ?_) (fun K hK => ?_)
           ·skip
            refine Kd.S_lit_step k56 _ 56 ?hg (N := 21) ?hd (xs := ([] : List (S56))) (inner := []) (ok := fun _ => True) (okp := fun _ => True) ?hr ?hp (fun _ hk => hk) trivial (Below.refl _ _) (Nat.le_refl _) (by simp) ?_; (case hd => rfl); (case hg => rfl); (case hr => first | (go_simp; done) | (go_simp; rfl)); (case hp => exact (Reps.none _ _))
            intro v556 w22 ho23 hb hg_ hnew_
            clear hg_ hnew_
            (first | rw [← Ny555.out] at ho23 | (simp only [Int.reduceToNat] at ho23; rw [← Ny555.out] at ho23))
            have n0_ := Aside0.mk (Kd.S_lower ho23 (below_size (by with_reducible repeat (first | exact HB.out | apply below_alloc | apply pw_below_drewN | apply below_drew1 | refine below_set ?_ GE552.out | refine below_set ?_ GE553.out | refine below_set ?_ GE561.out))))
            have n1_ := Aside0.mk (blk_below (g := gb552) (by (with_reducible repeat (first | refine blk_drewN ?_ _ | refine blk_drew ?_ | refine blk_alloc ?_ _)); exact BK552.out) hb)
            have n2_ := Aside0.mk (blk_below (g := gb553) (by (with_reducible repeat (first | refine blk_drewN ?_ _ | refine blk_drew ?_ | refine blk_alloc ?_ _)); exact BK553.out) hb)
            have n3_ := Aside0.mk (blk_below (g := gb561) (by (with_reducible repeat (first | refine blk_drewN ?_ _ | refine blk_drew ?_ | refine blk_alloc ?_ _)); exact BK561.out) hb)
            have n4_ := Aside0.mk (below_step (by with_reducible repeat (first | exact HB.out | apply below_alloc | apply pw_below_drewN | apply below_drew1 | refine below_set ?_ GE552.out | refine below_set ?_ GE553.out | refine below_set ?_ GE561.out)) hb)
            clear BK552
            clear BK553
            clear BK561
            clear HB
            have HO557 := n0_
            have BK552 := n1_
            have BK553 := n2_
            have BK561 := n3_
            have HB := n4_
            clear n0_ n1_ n2_ n3_ n4_
            clear hb ho23
            refine hK.out _ _ ⟨(blk_cell BK552.out 0).trans rfl, (blk_cell BK552.out 1).trans rfl, (blk_cell BK552.out 2).trans rfl, (blk_cell BK552.out 3).trans rfl, (blk_cell BK552.out 4).trans rfl, (blk_cell BK552.out 5).trans rfl, (blk_cell BK552.out 6).trans rfl⟩ (fun hHeld => ?_)
            clear hK K
            refine norm_ (a' := ?_) ?_ ?_
            rotate_left
            ·show Act.put _ (some 21) _ = _
             simp only [Act.put, List.setIfInBounds_toArray, List.set_cons_zero, List.set_cons_succ, i64_w, i32_w]
             rfl
            exact norm_ (by first | (simp only [putAll, Act.put, List.setIfInBounds_toArray, List.set_cons_zero, List.set_cons_succ]; done) | (simp only [putAll, Act.put, List.setIfInBounds_toArray, List.set_cons_zero, List.set_cons_succ]; rfl)) (hJ2_15 (v556, gb561) _ ⟨hHeld, (by (with_reducible repeat (first | apply Kd.S_alloc | apply Kd.S_drewN | apply Kd.S_drew)); exact HO557.out), (by (with_reducible repeat (first | refine blk_drewN ?_ _ | refine blk_drew ?_ | refine blk_alloc ?_ _)); exact BK552.out), (by (with_reducible repeat (first | refine blk_drewN ?_ _ | refine blk_drew ?_ | refine blk_alloc ?_ _)); exact BK553.out), (by (with_reducible repeat (first | refine blk_drewN ?_ _ | refine blk_drew ?_ | refine blk_alloc ?_ _)); exact BK561.out), GW561.out, GE561.out, NB552_561.out, NB561_552.out, NB553_561.out, NB561_553.out, (by with_reducible repeat (first | exact HB.out | apply below_alloc | apply pw_below_drewN | apply below_drew1 | refine below_set ?_ GE552.out | refine below_set ?_ GE553.out | refine below_set ?_ GE561.out))⟩)
           ·skip
            refine goes_ Try.func55 (by kernel_rfl) rfl #[.slice A0_2 l0_2.length c0_2] (by rfl) rfl rfl (by (try simp only [List.map_toArray, List.map_cons, List.map_nil]); first | done | rfl | (simp only [List.length_drop, List.length_take]; rfl)) ?_
            with_reducible refine (spec_l00Own.calls _ _ l0_2 t558 _ ?side1 ?side2 A18.out).mono ?_
            (case side1 => repeat (first | exact (Kd.C_below HR0_2.out HB.out) | (with_reducible refine Kd.C_alloc ?_ _) | (with_reducible refine Kd.C_drewN ?_ _) | (with_reducible refine Kd.C_drew ?_)))
            (case side2 => exact HC0_2.out)
            rintro e w22 ⟨v559, rfl, ho0, hb⟩
            refine ⟨_, rfl, ?_⟩
            have n0_ := Aside0.mk (Kd.R_lower ho0 (below_size (by with_reducible repeat (first | exact HB.out | apply below_alloc | apply pw_below_drewN | apply below_drew1 | refine below_set ?_ GE552.out | refine below_set ?_ GE553.out | refine below_set ?_ GE561.out))))
            have n1_ := Aside0.mk (blk_below (g := gb552) (by (with_reducible repeat (first | refine blk_drewN ?_ _ | refine blk_drew ?_ | refine blk_alloc ?_ _)); exact BK552.out) hb)
            have n2_ := Aside0.mk (blk_below (g := gb553) (by (with_reducible repeat (first | refine blk_drewN ?_ _ | refine blk_drew ?_ | refine blk_alloc ?_ _)); exact BK553.out) hb)
            have n3_ := Aside0.mk (blk_below (g := gb561) (by (with_reducible repeat (first | refine blk_drewN ?_ _ | refine blk_drew ?_ | refine blk_alloc ?_ _)); exact BK561.out) hb)
            have n4_ := Aside0.mk (below_step (by with_reducible repeat (first | exact HB.out | apply below_alloc | apply pw_below_drewN | apply below_drew1 | refine below_set ?_ GE552.out | refine below_set ?_ GE553.out | refine below_set ?_ GE561.out)) hb)
            clear BK552
            clear BK553
            clear BK561
            clear HB
            have HO560 := n0_
            have BK552 := n1_
            have BK553 := n2_
            have BK561 := n3_
            have HB := n4_
            clear n0_ n1_ n2_ n3_ n4_
            (try clear hb)
            (try clear hb2)
            (try clear hk)
            (try clear hi)
            (try clear ho0)
            refine hK.out _ _ ⟨(blk_cell BK552.out 0).trans rfl, (blk_cell BK552.out 1).trans rfl, (blk_cell BK552.out 2).trans rfl, (blk_cell BK552.out 3).trans rfl, (blk_cell BK552.out 4).trans rfl, (blk_cell BK552.out 5).trans rfl, (blk_cell BK552.out 6).trans rfl⟩ (fun hHeld => ?_)
            clear hK K
            refine norm_ (a' := ?_) ?_ ?_
            rotate_left
            ·show Act.put _ (some 24) _ = _
             simp only [Act.put, List.setIfInBounds_toArray, List.set_cons_zero, List.set_cons_succ, i64_w, i32_w]
             rfl
            exact norm_ (by first | (simp only [putAll, Act.put, List.setIfInBounds_toArray, List.set_cons_zero, List.set_cons_succ]; done) | (simp only [putAll, Act.put, List.setIfInBounds_toArray, List.set_cons_zero, List.set_cons_succ]; rfl)) (hJ5_15 (v559, gb561) _ ⟨hHeld, (by (with_reducible repeat (first | apply Kd.R_alloc | apply Kd.R_drewN | apply Kd.R_drew)); exact HO560.out), (by (with_reducible repeat (first | refine blk_drewN ?_ _ | refine blk_drew ?_ | refine blk_alloc ?_ _)); exact BK552.out), (by (with_reducible repeat (first | refine blk_drewN ?_ _ | refine blk_drew ?_ | refine blk_alloc ?_ _)); exact BK553.out), (by (with_reducible repeat (first | refine blk_drewN ?_ _ | refine blk_drew ?_ | refine blk_alloc ?_ _)); exact BK561.out), GW561.out, GE561.out, NB552_561.out, NB561_552.out, NB553_561.out, NB561_553.out, (by with_reducible repeat (first | exact HB.out | apply below_alloc | apply pw_below_drewN | apply below_drew1 | refine below_set ?_ GE552.out | refine below_set ?_ GE553.out | refine below_set ?_ GE561.out))⟩)
         ·skip
          rintro v559 w21 ⟨hS_, h0_, h1_, h2_, h3_⟩
          have n0_ : Aside0 (Kd.R (Kd.int .i64) 2 w21 w.heap.size (fun _ => True) v559 t558) := ⟨h0_⟩
          have n1_ : Aside0 (w21.heap[gb552]? = some (.cells #[.int .i64 a0_0, .slice A0_1 l0_1.length c0_1, .slice A0_2 l0_2.length c0_2, .int .i64 a0_3, .int .i64 a0_4, .int .i64 a0_5, .int .i64 a0_6] 45 (0, 0))) := ⟨h1_⟩
          have n2_ : Aside0 (w21.heap[gb553]? = some (.cells #[.int .i64 0, .slice none 0 0, .slice none 0 0, .int .i64 0, .int .i64 0, .int .i64 0, .int .i64 0] 45 (0, 0))) := ⟨h2_⟩
          have n3_ : Aside0 (Below w.heap.size w w21) := ⟨h3_⟩
          clear BK552
          clear BK553
          clear HB
          clear h0_ h1_ h2_ h3_
          have HO560 := n0_
          have BK552 := n1_
          have BK553 := n2_
          have HB := n3_
          clear n0_ n1_ n2_ n3_
          have hHeld : w21.cell? ⟨gb552, 0, none⟩ = some (.int .i64 a0_0) ∧ w21.cell? ⟨gb552, 1, none⟩ = some (.slice A0_1 l0_1.length c0_1) ∧ w21.cell? ⟨gb552, 2, none⟩ = some (.slice A0_2 l0_2.length c0_2) ∧ w21.cell? ⟨gb552, 3, none⟩ = some (.int .i64 a0_3) ∧ w21.cell? ⟨gb552, 4, none⟩ = some (.int .i64 a0_4) ∧ w21.cell? ⟨gb552, 5, none⟩ = some (.int .i64 a0_5) ∧ w21.cell? ⟨gb552, 6, none⟩ = some (.int .i64 a0_6) := hS_
          refine norm_ (a' := ?_) ?_ ?_
          rotate_left
          ·simp only [putAll, Act.put, List.setIfInBounds_toArray, List.set_cons_zero, List.set_cons_succ]
           rfl
          refine two_ (i := 2) (j := 15) (Ni := some 21) (Nj := some 6) #[true, true, true, true, true, true, true, true, true, true, true, true, true, true, false, false, false] #[true, true, false, true, true, true, true, true, true, true, true, true, true, true, false, true, false] rfl rfl rfl rfl (two_of HT_.out (by kernel_rfl)) (by decide) (by decide) (fun K hK => ?_) (fun K hK => ?_)
          ·skip
           refine Kd.S_lit_step k56 _ 56 ?hg (N := 21) ?hd (xs := ([] : List (S56))) (inner := []) (ok := fun _ => True) (okp := fun _ => True) ?hr ?hp (fun _ hk => hk) trivial (Below.refl _ _) (Nat.le_refl _) (by simp) ?_; (case hd => rfl); (case hg => rfl); (case hr => first | (go_simp; done) | (go_simp; rfl)); (case hp => exact (Reps.none _ _))
           intro v556 w22 ho23 hb hg_ hnew_
           clear hg_ hnew_
           (first | rw [← Ny555.out] at ho23 | (simp only [Int.reduceToNat] at ho23; rw [← Ny555.out] at ho23))
           have n0_ := Aside0.mk (Kd.R_below (by (with_reducible repeat (first | apply Kd.R_alloc | apply Kd.R_drewN | apply Kd.R_drew)); exact HO560.out) hb)
           have n1_ := Aside0.mk (Kd.S_lower (Kd.S_new' ho23 (Kd.R_lt (by (with_reducible repeat (first | apply Kd.R_alloc | apply Kd.R_drewN | apply Kd.R_drew)); exact HO560.out))) (below_size (by with_reducible repeat (first | exact HB.out | apply below_alloc | apply pw_below_drewN | apply below_drew1 | refine below_set ?_ GE552.out | refine below_set ?_ GE553.out))))
           have n2_ := Aside0.mk (blk_below (g := gb552) (by (with_reducible repeat (first | refine blk_drewN ?_ _ | refine blk_drew ?_ | refine blk_alloc ?_ _)); exact BK552.out) hb)
           have n3_ := Aside0.mk (blk_below (g := gb553) (by (with_reducible repeat (first | refine blk_drewN ?_ _ | refine blk_drew ?_ | refine blk_alloc ?_ _)); exact BK553.out) hb)
           have n4_ := Aside0.mk (below_step (by with_reducible repeat (first | exact HB.out | apply below_alloc | apply pw_below_drewN | apply below_drew1 | refine below_set ?_ GE552.out | refine below_set ?_ GE553.out)) hb)
           clear HO560
           clear BK552
           clear BK553
           clear HB
           have HO560 := n0_
           have HO557 := n1_
           have BK552 := n2_
           have BK553 := n3_
           have HB := n4_
           clear n0_ n1_ n2_ n3_ n4_
           clear hb ho23
           obtain ⟨Ao24, co24, eo24⟩ := Kd.R_slice HO560.out
           (first | subst eo24 | (injection eo24 with f1_ f2_ f3_; have f4_ := f1_.symm; have f5_ := f3_.symm; clear f1_ f2_ f3_; subst f4_; subst f5_))
           obtain ⟨Ao25, co25, eo25⟩ := Kd.S_slice HO557.out
           (first | subst eo25 | (injection eo25 with f1_ f2_ f3_; have f4_ := f1_.symm; have f5_ := f3_.symm; clear f1_ f2_ f3_; subst f4_; subst f5_))
           refine hK.out _ _ ⟨(blk_cell BK552.out 0).trans rfl, (blk_cell BK552.out 1).trans rfl, (blk_cell BK552.out 2).trans rfl, (blk_cell BK552.out 3).trans rfl, (blk_cell BK552.out 4).trans rfl, (blk_cell BK552.out 5).trans rfl, (blk_cell BK552.out 6).trans rfl⟩ (fun hHeld => ?_)
           clear hK K
           refine norm_ (a' := ?_) ?_ ?_
           rotate_left
           ·show Act.put _ (some 21) _ = _
            simp only [Act.put, List.setIfInBounds_toArray, List.set_cons_zero, List.set_cons_succ, i64_w, i32_w]
            rfl
           refine pure_ (i := 14) (N := some 33) (v := ?_) (a' := ?_) #[true, true, true, true, true, true, true, true, true, true, true, true, true, true, true, false, false] rfl rfl (any_of HT_.out (by kernel_rfl)) (fun _ _ _ h => h) (Or.inl ⟨by rfl, ?_⟩) ?_ ?_
           rotate_left
           ·intro w'
            go_simp
            with_reducible rfl
           rotate_left
           ·simp only [Act.put, List.setIfInBounds_toArray, List.set_cons_zero, List.set_cons_succ, i64_w, i32_w]
            rfl
           exact norm_ (by first | (simp only [putAll, Act.put, List.setIfInBounds_toArray, List.set_cons_zero, List.set_cons_succ]; done) | (simp only [putAll, Act.put, List.setIfInBounds_toArray, List.set_cons_zero, List.set_cons_succ]; rfl)) (hJ2_5 (.slice Ao25 y555.length co25, .slice Ao24 t558.length co24) _ ⟨hHeld, (by (with_reducible repeat (first | apply Kd.S_alloc | apply Kd.S_drewN | apply Kd.S_drew)); exact Kd.S_mono HO557.out (fun _ hk => hk.2)), (by (with_reducible repeat (first | apply Kd.R_alloc | apply Kd.R_drewN | apply Kd.R_drew)); exact HO560.out), (by (with_reducible repeat (first | refine blk_drewN ?_ _ | refine blk_drew ?_ | refine blk_alloc ?_ _)); exact BK552.out), (by (with_reducible repeat (first | refine blk_drewN ?_ _ | refine blk_drew ?_ | refine blk_alloc ?_ _)); exact BK553.out), (by with_reducible repeat (first | exact HB.out | apply below_alloc | apply pw_below_drewN | apply below_drew1 | refine below_set ?_ GE552.out | refine below_set ?_ GE553.out))⟩)
          ·skip
           refine box_step ?hg (N := 6) ?hd (cs := #[.int .i64 0, .slice none 0 0, .slice none 0 0, .int .i64 0, .int .i64 0, .int .i64 0, .int .i64 0]) (t := 45) ?hr ?_; (case hd => rfl); (case hg => rfl); (case hr => first | (go_simp; done) | (go_simp; rfl))
           intro gb561 hg w22 hbox hb
           have n0_ := Aside0.mk (Kd.R_below (by (with_reducible repeat (first | apply Kd.R_alloc | apply Kd.R_drewN | apply Kd.R_drew)); exact HO560.out) hb)
           have n1_ := Aside0.mk (blk_below (g := gb552) (by (with_reducible repeat (first | refine blk_drewN ?_ _ | refine blk_drew ?_ | refine blk_alloc ?_ _)); exact BK552.out) hb)
           have n2_ := Aside0.mk (blk_below (g := gb553) (by (with_reducible repeat (first | refine blk_drewN ?_ _ | refine blk_drew ?_ | refine blk_alloc ?_ _)); exact BK553.out) hb)
           have n3_ := Aside0.mk (below_step (by with_reducible repeat (first | exact HB.out | apply below_alloc | apply pw_below_drewN | apply below_drew1 | refine below_set ?_ GE552.out | refine below_set ?_ GE553.out)) hb)
           have n4_ := Aside0.mk (hbox)
           have n5_ := Aside0.mk ((by rw [hg]; exact (below_size (by with_reducible repeat (first | exact HB.out | apply below_alloc | apply pw_below_drewN | apply below_drew1 | refine below_set ?_ GE552.out | refine below_set ?_ GE553.out))) : w.heap.size ≤ gb561))
           have n6_ := Aside0.mk ((by rw [hg]; exact (below_size (by with_reducible repeat (first | exact HB.out | apply below_alloc | apply pw_below_drewN | apply below_drew1 | refine below_set ?_ GE552.out | refine below_set ?_ GE553.out))) : w.heap.size ≤ gb561))
           have n7_ := Aside0.mk ((by rw [hg]; exact Nat.ne_of_lt (blk_lt (g := gb552) (by (with_reducible repeat (first | refine blk_drewN ?_ _ | refine blk_drew ?_ | refine blk_alloc ?_ _)); exact BK552.out)) : gb552 ≠ gb561))
           have n8_ := Aside0.mk ((by rw [hg]; exact Nat.ne_of_gt (blk_lt (g := gb552) (by (with_reducible repeat (first | refine blk_drewN ?_ _ | refine blk_drew ?_ | refine blk_alloc ?_ _)); exact BK552.out)) : gb561 ≠ gb552))
           have n9_ := Aside0.mk ((by rw [hg]; exact Nat.ne_of_lt (blk_lt (g := gb553) (by (with_reducible repeat (first | refine blk_drewN ?_ _ | refine blk_drew ?_ | refine blk_alloc ?_ _)); exact BK553.out)) : gb553 ≠ gb561))
           have n10_ := Aside0.mk ((by rw [hg]; exact Nat.ne_of_gt (blk_lt (g := gb553) (by (with_reducible repeat (first | refine blk_drewN ?_ _ | refine blk_drew ?_ | refine blk_alloc ?_ _)); exact BK553.out)) : gb561 ≠ gb553))
           clear HO560
           clear BK552
           clear BK553
           clear HB
           have HO560 := n0_
           have BK552 := n1_
           have BK553 := n2_
           have HB := n3_
           have BK561 := n4_
           have GW561 := n5_
           have GE561 := n6_
           have NB552_561 := n7_
           have NB561_552 := n8_
           have NB553_561 := n9_
           have NB561_553 := n10_
           clear n0_ n1_ n2_ n3_ n4_ n5_ n6_ n7_ n8_ n9_ n10_
           clear hb hbox hg
           refine hK.out _ _ ⟨(blk_cell BK552.out 0).trans rfl, (blk_cell BK552.out 1).trans rfl, (blk_cell BK552.out 2).trans rfl, (blk_cell BK552.out 3).trans rfl, (blk_cell BK552.out 4).trans rfl, (blk_cell BK552.out 5).trans rfl, (blk_cell BK552.out 6).trans rfl⟩ (fun hHeld => ?_)
           clear hK K
           refine norm_ (a' := ?_) ?_ ?_
           rotate_left
           ·show Act.put _ (some 6) _ = _
            simp only [Act.put, List.setIfInBounds_toArray, List.set_cons_zero, List.set_cons_succ, i64_w, i32_w]
            rfl
           exact norm_ (by first | (simp only [putAll, Act.put, List.setIfInBounds_toArray, List.set_cons_zero, List.set_cons_succ]; done) | (simp only [putAll, Act.put, List.setIfInBounds_toArray, List.set_cons_zero, List.set_cons_succ]; rfl)) (hJ5_15 (v559, gb561) _ ⟨hHeld, (by (with_reducible repeat (first | apply Kd.R_alloc | apply Kd.R_drewN | apply Kd.R_drew)); exact HO560.out), (by (with_reducible repeat (first | refine blk_drewN ?_ _ | refine blk_drew ?_ | refine blk_alloc ?_ _)); exact BK552.out), (by (with_reducible repeat (first | refine blk_drewN ?_ _ | refine blk_drew ?_ | refine blk_alloc ?_ _)); exact BK553.out), (by (with_reducible repeat (first | refine blk_drewN ?_ _ | refine blk_drew ?_ | refine blk_alloc ?_ _)); exact BK561.out), GW561.out, GE561.out, NB552_561.out, NB561_552.out, NB553_561.out, NB561_553.out, (by with_reducible repeat (first | exact HB.out | apply below_alloc | apply pw_below_drewN | apply below_drew1 | refine below_set ?_ GE552.out | refine below_set ?_ GE553.out | refine below_set ?_ GE561.out))⟩)
        ·skip
         rintro v556 w22 ⟨hS_, h0_, h1_, h2_, h3_⟩
         have n0_ : Aside0 (Kd.S k56 56 w22 w.heap.size (fun _ => True) v556 y555) := ⟨h0_⟩
         have n1_ : Aside0 (w22.heap[gb552]? = some (.cells #[.int .i64 a0_0, .slice A0_1 l0_1.length c0_1, .slice A0_2 l0_2.length c0_2, .int .i64 a0_3, .int .i64 a0_4, .int .i64 a0_5, .int .i64 a0_6] 45 (0, 0))) := ⟨h1_⟩
         have n2_ : Aside0 (w22.heap[gb553]? = some (.cells #[.int .i64 0, .slice none 0 0, .slice none 0 0, .int .i64 0, .int .i64 0, .int .i64 0, .int .i64 0] 45 (0, 0))) := ⟨h2_⟩
         have n3_ : Aside0 (Below w.heap.size w w22) := ⟨h3_⟩
         clear BK552
         clear BK553
         clear HB
         clear h0_ h1_ h2_ h3_
         have HO557 := n0_
         have BK552 := n1_
         have BK553 := n2_
         have HB := n3_
         clear n0_ n1_ n2_ n3_
         have hHeld : w22.cell? ⟨gb552, 0, none⟩ = some (.int .i64 a0_0) ∧ w22.cell? ⟨gb552, 1, none⟩ = some (.slice A0_1 l0_1.length c0_1) ∧ w22.cell? ⟨gb552, 2, none⟩ = some (.slice A0_2 l0_2.length c0_2) ∧ w22.cell? ⟨gb552, 3, none⟩ = some (.int .i64 a0_3) ∧ w22.cell? ⟨gb552, 4, none⟩ = some (.int .i64 a0_4) ∧ w22.cell? ⟨gb552, 5, none⟩ = some (.int .i64 a0_5) ∧ w22.cell? ⟨gb552, 6, none⟩ = some (.int .i64 a0_6) := hS_
         refine norm_ (a' := ?_) ?_ ?_
         rotate_left
         ·simp only [putAll, Act.put, List.setIfInBounds_toArray, List.set_cons_zero, List.set_cons_succ]
          rfl
         refine two_ (i := 5) (j := 15) (Ni := some 24) (Nj := some 6) #[true, true, true, true, true, true, true, true, true, true, true, true, true, true, false, false, false] #[true, true, true, true, true, false, true, true, true, true, true, true, true, true, false, true, false] rfl rfl rfl rfl (two_of HT_.out (by kernel_rfl)) (by decide) (by decide) (fun K hK => ?_) (fun K hK => ?_)
         ·skip
          refine goes_ Try.func55 (by kernel_rfl) rfl #[.slice A0_2 l0_2.length c0_2] (by rfl) rfl rfl (by (try simp only [List.map_toArray, List.map_cons, List.map_nil]); first | done | rfl | (simp only [List.length_drop, List.length_take]; rfl)) ?_
          with_reducible refine (spec_l00Own.calls _ _ l0_2 t558 _ ?side1 ?side2 A18.out).mono ?_
          (case side1 => repeat (first | exact (Kd.C_below HR0_2.out HB.out) | (with_reducible refine Kd.C_alloc ?_ _) | (with_reducible refine Kd.C_drewN ?_ _) | (with_reducible refine Kd.C_drew ?_)))
          (case side2 => exact HC0_2.out)
          rintro e w23 ⟨v559, rfl, ho0, hb⟩
          refine ⟨_, rfl, ?_⟩
          have n0_ := Aside0.mk (Kd.S_elder' (by (with_reducible repeat (first | apply Kd.S_alloc | apply Kd.S_drewN | apply Kd.S_drew)); exact HO557.out) (Kd.R_base ho0) hb)
          have n1_ := Aside0.mk (Kd.R_lower ho0 (below_size (by with_reducible repeat (first | exact HB.out | apply below_alloc | apply pw_below_drewN | apply below_drew1 | refine below_set ?_ GE552.out | refine below_set ?_ GE553.out))))
          have n2_ := Aside0.mk (blk_below (g := gb552) (by (with_reducible repeat (first | refine blk_drewN ?_ _ | refine blk_drew ?_ | refine blk_alloc ?_ _)); exact BK552.out) hb)
          have n3_ := Aside0.mk (blk_below (g := gb553) (by (with_reducible repeat (first | refine blk_drewN ?_ _ | refine blk_drew ?_ | refine blk_alloc ?_ _)); exact BK553.out) hb)
          have n4_ := Aside0.mk (below_step (by with_reducible repeat (first | exact HB.out | apply below_alloc | apply pw_below_drewN | apply below_drew1 | refine below_set ?_ GE552.out | refine below_set ?_ GE553.out)) hb)
          clear HO557
          clear BK552
          clear BK553
          clear HB
          have HO557 := n0_
          have HO560 := n1_
          have BK552 := n2_
          have BK553 := n3_
          have HB := n4_
          clear n0_ n1_ n2_ n3_ n4_
          (try clear hb)
          (try clear hb2)
          (try clear hk)
          (try clear hi)
          (try clear ho0)
          obtain ⟨Ao24, co24, eo24⟩ := Kd.R_slice HO560.out
          (first | subst eo24 | (injection eo24 with f1_ f2_ f3_; have f4_ := f1_.symm; have f5_ := f3_.symm; clear f1_ f2_ f3_; subst f4_; subst f5_))
          obtain ⟨Ao25, co25, eo25⟩ := Kd.S_slice HO557.out
          (first | subst eo25 | (injection eo25 with f1_ f2_ f3_; have f4_ := f1_.symm; have f5_ := f3_.symm; clear f1_ f2_ f3_; subst f4_; subst f5_))
          refine hK.out _ _ ⟨(blk_cell BK552.out 0).trans rfl, (blk_cell BK552.out 1).trans rfl, (blk_cell BK552.out 2).trans rfl, (blk_cell BK552.out 3).trans rfl, (blk_cell BK552.out 4).trans rfl, (blk_cell BK552.out 5).trans rfl, (blk_cell BK552.out 6).trans rfl⟩ (fun hHeld => ?_)
          clear hK K
          refine norm_ (a' := ?_) ?_ ?_
          rotate_left
          ·show Act.put _ (some 24) _ = _
           simp only [Act.put, List.setIfInBounds_toArray, List.set_cons_zero, List.set_cons_succ, i64_w, i32_w]
           rfl
          refine pure_ (i := 14) (N := some 33) (v := ?_) (a' := ?_) #[true, true, true, true, true, true, true, true, true, true, true, true, true, true, true, false, false] rfl rfl (any_of HT_.out (by kernel_rfl)) (fun _ _ _ h => h) (Or.inl ⟨by rfl, ?_⟩) ?_ ?_
          rotate_left
          ·intro w'
           go_simp
           with_reducible rfl
          rotate_left
          ·simp only [Act.put, List.setIfInBounds_toArray, List.set_cons_zero, List.set_cons_succ, i64_w, i32_w]
           rfl
          exact norm_ (by first | (simp only [putAll, Act.put, List.setIfInBounds_toArray, List.set_cons_zero, List.set_cons_succ]; done) | (simp only [putAll, Act.put, List.setIfInBounds_toArray, List.set_cons_zero, List.set_cons_succ]; rfl)) (hJ2_5 (.slice Ao25 y555.length co25, .slice Ao24 t558.length co24) _ ⟨hHeld, (by (with_reducible repeat (first | apply Kd.S_alloc | apply Kd.S_drewN | apply Kd.S_drew)); exact Kd.S_mono HO557.out (fun _ hk => hk.2)), (by (with_reducible repeat (first | apply Kd.R_alloc | apply Kd.R_drewN | apply Kd.R_drew)); exact HO560.out), (by (with_reducible repeat (first | refine blk_drewN ?_ _ | refine blk_drew ?_ | refine blk_alloc ?_ _)); exact BK552.out), (by (with_reducible repeat (first | refine blk_drewN ?_ _ | refine blk_drew ?_ | refine blk_alloc ?_ _)); exact BK553.out), (by with_reducible repeat (first | exact HB.out | apply below_alloc | apply pw_below_drewN | apply below_drew1 | refine below_set ?_ GE552.out | refine below_set ?_ GE553.out))⟩)
         ·skip
          refine box_step ?hg (N := 6) ?hd (cs := #[.int .i64 0, .slice none 0 0, .slice none 0 0, .int .i64 0, .int .i64 0, .int .i64 0, .int .i64 0]) (t := 45) ?hr ?_; (case hd => rfl); (case hg => rfl); (case hr => first | (go_simp; done) | (go_simp; rfl))
          intro gb561 hg w23 hbox hb
          have n0_ := Aside0.mk (Kd.S_below (by (with_reducible repeat (first | apply Kd.S_alloc | apply Kd.S_drewN | apply Kd.S_drew)); exact HO557.out) hb)
          have n1_ := Aside0.mk (blk_below (g := gb552) (by (with_reducible repeat (first | refine blk_drewN ?_ _ | refine blk_drew ?_ | refine blk_alloc ?_ _)); exact BK552.out) hb)
          have n2_ := Aside0.mk (blk_below (g := gb553) (by (with_reducible repeat (first | refine blk_drewN ?_ _ | refine blk_drew ?_ | refine blk_alloc ?_ _)); exact BK553.out) hb)
          have n3_ := Aside0.mk (below_step (by with_reducible repeat (first | exact HB.out | apply below_alloc | apply pw_below_drewN | apply below_drew1 | refine below_set ?_ GE552.out | refine below_set ?_ GE553.out)) hb)
          have n4_ := Aside0.mk (hbox)
          have n5_ := Aside0.mk ((by rw [hg]; exact (below_size (by with_reducible repeat (first | exact HB.out | apply below_alloc | apply pw_below_drewN | apply below_drew1 | refine below_set ?_ GE552.out | refine below_set ?_ GE553.out))) : w.heap.size ≤ gb561))
          have n6_ := Aside0.mk ((by rw [hg]; exact (below_size (by with_reducible repeat (first | exact HB.out | apply below_alloc | apply pw_below_drewN | apply below_drew1 | refine below_set ?_ GE552.out | refine below_set ?_ GE553.out))) : w.heap.size ≤ gb561))
          have n7_ := Aside0.mk ((by rw [hg]; exact Nat.ne_of_lt (blk_lt (g := gb552) (by (with_reducible repeat (first | refine blk_drewN ?_ _ | refine blk_drew ?_ | refine blk_alloc ?_ _)); exact BK552.out)) : gb552 ≠ gb561))
          have n8_ := Aside0.mk ((by rw [hg]; exact Nat.ne_of_gt (blk_lt (g := gb552) (by (with_reducible repeat (first | refine blk_drewN ?_ _ | refine blk_drew ?_ | refine blk_alloc ?_ _)); exact BK552.out)) : gb561 ≠ gb552))
          have n9_ := Aside0.mk ((by rw [hg]; exact Nat.ne_of_lt (blk_lt (g := gb553) (by (with_reducible repeat (first | refine blk_drewN ?_ _ | refine blk_drew ?_ | refine blk_alloc ?_ _)); exact BK553.out)) : gb553 ≠ gb561))
          have n10_ := Aside0.mk ((by rw [hg]; exact Nat.ne_of_gt (blk_lt (g := gb553) (by (with_reducible repeat (first | refine blk_drewN ?_ _ | refine blk_drew ?_ | refine blk_alloc ?_ _)); exact BK553.out)) : gb561 ≠ gb553))
          clear HO557
          clear BK552
          clear BK553
          clear HB
          have HO557 := n0_
          have BK552 := n1_
          have BK553 := n2_
          have HB := n3_
          have BK561 := n4_
          have GW561 := n5_
          have GE561 := n6_
          have NB552_561 := n7_
          have NB561_552 := n8_
          have NB553_561 := n9_
          have NB561_553 := n10_
          clear n0_ n1_ n2_ n3_ n4_ n5_ n6_ n7_ n8_ n9_ n10_
          clear hb hbox hg
          refine hK.out _ _ ⟨(blk_cell BK552.out 0).trans rfl, (blk_cell BK552.out 1).trans rfl, (blk_cell BK552.out 2).trans rfl, (blk_cell BK552.out 3).trans rfl, (blk_cell BK552.out 4).trans rfl, (blk_cell BK552.out 5).trans rfl, (blk_cell BK552.out 6).trans rfl⟩ (fun hHeld => ?_)
          clear hK K
          refine norm_ (a' := ?_) ?_ ?_
          rotate_left
          ·show Act.put _ (some 6) _ = _
           simp only [Act.put, List.setIfInBounds_toArray, List.set_cons_zero, List.set_cons_succ, i64_w, i32_w]
           rfl
          exact norm_ (by first | (simp only [putAll, Act.put, List.setIfInBounds_toArray, List.set_cons_zero, List.set_cons_succ]; done) | (simp only [putAll, Act.put, List.setIfInBounds_toArray, List.set_cons_zero, List.set_cons_succ]; rfl)) (hJ2_15 (v556, gb561) _ ⟨hHeld, (by (with_reducible repeat (first | apply Kd.S_alloc | apply Kd.S_drewN | apply Kd.S_drew)); exact HO557.out), (by (with_reducible repeat (first | refine blk_drewN ?_ _ | refine blk_drew ?_ | refine blk_alloc ?_ _)); exact BK552.out), (by (with_reducible repeat (first | refine blk_drewN ?_ _ | refine blk_drew ?_ | refine blk_alloc ?_ _)); exact BK553.out), (by (with_reducible repeat (first | refine blk_drewN ?_ _ | refine blk_drew ?_ | refine blk_alloc ?_ _)); exact BK561.out), GW561.out, GE561.out, NB552_561.out, NB561_552.out, NB553_561.out, NB561_553.out, (by with_reducible repeat (first | exact HB.out | apply below_alloc | apply pw_below_drewN | apply below_drew1 | refine below_set ?_ GE552.out | refine below_set ?_ GE553.out | refine below_set ?_ GE561.out))⟩)
       ·skip
        rintro ⟨v559, gb561⟩ w22 ⟨hS_, h0_, h1_, h2_, h3_, h4_, h5_, h6_, h7_, h8_, h9_, h10_⟩
        have n0_ : Aside0 (Kd.R (Kd.int .i64) 2 w22 w.heap.size (fun _ => True) v559 t558) := ⟨h0_⟩
        have n1_ : Aside0 (w22.heap[gb552]? = some (.cells #[.int .i64 a0_0, .slice A0_1 l0_1.length c0_1, .slice A0_2 l0_2.length c0_2, .int .i64 a0_3, .int .i64 a0_4, .int .i64 a0_5, .int .i64 a0_6] 45 (0, 0))) := ⟨h1_⟩
        have n2_ : Aside0 (w22.heap[gb553]? = some (.cells #[.int .i64 0, .slice none 0 0, .slice none 0 0, .int .i64 0, .int .i64 0, .int .i64 0, .int .i64 0] 45 (0, 0))) := ⟨h2_⟩
        have n3_ : Aside0 (w22.heap[gb561]? = some (.cells #[.int .i64 0, .slice none 0 0, .slice none 0 0, .int .i64 0, .int .i64 0, .int .i64 0, .int .i64 0] 45 (0, 0))) := ⟨h3_⟩
        have n4_ : Aside0 (w.heap.size ≤ gb561) := ⟨h4_⟩
        have n5_ : Aside0 (w.heap.size ≤ gb561) := ⟨h5_⟩
        have n6_ : Aside0 (gb552 ≠ gb561) := ⟨h6_⟩
        have n7_ : Aside0 (gb561 ≠ gb552) := ⟨h7_⟩
        have n8_ : Aside0 (gb553 ≠ gb561) := ⟨h8_⟩
        have n9_ : Aside0 (gb561 ≠ gb553) := ⟨h9_⟩
        have n10_ : Aside0 (Below w.heap.size w w22) := ⟨h10_⟩
        clear BK552
        clear BK553
        clear HB
        clear h0_ h1_ h2_ h3_ h4_ h5_ h6_ h7_ h8_ h9_ h10_
        have HO560 := n0_
        have BK552 := n1_
        have BK553 := n2_
        have BK561 := n3_
        have GW561 := n4_
        have GE561 := n5_
        have NB552_561 := n6_
        have NB561_552 := n7_
        have NB553_561 := n8_
        have NB561_553 := n9_
        have HB := n10_
        clear n0_ n1_ n2_ n3_ n4_ n5_ n6_ n7_ n8_ n9_ n10_
        have hHeld : w22.cell? ⟨gb552, 0, none⟩ = some (.int .i64 a0_0) ∧ w22.cell? ⟨gb552, 1, none⟩ = some (.slice A0_1 l0_1.length c0_1) ∧ w22.cell? ⟨gb552, 2, none⟩ = some (.slice A0_2 l0_2.length c0_2) ∧ w22.cell? ⟨gb552, 3, none⟩ = some (.int .i64 a0_3) ∧ w22.cell? ⟨gb552, 4, none⟩ = some (.int .i64 a0_4) ∧ w22.cell? ⟨gb552, 5, none⟩ = some (.int .i64 a0_5) ∧ w22.cell? ⟨gb552, 6, none⟩ = some (.int .i64 a0_6) := hS_
        refine norm_ (a' := ?_) ?_ ?_
        rotate_left
        ·simp only [putAll, Act.put, List.setIfInBounds_toArray, List.set_cons_zero, List.set_cons_succ]
         rfl
        refine one_ (i := 2) (N := some 21) #[true, true, true, true, true, true, true, true, true, true, true, true, true, true, false, true, false] rfl rfl (one_of HT_.out (by kernel_rfl)) (by decide) (fun K hK => ?_)
        refine Kd.S_lit_step k56 _ 56 ?hg (N := 21) ?hd (xs := ([] : List (S56))) (inner := []) (ok := fun _ => True) (okp := fun _ => True) ?hr ?hp (fun _ hk => hk) trivial (Below.refl _ _) (Nat.le_refl _) (by simp) ?_; (case hd => rfl); (case hg => rfl); (case hr => first | (go_simp; done) | (go_simp; rfl)); (case hp => exact (Reps.none _ _))
        intro v556 w23 ho24 hb hg_ hnew_
        clear hg_ hnew_
        (first | rw [← Ny555.out] at ho24 | (simp only [Int.reduceToNat] at ho24; rw [← Ny555.out] at ho24))
        have n0_ := Aside0.mk (Kd.R_below (by (with_reducible repeat (first | apply Kd.R_alloc | apply Kd.R_drewN | apply Kd.R_drew)); exact HO560.out) hb)
        have n1_ := Aside0.mk (Kd.S_lower (Kd.S_new' ho24 (Kd.R_lt (by (with_reducible repeat (first | apply Kd.R_alloc | apply Kd.R_drewN | apply Kd.R_drew)); exact HO560.out))) (below_size (by with_reducible repeat (first | exact HB.out | apply below_alloc | apply pw_below_drewN | apply below_drew1 | refine below_set ?_ GE552.out | refine below_set ?_ GE553.out | refine below_set ?_ GE561.out))))
        have n2_ := Aside0.mk (blk_below (g := gb552) (by (with_reducible repeat (first | refine blk_drewN ?_ _ | refine blk_drew ?_ | refine blk_alloc ?_ _)); exact BK552.out) hb)
        have n3_ := Aside0.mk (blk_below (g := gb553) (by (with_reducible repeat (first | refine blk_drewN ?_ _ | refine blk_drew ?_ | refine blk_alloc ?_ _)); exact BK553.out) hb)
        have n4_ := Aside0.mk (blk_below (g := gb561) (by (with_reducible repeat (first | refine blk_drewN ?_ _ | refine blk_drew ?_ | refine blk_alloc ?_ _)); exact BK561.out) hb)
        have n5_ := Aside0.mk (below_step (by with_reducible repeat (first | exact HB.out | apply below_alloc | apply pw_below_drewN | apply below_drew1 | refine below_set ?_ GE552.out | refine below_set ?_ GE553.out | refine below_set ?_ GE561.out)) hb)
        clear HO560
        clear BK552
        clear BK553
        clear BK561
        clear HB
        have HO560 := n0_
        have HO557 := n1_
        have BK552 := n2_
        have BK553 := n3_
        have BK561 := n4_
        have HB := n5_
        clear n0_ n1_ n2_ n3_ n4_ n5_
        clear hb ho24
        obtain ⟨Ao25, co25, eo25⟩ := Kd.R_slice HO560.out
        (first | subst eo25 | (injection eo25 with f1_ f2_ f3_; have f4_ := f1_.symm; have f5_ := f3_.symm; clear f1_ f2_ f3_; subst f4_; subst f5_))
        obtain ⟨Ao26, co26, eo26⟩ := Kd.S_slice HO557.out
        (first | subst eo26 | (injection eo26 with f1_ f2_ f3_; have f4_ := f1_.symm; have f5_ := f3_.symm; clear f1_ f2_ f3_; subst f4_; subst f5_))
        refine hK.out _ _ ⟨(blk_cell BK552.out 0).trans rfl, (blk_cell BK552.out 1).trans rfl, (blk_cell BK552.out 2).trans rfl, (blk_cell BK552.out 3).trans rfl, (blk_cell BK552.out 4).trans rfl, (blk_cell BK552.out 5).trans rfl, (blk_cell BK552.out 6).trans rfl⟩ (fun hHeld => ?_)
        clear hK K
        refine norm_ (a' := ?_) ?_ ?_
        rotate_left
        ·show Act.put _ (some 21) _ = _
         simp only [Act.put, List.setIfInBounds_toArray, List.set_cons_zero, List.set_cons_succ, i64_w, i32_w]
         rfl
        refine pure_ (i := 14) (N := some 33) (v := ?_) (a' := ?_) #[true, true, true, true, true, true, true, true, true, true, true, true, true, true, true, true, false] rfl rfl (any_of HT_.out (by kernel_rfl)) (fun _ _ _ h => h) (Or.inl ⟨by rfl, ?_⟩) ?_ ?_
        rotate_left
        ·intro w'
         go_simp
         with_reducible rfl
        rotate_left
        ·simp only [Act.put, List.setIfInBounds_toArray, List.set_cons_zero, List.set_cons_succ, i64_w, i32_w]
         rfl
        exact norm_ (by first | (simp only [putAll, Act.put, List.setIfInBounds_toArray, List.set_cons_zero, List.set_cons_succ]; done) | (simp only [putAll, Act.put, List.setIfInBounds_toArray, List.set_cons_zero, List.set_cons_succ]; rfl)) (hJ2_5_15 (.slice Ao26 y555.length co26, .slice Ao25 t558.length co25, gb561) _ ⟨hHeld, (by (with_reducible repeat (first | apply Kd.S_alloc | apply Kd.S_drewN | apply Kd.S_drew)); exact Kd.S_mono HO557.out (fun _ hk => hk.2)), (by (with_reducible repeat (first | apply Kd.R_alloc | apply Kd.R_drewN | apply Kd.R_drew)); exact HO560.out), (by (with_reducible repeat (first | refine blk_drewN ?_ _ | refine blk_drew ?_ | refine blk_alloc ?_ _)); exact BK552.out), (by (with_reducible repeat (first | refine blk_drewN ?_ _ | refine blk_drew ?_ | refine blk_alloc ?_ _)); exact BK553.out), (by (with_reducible repeat (first | refine blk_drewN ?_ _ | refine blk_drew ?_ | refine blk_alloc ?_ _)); exact BK561.out), GW561.out, GE561.out, NB552_561.out, NB561_552.out, NB553_561.out, NB561_553.out, (by with_reducible repeat (first | exact HB.out | apply below_alloc | apply pw_below_drewN | apply below_drew1 | refine below_set ?_ GE552.out | refine below_set ?_ GE553.out | refine below_set ?_ GE561.out))⟩)
      ·skip
       rintro ⟨v556, gb561⟩ w23 ⟨hS_, h0_, h1_, h2_, h3_, h4_, h5_, h6_, h7_, h8_, h9_, h10_⟩
       have n0_ : Aside0 (Kd.S k56 56 w23 w.heap.size (fun _ => True) v556 y555) := ⟨h0_⟩
       have n1_ : Aside0 (w23.heap[gb552]? = some (.cells #[.int .i64 a0_0, .slice A0_1 l0_1.length c0_1, .slice A0_2 l0_2.length c0_2, .int .i64 a0_3, .int .i64 a0_4, .int .i64 a0_5, .int .i64 a0_6] 45 (0, 0))) := ⟨h1_⟩
       have n2_ : Aside0 (w23.heap[gb553]? = some (.cells #[.int .i64 0, .slice none 0 0, .slice none 0 0, .int .i64 0, .int .i64 0, .int .i64 0, .int .i64 0] 45 (0, 0))) := ⟨h2_⟩
       have n3_ : Aside0 (w23.heap[gb561]? = some (.cells #[.int .i64 0, .slice none 0 0, .slice none 0 0, .int .i64 0, .int .i64 0, .int .i64 0, .int .i64 0] 45 (0, 0))) := ⟨h3_⟩
       have n4_ : Aside0 (w.heap.size ≤ gb561) := ⟨h4_⟩
       have n5_ : Aside0 (w.heap.size ≤ gb561) := ⟨h5_⟩
       have n6_ : Aside0 (gb552 ≠ gb561) := ⟨h6_⟩
       have n7_ : Aside0 (gb561 ≠ gb552) := ⟨h7_⟩
       have n8_ : Aside0 (gb553 ≠ gb561) := ⟨h8_⟩
       have n9_ : Aside0 (gb561 ≠ gb553) := ⟨h9_⟩
       have n10_ : Aside0 (Below w.heap.size w w23) := ⟨h10_⟩
       clear BK552
       clear BK553
       clear HB
       clear h0_ h1_ h2_ h3_ h4_ h5_ h6_ h7_ h8_ h9_ h10_
       have HO557 := n0_
       have BK552 := n1_
       have BK553 := n2_
       have BK561 := n3_
       have GW561 := n4_
       have GE561 := n5_
       have NB552_561 := n6_
       have NB561_552 := n7_
       have NB553_561 := n8_
       have NB561_553 := n9_
       have HB := n10_
       clear n0_ n1_ n2_ n3_ n4_ n5_ n6_ n7_ n8_ n9_ n10_
       have hHeld : w23.cell? ⟨gb552, 0, none⟩ = some (.int .i64 a0_0) ∧ w23.cell? ⟨gb552, 1, none⟩ = some (.slice A0_1 l0_1.length c0_1) ∧ w23.cell? ⟨gb552, 2, none⟩ = some (.slice A0_2 l0_2.length c0_2) ∧ w23.cell? ⟨gb552, 3, none⟩ = some (.int .i64 a0_3) ∧ w23.cell? ⟨gb552, 4, none⟩ = some (.int .i64 a0_4) ∧ w23.cell? ⟨gb552, 5, none⟩ = some (.int .i64 a0_5) ∧ w23.cell? ⟨gb552, 6, none⟩ = some (.int .i64 a0_6) := hS_
       refine norm_ (a' := ?_) ?_ ?_
       rotate_left
       ·simp only [putAll, Act.put, List.setIfInBounds_toArray, List.set_cons_zero, List.set_cons_succ]
        rfl
       refine one_ (i := 5) (N := some 24) #[true, true, true, true, true, true, true, true, true, true, true, true, true, true, false, true, false] rfl rfl (one_of HT_.out (by kernel_rfl)) (by decide) (fun K hK => ?_)
       refine goes_ Try.func55 (by kernel_rfl) rfl #[.slice A0_2 l0_2.length c0_2] (by rfl) rfl rfl (by (try simp only [List.map_toArray, List.map_cons, List.map_nil]); first | done | rfl | (simp only [List.length_drop, List.length_take]; rfl)) ?_
       with_reducible refine (spec_l00Own.calls _ _ l0_2 t558 _ ?side1 ?side2 A18.out).mono ?_
       (case side1 => repeat (first | exact (Kd.C_below HR0_2.out HB.out) | (with_reducible refine Kd.C_alloc ?_ _) | (with_reducible refine Kd.C_drewN ?_ _) | (with_reducible refine Kd.C_drew ?_)))
       (case side2 => exact HC0_2.out)
       rintro e w24 ⟨v559, rfl, ho0, hb⟩
       refine ⟨_, rfl, ?_⟩
       have n0_ := Aside0.mk (Kd.S_elder' (by (with_reducible repeat (first | apply Kd.S_alloc | apply Kd.S_drewN | apply Kd.S_drew)); exact HO557.out) (Kd.R_base ho0) hb)
       have n1_ := Aside0.mk (Kd.R_lower ho0 (below_size (by with_reducible repeat (first | exact HB.out | apply below_alloc | apply pw_below_drewN | apply below_drew1 | refine below_set ?_ GE552.out | refine below_set ?_ GE553.out | refine below_set ?_ GE561.out))))
       have n2_ := Aside0.mk (blk_below (g := gb552) (by (with_reducible repeat (first | refine blk_drewN ?_ _ | refine blk_drew ?_ | refine blk_alloc ?_ _)); exact BK552.out) hb)
       have n3_ := Aside0.mk (blk_below (g := gb553) (by (with_reducible repeat (first | refine blk_drewN ?_ _ | refine blk_drew ?_ | refine blk_alloc ?_ _)); exact BK553.out) hb)
       have n4_ := Aside0.mk (blk_below (g := gb561) (by (with_reducible repeat (first | refine blk_drewN ?_ _ | refine blk_drew ?_ | refine blk_alloc ?_ _)); exact BK561.out) hb)
       have n5_ := Aside0.mk (below_step (by with_reducible repeat (first | exact HB.out | apply below_alloc | apply pw_below_drewN | apply below_drew1 | refine below_set ?_ GE552.out | refine below_set ?_ GE553.out | refine below_set ?_ GE561.out)) hb)
       clear HO557
       clear BK552
       clear BK553
       clear BK561
       clear HB
       have HO557 := n0_
       have HO560 := n1_
       have BK552 := n2_
       have BK553 := n3_
       have BK561 := n4_
       have HB := n5_
       clear n0_ n1_ n2_ n3_ n4_ n5_
       (try clear hb)
       (try clear hb2)
       (try clear hk)
       (try clear hi)
       (try clear ho0)
       obtain ⟨Ao25, co25, eo25⟩ := Kd.R_slice HO560.out
       (first | subst eo25 | (injection eo25 with f1_ f2_ f3_; have f4_ := f1_.symm; have f5_ := f3_.symm; clear f1_ f2_ f3_; subst f4_; subst f5_))
       obtain ⟨Ao26, co26, eo26⟩ := Kd.S_slice HO557.out
       (first | subst eo26 | (injection eo26 with f1_ f2_ f3_; have f4_ := f1_.symm; have f5_ := f3_.symm; clear f1_ f2_ f3_; subst f4_; subst f5_))
       refine hK.out _ _ ⟨(blk_cell BK552.out 0).trans rfl, (blk_cell BK552.out 1).trans rfl, (blk_cell BK552.out 2).trans rfl, (blk_cell BK552.out 3).trans rfl, (blk_cell BK552.out 4).trans rfl, (blk_cell BK552.out 5).trans rfl, (blk_cell BK552.out 6).trans rfl⟩ (fun hHeld => ?_)
       clear hK K
       refine norm_ (a' := ?_) ?_ ?_
       rotate_left
       ·show Act.put _ (some 24) _ = _
        simp only [Act.put, List.setIfInBounds_toArray, List.set_cons_zero, List.set_cons_succ, i64_w, i32_w]
        rfl
       refine pure_ (i := 14) (N := some 33) (v := ?_) (a' := ?_) #[true, true, true, true, true, true, true, true, true, true, true, true, true, true, true, true, false] rfl rfl (any_of HT_.out (by kernel_rfl)) (fun _ _ _ h => h) (Or.inl ⟨by rfl, ?_⟩) ?_ ?_
       rotate_left
       ·intro w'
        go_simp
        with_reducible rfl
       rotate_left
       ·simp only [Act.put, List.setIfInBounds_toArray, List.set_cons_zero, List.set_cons_succ, i64_w, i32_w]
        rfl
       exact norm_ (by first | (simp only [putAll, Act.put, List.setIfInBounds_toArray, List.set_cons_zero, List.set_cons_succ]; done) | (simp only [putAll, Act.put, List.setIfInBounds_toArray, List.set_cons_zero, List.set_cons_succ]; rfl)) (hJ2_5_15 (.slice Ao26 y555.length co26, .slice Ao25 t558.length co25, gb561) _ ⟨hHeld, (by (with_reducible repeat (first | apply Kd.S_alloc | apply Kd.S_drewN | apply Kd.S_drew)); exact Kd.S_mono HO557.out (fun _ hk => hk.2)), (by (with_reducible repeat (first | apply Kd.R_alloc | apply Kd.R_drewN | apply Kd.R_drew)); exact HO560.out), (by (with_reducible repeat (first | refine blk_drewN ?_ _ | refine blk_drew ?_ | refine blk_alloc ?_ _)); exact BK552.out), (by (with_reducible repeat (first | refine blk_drewN ?_ _ | refine blk_drew ?_ | refine blk_alloc ?_ _)); exact BK553.out), (by (with_reducible repeat (first | refine blk_drewN ?_ _ | refine blk_drew ?_ | refine blk_alloc ?_ _)); exact BK561.out), GW561.out, GE561.out, NB552_561.out, NB561_552.out, NB553_561.out, NB561_553.out, (by with_reducible repeat (first | exact HB.out | apply below_alloc | apply pw_below_drewN | apply below_drew1 | refine below_set ?_ GE552.out | refine below_set ?_ GE553.out | refine below_set ?_ GE561.out))⟩)
     ·skip
      rintro ⟨v556, v559⟩ w25 ⟨hS_, h0_, h1_, h2_, h3_, h4_⟩
      have n0_ : Aside0 (Kd.S k56 56 w25 w.heap.size (fun k_ => some k_ ≠ (v559 : Value).ownBlock) v556 y555) := ⟨h0_⟩
      have n1_ : Aside0 (Kd.R (Kd.int .i64) 2 w25 w.heap.size (fun _ => True) v559 t558) := ⟨h1_⟩
      have n2_ : Aside0 (w25.heap[gb552]? = some (.cells #[.int .i64 a0_0, .slice A0_1 l0_1.length c0_1, .slice A0_2 l0_2.length c0_2, .int .i64 a0_3, .int .i64 a0_4, .int .i64 a0_5, .int .i64 a0_6] 45 (0, 0))) := ⟨h2_⟩
      have n3_ : Aside0 (w25.heap[gb553]? = some (.cells #[.int .i64 0, .slice none 0 0, .slice none 0 0, .int .i64 0, .int .i64 0, .int .i64 0, .int .i64 0] 45 (0, 0))) := ⟨h3_⟩
      have n4_ : Aside0 (Below w.heap.size w w25) := ⟨h4_⟩
      clear BK552
      clear BK553
      clear HB
      clear h0_ h1_ h2_ h3_ h4_
      have HO557 := n0_
      have HO560 := n1_
      have BK552 := n2_
      have BK553 := n3_
      have HB := n4_
      clear n0_ n1_ n2_ n3_ n4_
      have hHeld : w25.cell? ⟨gb552, 0, none⟩ = some (.int .i64 a0_0) ∧ w25.cell? ⟨gb552, 1, none⟩ = some (.slice A0_1 l0_1.length c0_1) ∧ w25.cell? ⟨gb552, 2, none⟩ = some (.slice A0_2 l0_2.length c0_2) ∧ w25.cell? ⟨gb552, 3, none⟩ = some (.int .i64 a0_3) ∧ w25.cell? ⟨gb552, 4, none⟩ = some (.int .i64 a0_4) ∧ w25.cell? ⟨gb552, 5, none⟩ = some (.int .i64 a0_5) ∧ w25.cell? ⟨gb552, 6, none⟩ = some (.int .i64 a0_6) := hS_
      obtain ⟨Ao26, co26, eo26⟩ := Kd.R_slice HO560.out
      (first | subst eo26 | (injection eo26 with f1_ f2_ f3_; have f4_ := f1_.symm; have f5_ := f3_.symm; clear f1_ f2_ f3_; subst f4_; subst f5_))
      obtain ⟨Ao27, co27, eo27⟩ := Kd.S_slice HO557.out
      (first | subst eo27 | (injection eo27 with f1_ f2_ f3_; have f4_ := f1_.symm; have f5_ := f3_.symm; clear f1_ f2_ f3_; subst f4_; subst f5_))
      refine norm_ (a' := ?_) ?_ ?_
      rotate_left
      ·simp only [putAll, Act.put, List.setIfInBounds_toArray, List.set_cons_zero, List.set_cons_succ]
       rfl
      refine one_ (i := 15) (N := some 6) #[true, true, true, true, true, true, true, true, true, true, true, true, true, true, true, true, false] rfl rfl (one_of HT_.out (by kernel_rfl)) (by decide) (fun K hK => ?_)
      refine box_step ?hg (N := 6) ?hd (cs := #[.int .i64 0, .slice none 0 0, .slice none 0 0, .int .i64 0, .int .i64 0, .int .i64 0, .int .i64 0]) (t := 45) ?hr ?_; (case hd => rfl); (case hg => rfl); (case hr => first | (go_simp; done) | (go_simp; rfl))
      intro gb561 hg w28 hbox hb
      have n0_ := Aside0.mk (Kd.S_below (by (with_reducible repeat (first | apply Kd.S_alloc | apply Kd.S_drewN | apply Kd.S_drew)); exact HO557.out) hb)
      have n1_ := Aside0.mk (Kd.R_below (by (with_reducible repeat (first | apply Kd.R_alloc | apply Kd.R_drewN | apply Kd.R_drew)); exact HO560.out) hb)
      have n2_ := Aside0.mk (blk_below (g := gb552) (by (with_reducible repeat (first | refine blk_drewN ?_ _ | refine blk_drew ?_ | refine blk_alloc ?_ _)); exact BK552.out) hb)
      have n3_ := Aside0.mk (blk_below (g := gb553) (by (with_reducible repeat (first | refine blk_drewN ?_ _ | refine blk_drew ?_ | refine blk_alloc ?_ _)); exact BK553.out) hb)
      have n4_ := Aside0.mk (below_step (by with_reducible repeat (first | exact HB.out | apply below_alloc | apply pw_below_drewN | apply below_drew1 | refine below_set ?_ GE552.out | refine below_set ?_ GE553.out)) hb)
      have n5_ := Aside0.mk (hbox)
      have n6_ := Aside0.mk ((by rw [hg]; exact (below_size (by with_reducible repeat (first | exact HB.out | apply below_alloc | apply pw_below_drewN | apply below_drew1 | refine below_set ?_ GE552.out | refine below_set ?_ GE553.out))) : w.heap.size ≤ gb561))
      have n7_ := Aside0.mk ((by rw [hg]; exact (below_size (by with_reducible repeat (first | exact HB.out | apply below_alloc | apply pw_below_drewN | apply below_drew1 | refine below_set ?_ GE552.out | refine below_set ?_ GE553.out))) : w.heap.size ≤ gb561))
      have n8_ := Aside0.mk ((by rw [hg]; exact Nat.ne_of_lt (blk_lt (g := gb552) (by (with_reducible repeat (first | refine blk_drewN ?_ _ | refine blk_drew ?_ | refine blk_alloc ?_ _)); exact BK552.out)) : gb552 ≠ gb561))
      have n9_ := Aside0.mk ((by rw [hg]; exact Nat.ne_of_gt (blk_lt (g := gb552) (by (with_reducible repeat (first | refine blk_drewN ?_ _ | refine blk_drew ?_ | refine blk_alloc ?_ _)); exact BK552.out)) : gb561 ≠ gb552))
      have n10_ := Aside0.mk ((by rw [hg]; exact Nat.ne_of_lt (blk_lt (g := gb553) (by (with_reducible repeat (first | refine blk_drewN ?_ _ | refine blk_drew ?_ | refine blk_alloc ?_ _)); exact BK553.out)) : gb553 ≠ gb561))
      have n11_ := Aside0.mk ((by rw [hg]; exact Nat.ne_of_gt (blk_lt (g := gb553) (by (with_reducible repeat (first | refine blk_drewN ?_ _ | refine blk_drew ?_ | refine blk_alloc ?_ _)); exact BK553.out)) : gb561 ≠ gb553))
      clear HO557
      clear HO560
      clear BK552
      clear BK553
      clear HB
      have HO557 := n0_
      have HO560 := n1_
      have BK552 := n2_
      have BK553 := n3_
      have HB := n4_
      have BK561 := n5_
      have GW561 := n6_
      have GE561 := n7_
      have NB552_561 := n8_
      have NB561_552 := n9_
      have NB553_561 := n10_
      have NB561_553 := n11_
      clear n0_ n1_ n2_ n3_ n4_ n5_ n6_ n7_ n8_ n9_ n10_ n11_
      clear hb hbox hg
      refine hK.out _ _ ⟨(blk_cell BK552.out 0).trans rfl, (blk_cell BK552.out 1).trans rfl, (blk_cell BK552.out 2).trans rfl, (blk_cell BK552.out 3).trans rfl, (blk_cell BK552.out 4).trans rfl, (blk_cell BK552.out 5).trans rfl, (blk_cell BK552.out 6).trans rfl⟩ (fun hHeld => ?_)
      clear hK K
      refine norm_ (a' := ?_) ?_ ?_
      rotate_left
      ·show Act.put _ (some 6) _ = _
       simp only [Act.put, List.setIfInBounds_toArray, List.set_cons_zero, List.set_cons_succ, i64_w, i32_w]
       rfl
      exact norm_ (by first | (simp only [putAll, Act.put, List.setIfInBounds_toArray, List.set_cons_zero, List.set_cons_succ]; done) | (simp only [putAll, Act.put, List.setIfInBounds_toArray, List.set_cons_zero, List.set_cons_succ]; rfl)) (hJ2_5_15 (.slice Ao27 y555.length co27, .slice Ao26 t558.length co26, gb561) _ ⟨hHeld, (by (with_reducible repeat (first | apply Kd.S_alloc | apply Kd.S_drewN | apply Kd.S_drew)); exact HO557.out), (by (with_reducible repeat (first | apply Kd.R_alloc | apply Kd.R_drewN | apply Kd.R_drew)); exact HO560.out), (by (with_reducible repeat (first | refine blk_drewN ?_ _ | refine blk_drew ?_ | refine blk_alloc ?_ _)); exact BK552.out), (by (with_reducible repeat (first | refine blk_drewN ?_ _ | refine blk_drew ?_ | refine blk_alloc ?_ _)); exact BK553.out), (by (with_reducible repeat (first | refine blk_drewN ?_ _ | refine blk_drew ?_ | refine blk_alloc ?_ _)); exact BK561.out), GW561.out, GE561.out, NB552_561.out, NB561_552.out, NB553_561.out, NB561_553.out, (by with_reducible repeat (first | exact HB.out | apply below_alloc | apply pw_below_drewN | apply below_drew1 | refine below_set ?_ GE552.out | refine below_set ?_ GE553.out | refine below_set ?_ GE561.out))⟩)
    rintro ⟨v556, v559, gb561⟩ w26 ⟨hS_, h0_, h1_, h2_, h3_, h4_, h5_, h6_, h7_, h8_, h9_, h10_, h11_⟩
    have n0_ : Aside0 (Kd.S k56 56 w26 w.heap.size (fun k_ => some k_ ≠ (v559 : Value).ownBlock) v556 y555) := ⟨h0_⟩
    have n1_ : Aside0 (Kd.R (Kd.int .i64) 2 w26 w.heap.size (fun _ => True) v559 t558) := ⟨h1_⟩
    have n2_ : Aside0 (w26.heap[gb552]? = some (.cells #[.int .i64 a0_0, .slice A0_1 l0_1.length c0_1, .slice A0_2 l0_2.length c0_2, .int .i64 a0_3, .int .i64 a0_4, .int .i64 a0_5, .int .i64 a0_6] 45 (0, 0))) := ⟨h2_⟩
    have n3_ : Aside0 (w26.heap[gb553]? = some (.cells #[.int .i64 0, .slice none 0 0, .slice none 0 0, .int .i64 0, .int .i64 0, .int .i64 0, .int .i64 0] 45 (0, 0))) := ⟨h3_⟩
    have n4_ : Aside0 (w26.heap[gb561]? = some (.cells #[.int .i64 0, .slice none 0 0, .slice none 0 0, .int .i64 0, .int .i64 0, .int .i64 0, .int .i64 0] 45 (0, 0))) := ⟨h4_⟩
    have n5_ : Aside0 (w.heap.size ≤ gb561) := ⟨h5_⟩
    have n6_ : Aside0 (w.heap.size ≤ gb561) := ⟨h6_⟩
    have n7_ : Aside0 (gb552 ≠ gb561) := ⟨h7_⟩
    have n8_ : Aside0 (gb561 ≠ gb552) := ⟨h8_⟩
    have n9_ : Aside0 (gb553 ≠ gb561) := ⟨h9_⟩
    have n10_ : Aside0 (gb561 ≠ gb553) := ⟨h10_⟩
    have n11_ : Aside0 (Below w.heap.size w w26) := ⟨h11_⟩
    clear BK552
    clear BK553
    clear HB
    clear h0_ h1_ h2_ h3_ h4_ h5_ h6_ h7_ h8_ h9_ h10_ h11_
    have HO557 := n0_
    have HO560 := n1_
    have BK552 := n2_
    have BK553 := n3_
    have BK561 := n4_
    have GW561 := n5_
    have GE561 := n6_
    have NB552_561 := n7_
    have NB561_552 := n8_
    have NB553_561 := n9_
    have NB561_553 := n10_
    have HB := n11_
    clear n0_ n1_ n2_ n3_ n4_ n5_ n6_ n7_ n8_ n9_ n10_ n11_
    have hHeld : w26.cell? ⟨gb552, 0, none⟩ = some (.int .i64 a0_0) ∧ w26.cell? ⟨gb552, 1, none⟩ = some (.slice A0_1 l0_1.length c0_1) ∧ w26.cell? ⟨gb552, 2, none⟩ = some (.slice A0_2 l0_2.length c0_2) ∧ w26.cell? ⟨gb552, 3, none⟩ = some (.int .i64 a0_3) ∧ w26.cell? ⟨gb552, 4, none⟩ = some (.int .i64 a0_4) ∧ w26.cell? ⟨gb552, 5, none⟩ = some (.int .i64 a0_5) ∧ w26.cell? ⟨gb552, 6, none⟩ = some (.int .i64 a0_6) := hS_
    obtain ⟨Ao27, co27, eo27⟩ := Kd.R_slice HO560.out
    (first | subst eo27 | (injection eo27 with f1_ f2_ f3_; have f4_ := f1_.symm; have f5_ := f3_.symm; clear f1_ f2_ f3_; subst f4_; subst f5_))
    obtain ⟨Ao28, co28, eo28⟩ := Kd.S_slice HO557.out
    (first | subst eo28 | (injection eo28 with f1_ f2_ f3_; have f4_ := f1_.symm; have f5_ := f3_.symm; clear f1_ f2_ f3_; subst f4_; subst f5_))
    refine norm_ (a' := ?_) ?_ ?_
    rotate_left
    ·simp only [putAll, Act.put, List.setIfInBounds_toArray, List.set_cons_zero, List.set_cons_succ]
     rfl
    refine one_ (i := 16) (N := none) #[true, true, true, true, true, true, true, true, true, true, true, true, true, true, true, true, true] rfl rfl (one_of HT_.out (by kernel_rfl)) (by decide) (fun K hK => ?_)
    have hs29 : w26.cell? ⟨gb561, 0, none⟩ = some (.int .i64 0) := (blk_cell BK561.out 0).trans rfl
    have hfs29 := blk_frozen BK561.out 0
    have hns29_0 := NB552_561.out
    have hns29_1 := NB553_561.out
    have hms29_0 := NB561_552.out
    have hms29_1 := NB561_553.out
    have hs30 : w26.cell? ⟨gb561, 1, none⟩ = some (.slice none 0 0) := (blk_cell BK561.out 1).trans rfl
    have hfs30 := blk_frozen BK561.out 1
    have hns30_0 := NB552_561.out
    have hns30_1 := NB553_561.out
    have hms30_0 := NB561_552.out
    have hms30_1 := NB561_553.out
    have hs31 : w26.cell? ⟨gb561, 2, none⟩ = some (.slice none 0 0) := (blk_cell BK561.out 2).trans rfl
    have hfs31 := blk_frozen BK561.out 2
    have hns31_0 := NB552_561.out
    have hns31_1 := NB553_561.out
    have hms31_0 := NB561_552.out
    have hms31_1 := NB561_553.out
    have hs32 : w26.cell? ⟨gb561, 3, none⟩ = some (.int .i64 0) := (blk_cell BK561.out 3).trans rfl
    have hfs32 := blk_frozen BK561.out 3
    have hns32_0 := NB552_561.out
    have hns32_1 := NB553_561.out
    have hms32_0 := NB561_552.out
    have hms32_1 := NB561_553.out
    have hs33 : w26.cell? ⟨gb561, 4, none⟩ = some (.int .i64 0) := (blk_cell BK561.out 4).trans rfl
    have hfs33 := blk_frozen BK561.out 4
    have hns33_0 := NB552_561.out
    have hns33_1 := NB553_561.out
    have hms33_0 := NB561_552.out
    have hms33_1 := NB561_553.out
    have hs34 : w26.cell? ⟨gb561, 5, none⟩ = some (.int .i64 0) := (blk_cell BK561.out 5).trans rfl
    have hfs34 := blk_frozen BK561.out 5
    have hns34_0 := NB552_561.out
    have hns34_1 := NB553_561.out
    have hms34_0 := NB561_552.out
    have hms34_1 := NB561_553.out
    have hs35 : w26.cell? ⟨gb561, 6, none⟩ = some (.int .i64 0) := (blk_cell BK561.out 6).trans rfl
    have hfs35 := blk_frozen BK561.out 6
    have hns35_0 := NB552_561.out
    have hns35_1 := NB553_561.out
    have hms35_0 := NB561_552.out
    have hms35_1 := NB561_553.out
    refine skip_ (w1 := ?_) (by rfl) rfl ?_ ?_
    rotate_left
    ·go_simp
     rfl
    refine hK.out _ _ ⟨((cell_far (p := ⟨gb561, _, none⟩) NB552_561.out _).trans (((cell_far (p := ⟨gb561, _, none⟩) NB552_561.out _).trans (((cell_far (p := ⟨gb561, _, none⟩) NB552_561.out _).trans (((cell_far (p := ⟨gb561, _, none⟩) NB552_561.out _).trans (((cell_far (p := ⟨gb561, _, none⟩) NB552_561.out _).trans (((cell_far (p := ⟨gb561, _, none⟩) NB552_561.out _).trans (((cell_far (p := ⟨gb561, _, none⟩) NB552_561.out _).trans (hHeld.1)))))))))))))), ((cell_far (p := ⟨gb561, _, none⟩) NB552_561.out _).trans (((cell_far (p := ⟨gb561, _, none⟩) NB552_561.out _).trans (((cell_far (p := ⟨gb561, _, none⟩) NB552_561.out _).trans (((cell_far (p := ⟨gb561, _, none⟩) NB552_561.out _).trans (((cell_far (p := ⟨gb561, _, none⟩) NB552_561.out _).trans (((cell_far (p := ⟨gb561, _, none⟩) NB552_561.out _).trans (((cell_far (p := ⟨gb561, _, none⟩) NB552_561.out _).trans (hHeld.2.1)))))))))))))), ((cell_far (p := ⟨gb561, _, none⟩) NB552_561.out _).trans (((cell_far (p := ⟨gb561, _, none⟩) NB552_561.out _).trans (((cell_far (p := ⟨gb561, _, none⟩) NB552_561.out _).trans (((cell_far (p := ⟨gb561, _, none⟩) NB552_561.out _).trans (((cell_far (p := ⟨gb561, _, none⟩) NB552_561.out _).trans (((cell_far (p := ⟨gb561, _, none⟩) NB552_561.out _).trans (((cell_far (p := ⟨gb561, _, none⟩) NB552_561.out _).trans (hHeld.2.2.1)))))))))))))), ((cell_far (p := ⟨gb561, _, none⟩) NB552_561.out _).trans (((cell_far (p := ⟨gb561, _, none⟩) NB552_561.out _).trans (((cell_far (p := ⟨gb561, _, none⟩) NB552_561.out _).trans (((cell_far (p := ⟨gb561, _, none⟩) NB552_561.out _).trans (((cell_far (p := ⟨gb561, _, none⟩) NB552_561.out _).trans (((cell_far (p := ⟨gb561, _, none⟩) NB552_561.out _).trans (((cell_far (p := ⟨gb561, _, none⟩) NB552_561.out _).trans (hHeld.2.2.2.1)))))))))))))), ((cell_far (p := ⟨gb561, _, none⟩) NB552_561.out _).trans (((cell_far (p := ⟨gb561, _, none⟩) NB552_561.out _).trans (((cell_far (p := ⟨gb561, _, none⟩) NB552_561.out _).trans (((cell_far (p := ⟨gb561, _, none⟩) NB552_561.out _).trans (((cell_far (p := ⟨gb561, _, none⟩) NB552_561.out _).trans (((cell_far (p := ⟨gb561, _, none⟩) NB552_561.out _).trans (((cell_far (p := ⟨gb561, _, none⟩) NB552_561.out _).trans (hHeld.2.2.2.2.1)))))))))))))), ((cell_far (p := ⟨gb561, _, none⟩) NB552_561.out _).trans (((cell_far (p := ⟨gb561, _, none⟩) NB552_561.out _).trans (((cell_far (p := ⟨gb561, _, none⟩) NB552_561.out _).trans (((cell_far (p := ⟨gb561, _, none⟩) NB552_561.out _).trans (((cell_far (p := ⟨gb561, _, none⟩) NB552_561.out _).trans (((cell_far (p := ⟨gb561, _, none⟩) NB552_561.out _).trans (((cell_far (p := ⟨gb561, _, none⟩) NB552_561.out _).trans (hHeld.2.2.2.2.2.1)))))))))))))), ((cell_far (p := ⟨gb561, _, none⟩) NB552_561.out _).trans (((cell_far (p := ⟨gb561, _, none⟩) NB552_561.out _).trans (((cell_far (p := ⟨gb561, _, none⟩) NB552_561.out _).trans (((cell_far (p := ⟨gb561, _, none⟩) NB552_561.out _).trans (((cell_far (p := ⟨gb561, _, none⟩) NB552_561.out _).trans (((cell_far (p := ⟨gb561, _, none⟩) NB552_561.out _).trans (((cell_far (p := ⟨gb561, _, none⟩) NB552_561.out _).trans (hHeld.2.2.2.2.2.2))))))))))))))⟩ (fun hHeld => ?_)
    clear hK K
    refine done_ (done_of HT_.out (by kernel_rfl)) ?_
    try go_wp2
    go_loopg [7] kj2 (fun kq v7 w' => ∃ (x7_2 : Int) (x562001_2 : List (S56)) (u562001 : Value), v7 = .int .i64 x7_2 ∧ Aside0 (spec_PadCircuit.l0 kq l1 x7_2 a0_0 l0_1 l0_2 a0_3 a0_4 a0_5 a0_6 a0_0 x562001_2 t558 a0_3 a0_4 a0_5 a0_6 = some (r1, r2, r3, r4, r5, r6, r7, r8)) ∧ Aside0 (kq ≤ kj2) ∧ Aside0 (Kd.S k56 56 w' w.heap.size (fun k_ => some k_ ≠ ((.slice Ao27 t558.length co27) : Value).ownBlock) u562001 x562001_2) ∧ Aside0 (Kd.R (Kd.int .i64) 2 w' w.heap.size (fun _ => True) (.slice Ao27 t558.length co27) t558) ∧ Aside0 (w'.heap[gb552]? = some (.cells #[.int .i64 a0_0, (.slice A0_1 l0_1.length c0_1), (.slice A0_2 l0_2.length c0_2), .int .i64 a0_3, .int .i64 a0_4, .int .i64 a0_5, .int .i64 a0_6] 45 (0, 0))) ∧ Aside0 (w'.heap[gb553]? = some (.cells #[.int .i64 0, (.slice none 0 0), (.slice none 0 0), .int .i64 0, .int .i64 0, .int .i64 0, .int .i64 0] 45 (0, 0))) ∧ Aside0 (w'.heap[gb561]? = some (.cells #[.int .i64 a0_0, u562001, (.slice Ao27 t558.length co27), .int .i64 a0_3, .int .i64 a0_4, .int .i64 a0_5, .int .i64 a0_6] 45 (0, 0))) ∧ Aside0 (Below w.heap.size w w'))
    case atStart => exact ⟨(0), (y555), (.slice Ao28 y555.length co28), (by first | rfl | (simp; done) | (simp [*]; done)), H', ⟨Nat.le_refl _⟩, ⟨by (with_reducible repeat (first | apply Kd.S_alloc | apply Kd.S_drewN | apply Kd.S_drew)); exact Kd.S_mono (Kd.S_far (p := ⟨gb561, 6, none⟩) (Kd.S_far (p := ⟨gb561, 5, none⟩) (Kd.S_far (p := ⟨gb561, 4, none⟩) (Kd.S_far (p := ⟨gb561, 3, none⟩) (Kd.S_far (p := ⟨gb561, 2, none⟩) (Kd.S_far (p := ⟨gb561, 1, none⟩) (Kd.S_far (p := ⟨gb561, 0, none⟩) (Kd.S_types HO557.out BK561.out (by decide)) (fun _ hk => hk.2) (.int .i64 a0_0)) (fun _ hk => hk.2) (.slice Ao28 y555.length co28)) (fun _ hk => hk.2) (.slice Ao27 t558.length co27)) (fun _ hk => hk.2) (.int .i64 a0_3)) (fun _ hk => hk.2) (.int .i64 a0_4)) (fun _ hk => hk.2) (.int .i64 a0_5)) (fun _ hk => hk.2) (.int .i64 a0_6)) (fun _ hk => hk.1)⟩, ⟨by (with_reducible repeat (first | apply Kd.R_alloc | apply Kd.R_drewN | apply Kd.R_drew)); exact Kd.R_mono (Kd.R_far (p := ⟨gb561, 6, none⟩) (Kd.R_far (p := ⟨gb561, 5, none⟩) (Kd.R_far (p := ⟨gb561, 4, none⟩) (Kd.R_far (p := ⟨gb561, 3, none⟩) (Kd.R_far (p := ⟨gb561, 2, none⟩) (Kd.R_far (p := ⟨gb561, 1, none⟩) (Kd.R_far (p := ⟨gb561, 0, none⟩) (Kd.R_types HO560.out BK561.out (by decide)) (fun _ hk => hk.2) (.int .i64 a0_0)) (fun _ hk => hk.2) (.slice Ao28 y555.length co28)) (fun _ hk => hk.2) (.slice Ao27 t558.length co27)) (fun _ hk => hk.2) (.int .i64 a0_3)) (fun _ hk => hk.2) (.int .i64 a0_4)) (fun _ hk => hk.2) (.int .i64 a0_5)) (fun _ hk => hk.2) (.int .i64 a0_6)) (fun _ hk => trivial)⟩, ⟨by (with_reducible repeat (first | refine blk_drewN ?_ _ | refine blk_drew ?_ | refine blk_alloc ?_ _)); refine blk_far ?_ NB552_561.out _; (with_reducible repeat (first | refine blk_drewN ?_ _ | refine blk_drew ?_ | refine blk_alloc ?_ _)); refine blk_far ?_ NB552_561.out _; (with_reducible repeat (first | refine blk_drewN ?_ _ | refine blk_drew ?_ | refine blk_alloc ?_ _)); refine blk_far ?_ NB552_561.out _; (with_reducible repeat (first | refine blk_drewN ?_ _ | refine blk_drew ?_ | refine blk_alloc ?_ _)); refine blk_far ?_ NB552_561.out _; (with_reducible repeat (first | refine blk_drewN ?_ _ | refine blk_drew ?_ | refine blk_alloc ?_ _)); refine blk_far ?_ NB552_561.out _; (with_reducible repeat (first | refine blk_drewN ?_ _ | refine blk_drew ?_ | refine blk_alloc ?_ _)); refine blk_far ?_ NB552_561.out _; (with_reducible repeat (first | refine blk_drewN ?_ _ | refine blk_drew ?_ | refine blk_alloc ?_ _)); refine blk_far ?_ NB552_561.out _; (with_reducible repeat (first | refine blk_drewN ?_ _ | refine blk_drew ?_ | refine blk_alloc ?_ _)); exact BK552.out⟩, ⟨by (with_reducible repeat (first | refine blk_drewN ?_ _ | refine blk_drew ?_ | refine blk_alloc ?_ _)); refine blk_far ?_ NB553_561.out _; (with_reducible repeat (first | refine blk_drewN ?_ _ | refine blk_drew ?_ | refine blk_alloc ?_ _)); refine blk_far ?_ NB553_561.out _; (with_reducible repeat (first | refine blk_drewN ?_ _ | refine blk_drew ?_ | refine blk_alloc ?_ _)); refine blk_far ?_ NB553_561.out _; (with_reducible repeat (first | refine blk_drewN ?_ _ | refine blk_drew ?_ | refine blk_alloc ?_ _)); refine blk_far ?_ NB553_561.out _; (with_reducible repeat (first | refine blk_drewN ?_ _ | refine blk_drew ?_ | refine blk_alloc ?_ _)); refine blk_far ?_ NB553_561.out _; (with_reducible repeat (first | refine blk_drewN ?_ _ | refine blk_drew ?_ | refine blk_alloc ?_ _)); refine blk_far ?_ NB553_561.out _; (with_reducible repeat (first | refine blk_drewN ?_ _ | refine blk_drew ?_ | refine blk_alloc ?_ _)); refine blk_far ?_ NB553_561.out _; (with_reducible repeat (first | refine blk_drewN ?_ _ | refine blk_drew ?_ | refine blk_alloc ?_ _)); exact BK553.out⟩, ⟨by (with_reducible repeat (first | refine blk_drewN ?_ _ | refine blk_drew ?_ | refine blk_alloc ?_ _)); refine blk_put (cs := #[.int .i64 a0_0, .slice Ao28 y555.length co28, .slice Ao27 t558.length co27, .int .i64 a0_3, .int .i64 a0_4, .int .i64 a0_5, .int .i64 0]) ?_ 6 _ rfl; (with_reducible repeat (first | refine blk_drewN ?_ _ | refine blk_drew ?_ | refine blk_alloc ?_ _)); refine blk_put (cs := #[.int .i64 a0_0, .slice Ao28 y555.length co28, .slice Ao27 t558.length co27, .int .i64 a0_3, .int .i64 a0_4, .int .i64 0, .int .i64 0]) ?_ 5 _ rfl; (with_reducible repeat (first | refine blk_drewN ?_ _ | refine blk_drew ?_ | refine blk_alloc ?_ _)); refine blk_put (cs := #[.int .i64 a0_0, .slice Ao28 y555.length co28, .slice Ao27 t558.length co27, .int .i64 a0_3, .int .i64 0, .int .i64 0, .int .i64 0]) ?_ 4 _ rfl; (with_reducible repeat (first | refine blk_drewN ?_ _ | refine blk_drew ?_ | refine blk_alloc ?_ _)); refine blk_put (cs := #[.int .i64 a0_0, .slice Ao28 y555.length co28, .slice Ao27 t558.length co27, .int .i64 0, .int .i64 0, .int .i64 0, .int .i64 0]) ?_ 3 _ rfl; (with_reducible repeat (first | refine blk_drewN ?_ _ | refine blk_drew ?_ | refine blk_alloc ?_ _)); refine blk_put (cs := #[.int .i64 a0_0, .slice Ao28 y555.length co28, .slice none 0 0, .int .i64 0, .int .i64 0, .int .i64 0, .int .i64 0]) ?_ 2 _ rfl; (with_reducible repeat (first | refine blk_drewN ?_ _ | refine blk_drew ?_ | refine blk_alloc ?_ _)); refine blk_put (cs := #[.int .i64 a0_0, .slice none 0 0, .slice none 0 0, .int .i64 0, .int .i64 0, .int .i64 0, .int .i64 0]) ?_ 1 _ rfl; (with_reducible repeat (first | refine blk_drewN ?_ _ | refine blk_drew ?_ | refine blk_alloc ?_ _)); refine blk_put (cs := #[.int .i64 0, .slice none 0 0, .slice none 0 0, .int .i64 0, .int .i64 0, .int .i64 0, .int .i64 0]) ?_ 0 _ rfl; (with_reducible repeat (first | refine blk_drewN ?_ _ | refine blk_drew ?_ | refine blk_alloc ?_ _)); exact BK561.out⟩, ⟨by with_reducible repeat (first | exact HB.out | apply below_alloc | apply pw_below_drewN | apply below_drew1 | refine below_set ?_ GE552.out | refine below_set ?_ GE553.out | refine below_set ?_ GE561.out)⟩⟩
    case round =>
     clear H'
     try clear p2
     try clear c5
     obtain ⟨x7_2, x562001_2, u562001, rfl, HA, HK2, HO_562001, HO_562002, BK552, BK553, BK561, HB⟩ := hrel
     cases gk with
     | zero => exact absurd HA.out (by simp [spec_PadCircuit.l0])
     | succ k2 =>
      have H := HA.out
      clear HA
      simp only [spec_PadCircuit.l0] at H
      by_cases c36 : x7_2 < (l0_1.length : Int)
      ·rw [if_pos c36] at H
       have c36b0 : decide (x7_2 < (l0_1.length : Int)) = true := decide_eq_true c36
       clear c36
       by_cases c37 : 0 ≤ x7_2
       case neg => rw [if_neg c37] at H; exact absurd H (by simp)
       rw [if_pos c37] at H
       have c37b0 : decide (0 ≤ x7_2) = true := decide_eq_true c37
       clear c37
       replace H := Option.bind_eq_some_iff.mp H
       obtain ⟨t565, A380, H⟩ := H
       try dsimp only at H
       have A38 := Aside0.mk A380
       clear A380
       by_cases c39 : x562001_2.length < 3518437208883
       case neg => rw [if_neg c39] at H; exact absurd H (by simp)
       rw [if_pos c39] at H
       have LMc39 := Aside0.mk c39
       clear c39
       obtain ⟨y568, hy568⟩ : ∃ y_ : List (S56), y_ = (x562001_2 ++ [(⟨(rd_T56 l0_1 x7_2).f0, (rd_T56 l0_1 x7_2).f1, t565⟩ : S56)]) := ⟨_, rfl⟩
       (try rw [Option.bind_some] at H); try rw [← hy568] at H
       have Ny568 := Aside0.mk hy568
       clear hy568
       have H' := Aside0.mk H
       clear H
       have hnb40 := NB552_553.out
       have hnc40 := NB553_552.out
       have hnb41 := NB552_561.out
       have hnc41 := NB561_552.out
       have hcz42_0 : wr.cell? ⟨gb552, 0, none⟩ = some (.int .i64 a0_0) := (blk_cell BK552.out 0).trans rfl
       have hcz42_1 : wr.cell? ⟨gb552, 1, none⟩ = some (.slice A0_1 l0_1.length c0_1) := (blk_cell BK552.out 1).trans rfl
       have hcz42_2 : wr.cell? ⟨gb552, 2, none⟩ = some (.slice A0_2 l0_2.length c0_2) := (blk_cell BK552.out 2).trans rfl
       have hcz42_3 : wr.cell? ⟨gb552, 3, none⟩ = some (.int .i64 a0_3) := (blk_cell BK552.out 3).trans rfl
       have hcz42_4 : wr.cell? ⟨gb552, 4, none⟩ = some (.int .i64 a0_4) := (blk_cell BK552.out 4).trans rfl
       have hcz42_5 : wr.cell? ⟨gb552, 5, none⟩ = some (.int .i64 a0_5) := (blk_cell BK552.out 5).trans rfl
       have hcz42_6 : wr.cell? ⟨gb552, 6, none⟩ = some (.int .i64 a0_6) := (blk_cell BK552.out 6).trans rfl
       have hfz42_0 := blk_frozen BK552.out 0
       have hfz42_1 := blk_frozen BK552.out 1
       have hfz42_2 := blk_frozen BK552.out 2
       have hfz42_3 := blk_frozen BK552.out 3
       have hfz42_4 := blk_frozen BK552.out 4
       have hfz42_5 := blk_frozen BK552.out 5
       have hfz42_6 := blk_frozen BK552.out 6
       try go_wp2
       have n0_ := Aside0.mk (Kd.S_drew HO_562001.out)
       have n1_ := Aside0.mk (Kd.R_drew HO_562002.out)
       have n2_ := Aside0.mk (blk_drew BK552.out)
       have n3_ := Aside0.mk (blk_drew BK553.out)
       have n4_ := Aside0.mk (blk_drew BK561.out)
       have n5_ := Aside0.mk (below_drew1 HB.out)
       clear HO_562001
       clear HO_562002
       clear BK552
       clear BK553
       clear BK561
       clear HB
       have HO_562001 := n0_
       have HO_562002 := n1_
       have BK552 := n2_
       have BK553 := n3_
       have BK561 := n4_
       have HB := n5_
       clear n0_ n1_ n2_ n3_ n4_ n5_
       have p562 : 0 ≤ (x7_2 : Int) := of_decide_eq_true (by with_reducible assumption)
       have q562 : x7_2 < (l0_1.length : Int) := of_decide_eq_true (by with_reducible assumption)
       obtain ⟨ad562, A562_2, c562_2, e562, hx562_0, hx562_1, hx562_2, hl562_2, hi562_2⟩ := at_T56 HR0_1.out x7_2 p562 q562
       have hw562_2 := hx562_2
       have hw562_1 := hx562_1
       have hw562_0 := hx562_0
       cases e562
       replace hx562_0 := (HB.out.cell (World.block_lt_of_cell? w _ hx562_0)).trans hx562_0
       replace hx562_1 := (HB.out.cell (World.block_lt_of_cell? w _ hx562_1)).trans hx562_1
       replace hx562_2 := (HB.out.cell (World.block_lt_of_cell? w _ hx562_2)).trans hx562_2
       have HR562_2 := Aside0.mk hi562_2
       have HC562_2 := Aside0.mk hl562_2
       clear hi562_2 hl562_2
       replace p562 := eq_true p562
       replace q562 := eq_true q562
       have p563 : 0 ≤ (x7_2 : Int) := of_decide_eq_true (by with_reducible assumption)
       have q563 : x7_2 < (l0_1.length : Int) := of_decide_eq_true (by with_reducible assumption)
       obtain ⟨ad563, A563_2, c563_2, e563, hx563_0, hx563_1, hx563_2, hl563_2, hi563_2⟩ := at_T56 HR0_1.out x7_2 p563 q563
       have hw563_2 := hx563_2
       have hw563_1 := hx563_1
       have hw563_0 := hx563_0
       obtain rfl : ad562 = ad563 := (by injection e563)
       replace hx563_0 := (HB.out.cell (World.block_lt_of_cell? w _ hx563_0)).trans hx563_0
       replace hx563_1 := (HB.out.cell (World.block_lt_of_cell? w _ hx563_1)).trans hx563_1
       replace hx563_2 := (HB.out.cell (World.block_lt_of_cell? w _ hx563_2)).trans hx563_2
       have HR563_2 := Aside0.mk hi563_2
       have HC563_2 := Aside0.mk hl563_2
       clear hi563_2 hl563_2
       replace p563 := eq_true p563
       replace q563 := eq_true q563
       have ea_ := Option.some.inj (hx562_2.symm.trans hx563_2)
       injection ea_ with ea_ en_ ec_
       subst ea_
       subst ec_
       clear en_
       have p564 : 0 ≤ (x7_2 : Int) := of_decide_eq_true (by with_reducible assumption)
       have q564 : x7_2 < (l0_1.length : Int) := of_decide_eq_true (by with_reducible assumption)
       obtain ⟨ad564, A564_2, c564_2, e564, hx564_0, hx564_1, hx564_2, hl564_2, hi564_2⟩ := at_T56 HR0_1.out x7_2 p564 q564
       have hw564_2 := hx564_2
       have hw564_1 := hx564_1
       have hw564_0 := hx564_0
       obtain rfl : ad562 = ad564 := (by injection e564)
       replace hx564_0 := (HB.out.cell (World.block_lt_of_cell? w _ hx564_0)).trans hx564_0
       replace hx564_1 := (HB.out.cell (World.block_lt_of_cell? w _ hx564_1)).trans hx564_1
       replace hx564_2 := (HB.out.cell (World.block_lt_of_cell? w _ hx564_2)).trans hx564_2
       have HR564_2 := Aside0.mk hi564_2
       have HC564_2 := Aside0.mk hl564_2
       clear hi564_2 hl564_2
       replace p564 := eq_true p564
       replace q564 := eq_true q564
       have ea_ := Option.some.inj (hx562_2.symm.trans hx564_2)
       injection ea_ with ea_ en_ ec_
       subst ea_
       subst ec_
       clear en_
       refine start_ (n := 26) (S := fun w' => w'.cell? ⟨gb561, 0, none⟩ = some (.int .i64 a0_0) ∧ w'.cell? ⟨gb561, 1, none⟩ = some (u562001) ∧ w'.cell? ⟨gb561, 2, none⟩ = some (.slice Ao27 t558.length co27) ∧ w'.cell? ⟨gb561, 3, none⟩ = some (.int .i64 a0_3) ∧ w'.cell? ⟨gb561, 4, none⟩ = some (.int .i64 a0_4) ∧ w'.cell? ⟨gb561, 5, none⟩ = some (.int .i64 a0_5) ∧ w'.cell? ⟨gb561, 6, none⟩ = some (.int .i64 a0_6) ∧ w'.cell? ⟨gb552, 0, none⟩ = some (.int .i64 a0_0) ∧ w'.cell? ⟨gb552, 1, none⟩ = some (.slice (some ad562) l0_1.length c0_1) ∧ w'.cell? ⟨gb552, 2, none⟩ = some (.slice A0_2 l0_2.length c0_2) ∧ w'.cell? ⟨gb552, 3, none⟩ = some (.int .i64 a0_3) ∧ w'.cell? ⟨gb552, 4, none⟩ = some (.int .i64 a0_4) ∧ w'.cell? ⟨gb552, 5, none⟩ = some (.int .i64 a0_5) ∧ w'.cell? ⟨gb552, 6, none⟩ = some (.int .i64 a0_6) ∧ w'.cell? (ad562.add ((x7_2).toNat * 3)) = some (.int .i64 ((rd_T56 l0_1 x7_2).f0)) ∧ w'.cell? ⟨(ad562.add ((x7_2).toNat * 3)).block, (ad562.add ((x7_2).toNat * 3)).off + 1, none⟩ = some (.int .i64 ((rd_T56 l0_1 x7_2).f1)) ∧ w'.cell? ⟨(ad562.add ((x7_2).toNat * 3)).block, (ad562.add ((x7_2).toNat * 3)).off + 2, none⟩ = some (.slice A562_2 ((rd_T56 l0_1 x7_2).f2).length c562_2) ∧ w'.cell? (ad562.add ((x7_2).toNat * 3)) = some (.int .i64 ((rd_T56 l0_1 x7_2).f0)) ∧ w'.cell? ⟨(ad562.add ((x7_2).toNat * 3)).block, (ad562.add ((x7_2).toNat * 3)).off + 1, none⟩ = some (.int .i64 ((rd_T56 l0_1 x7_2).f1)) ∧ w'.cell? ⟨(ad562.add ((x7_2).toNat * 3)).block, (ad562.add ((x7_2).toNat * 3)).off + 2, none⟩ = some (.slice A562_2 ((rd_T56 l0_1 x7_2).f2).length c562_2) ∧ w'.cell? (ad562.add ((x7_2).toNat * 3)) = some (.int .i64 ((rd_T56 l0_1 x7_2).f0)) ∧ w'.cell? ⟨(ad562.add ((x7_2).toNat * 3)).block, (ad562.add ((x7_2).toNat * 3)).off + 1, none⟩ = some (.int .i64 ((rd_T56 l0_1 x7_2).f1)) ∧ w'.cell? ⟨(ad562.add ((x7_2).toNat * 3)).block, (ad562.add ((x7_2).toNat * 3)).off + 2, none⟩ = some (.slice A562_2 ((rd_T56 l0_1 x7_2).f2).length c562_2)) (ds := [25]) #[false, false, false, false, false, false, false, false, false, false, false, false, false, false, false, false, false, false, false, false, false, false, false, false, false, false] (by kernel_rfl) rfl rfl ⟨(blk_cell BK561.out 0).trans rfl, (blk_cell BK561.out 1).trans rfl, (blk_cell BK561.out 2).trans rfl, (blk_cell BK561.out 3).trans rfl, (blk_cell BK561.out 4).trans rfl, (blk_cell BK561.out 5).trans rfl, (blk_cell BK561.out 6).trans rfl, (blk_cell BK552.out 0).trans rfl, (blk_cell BK552.out 1).trans rfl, (blk_cell BK552.out 2).trans rfl, (blk_cell BK552.out 3).trans rfl, (blk_cell BK552.out 4).trans rfl, (blk_cell BK552.out 5).trans rfl, (blk_cell BK552.out 6).trans rfl, ((HB.out.cell (World.block_lt_of_cell? w _ hw562_0)).trans hw562_0), ((HB.out.cell (World.block_lt_of_cell? w _ hw562_1)).trans hw562_1), ((HB.out.cell (World.block_lt_of_cell? w _ hw562_2)).trans hw562_2), ((HB.out.cell (World.block_lt_of_cell? w _ hw563_0)).trans hw563_0), ((HB.out.cell (World.block_lt_of_cell? w _ hw563_1)).trans hw563_1), ((HB.out.cell (World.block_lt_of_cell? w _ hw563_2)).trans hw563_2), ((HB.out.cell (World.block_lt_of_cell? w _ hw564_0)).trans hw564_0), ((HB.out.cell (World.block_lt_of_cell? w _ hw564_1)).trans hw564_1), ((HB.out.cell (World.block_lt_of_cell? w _ hw564_2)).trans hw564_2)⟩ (fun hHeld => ?_); refine with_tabW spec_PadCircuit.tab7 spec_PadCircuit.bits7 (fun HT_ HW_ => ?_)
       generalize wr.drew = w43 at HO_562001 HO_562002 BK552 BK553 BK561 HB HR562_2 HR563_2 HR564_2 hx562_0 hx562_1 hx562_2 hx563_0 hx563_1 hx563_2 hx564_0 hx564_1 hx564_2 hHeld ⊢
       refine pure_ (i := 0) (N := some 41) (v := ?_) (a' := ?_) #[true, false, false, false, false, false, false, false, false, false, false, false, false, false, false, false, false, false, false, false, false, false, false, false, false, false] rfl rfl (any_of HT_.out (by kernel_rfl)) (fun _ _ _ h => h) (Or.inl ⟨by rfl, ?_⟩) ?_ ?_
       rotate_left
       ·intro w'
        go_simp
        with_reducible rfl
       rotate_left
       ·simp only [Act.put, List.setIfInBounds_toArray, List.set_cons_zero, List.set_cons_succ, i64_w, i32_w]
        rfl
       refine pure_ (i := 2) (N := some 43) (v := ?_) (a' := ?_) #[true, false, true, false, false, false, false, false, false, false, false, false, false, false, false, false, false, false, false, false, false, false, false, false, false, false] rfl rfl (any_of HT_.out (by kernel_rfl)) (fun _ _ _ h => h) (Or.inl ⟨by rfl, ?_⟩) ?_ ?_
       rotate_left
       ·intro w'
        go_simp
        with_reducible rfl
       rotate_left
       ·simp only [Act.put, List.setIfInBounds_toArray, List.set_cons_zero, List.set_cons_succ, i64_w, i32_w]
        rfl
       refine pure_ (i := 4) (N := some 45) (v := ?_) (a' := ?_) #[true, false, true, false, true, false, false, false, false, false, false, false, false, false, false, false, false, false, false, false, false, false, false, false, false, false] rfl rfl (any_of HT_.out (by kernel_rfl)) (fun _ _ _ h => h) (Or.inl ⟨by rfl, ?_⟩) ?_ ?_
       rotate_left
       ·intro w'
        go_simp
        with_reducible rfl
       rotate_left
       ·simp only [Act.put, List.setIfInBounds_toArray, List.set_cons_zero, List.set_cons_succ, i64_w, i32_w]
        rfl
       refine pure_ (i := 8) (N := some 49) (v := ?_) (a' := ?_) #[true, false, true, false, true, false, false, false, true, false, false, false, false, false, false, false, false, false, false, false, false, false, false, false, false, false] rfl rfl (any_of HT_.out (by kernel_rfl)) (fun _ _ _ h => h) (Or.inl ⟨by rfl, ?_⟩) ?_ ?_
       rotate_left
       ·intro w'
        go_simp
        with_reducible rfl
       rotate_left
       ·simp only [Act.put, List.setIfInBounds_toArray, List.set_cons_zero, List.set_cons_succ, i64_w, i32_w]
        rfl
       refine pure_ (i := 10) (N := some 51) (v := ?_) (a' := ?_) #[true, false, true, false, true, false, false, false, true, false, true, false, false, false, false, false, false, false, false, false, false, false, false, false, false, false] rfl rfl (any_of HT_.out (by kernel_rfl)) (fun _ _ _ h => h) (Or.inl ⟨by rfl, ?_⟩) ?_ ?_
       rotate_left
       ·intro w'
        go_simp
        with_reducible rfl
       rotate_left
       ·simp only [Act.put, List.setIfInBounds_toArray, List.set_cons_zero, List.set_cons_succ, i64_w, i32_w]
        rfl
       refine pure_ (i := 14) (N := some 55) (v := ?_) (a' := ?_) #[true, false, true, false, true, false, false, false, true, false, true, false, false, false, true, false, false, false, false, false, false, false, false, false, false, false] rfl rfl (any_of HT_.out (by kernel_rfl)) (fun _ _ _ h => h) (Or.inl ⟨by rfl, ?_⟩) ?_ ?_
       rotate_left
       ·intro w'
        go_simp
        with_reducible rfl
       rotate_left
       ·simp only [Act.put, List.setIfInBounds_toArray, List.set_cons_zero, List.set_cons_succ, i64_w, i32_w]
        rfl
       refine pure_ (i := 16) (N := some 57) (v := ?_) (a' := ?_) #[true, false, true, false, true, false, false, false, true, false, true, false, false, false, true, false, true, false, false, false, false, false, false, false, false, false] rfl rfl (any_of HT_.out (by kernel_rfl)) (fun _ _ _ h => h) (Or.inl ⟨by rfl, ?_⟩) ?_ ?_
       rotate_left
       ·intro w'
        go_simp
        with_reducible rfl
       rotate_left
       ·simp only [Act.put, List.setIfInBounds_toArray, List.set_cons_zero, List.set_cons_succ, i64_w, i32_w]
        rfl
       refine take_ (i := 1) (N := some 42) (v := ?_) (a' := ?_) #[true, true, true, false, true, false, false, false, true, false, true, false, false, false, true, false, true, false, false, false, false, false, false, false, false, false] rfl rfl (take_ofW HT_.out HW_.out (by kernel_rfl)) (fun _ _ _ h => h) (Or.inl ⟨by rfl, ?_⟩) hHeld ?_ ?_
       rotate_left
       ·rintro w' ⟨s0, s1, s2, s3, s4, s5, s6, s7, s8, s9, s10, s11, s12, s13, s14, s15, s16, s17, s18, s19, s20, s21, s22⟩
        go_simp
        with_reducible rfl
       rotate_left
       ·simp only [Act.put, List.setIfInBounds_toArray, List.set_cons_zero, List.set_cons_succ, i64_w, i32_w]
        rfl
       refine take_ (i := 3) (N := some 44) (v := ?_) (a' := ?_) #[true, true, true, true, true, false, false, false, true, false, true, false, false, false, true, false, true, false, false, false, false, false, false, false, false, false] rfl rfl (take_ofW HT_.out HW_.out (by kernel_rfl)) (fun _ _ _ h => h) (Or.inl ⟨by rfl, ?_⟩) hHeld ?_ ?_
       rotate_left
       ·rintro w' ⟨s0, s1, s2, s3, s4, s5, s6, s7, s8, s9, s10, s11, s12, s13, s14, s15, s16, s17, s18, s19, s20, s21, s22⟩
        go_simp
        with_reducible rfl
       rotate_left
       ·simp only [Act.put, List.setIfInBounds_toArray, List.set_cons_zero, List.set_cons_succ, i64_w, i32_w]
        rfl
       refine pure_ (i := 5) (N := some 46) (v := ?_) (a' := ?_) #[true, true, true, true, true, true, false, false, true, false, true, false, false, false, true, false, true, false, false, false, false, false, false, false, false, false] rfl rfl (any_of HT_.out (by kernel_rfl)) (fun _ _ _ h => h) (Or.inl ⟨by rfl, ?_⟩) ?_ ?_
       rotate_left
       ·intro w'
        go_simp
        with_reducible rfl
       rotate_left
       ·simp only [Act.put, List.setIfInBounds_toArray, List.set_cons_zero, List.set_cons_succ, i64_w, i32_w]
        rfl
       refine pure_ (i := 6) (N := some 47) (v := ?_) (a' := ?_) #[true, true, true, true, true, true, true, false, true, false, true, false, false, false, true, false, true, false, false, false, false, false, false, false, false, false] rfl rfl (any_of HT_.out (by kernel_rfl)) (fun _ _ _ h => h) (Or.inl ⟨by rfl, ?_⟩) ?_ ?_
       rotate_left
       ·intro w'
        go_simp
        with_reducible rfl
       rotate_left
       ·simp only [Act.put, List.setIfInBounds_toArray, List.set_cons_zero, List.set_cons_succ, i64_w, i32_w]
        rfl
       refine take_ (i := 7) (N := some 48) (v := ?_) (a' := ?_) #[true, true, true, true, true, true, true, true, true, false, true, false, false, false, true, false, true, false, false, false, false, false, false, false, false, false] rfl rfl (take_ofW HT_.out HW_.out (by kernel_rfl)) (fun _ _ _ h => h) (Or.inl ⟨by rfl, ?_⟩) hHeld ?_ ?_
       rotate_left
       ·rintro w' ⟨s0, s1, s2, s3, s4, s5, s6, s7, s8, s9, s10, s11, s12, s13, s14, s15, s16, s17, s18, s19, s20, s21, s22⟩
        go_simp
        with_reducible rfl
       rotate_left
       ·simp only [Act.put, List.setIfInBounds_toArray, List.set_cons_zero, List.set_cons_succ, i64_w, i32_w]
        rfl
       refine take_ (i := 9) (N := some 50) (v := ?_) (a' := ?_) #[true, true, true, true, true, true, true, true, true, true, true, false, false, false, true, false, true, false, false, false, false, false, false, false, false, false] rfl rfl (take_ofW HT_.out HW_.out (by kernel_rfl)) (fun _ _ _ h => h) (Or.inl ⟨by rfl, ?_⟩) hHeld ?_ ?_
       rotate_left
       ·rintro w' ⟨s0, s1, s2, s3, s4, s5, s6, s7, s8, s9, s10, s11, s12, s13, s14, s15, s16, s17, s18, s19, s20, s21, s22⟩
        go_simp
        with_reducible rfl
       rotate_left
       ·simp only [Act.put, List.setIfInBounds_toArray, List.set_cons_zero, List.set_cons_succ, i64_w, i32_w]
        rfl
       refine pure_ (i := 11) (N := some 52) (v := ?_) (a' := ?_) #[true, true, true, true, true, true, true, true, true, true, true, true, false, false, true, false, true, false, false, false, false, false, false, false, false, false] rfl rfl (any_of HT_.out (by kernel_rfl)) (fun _ _ _ h => h) (Or.inl ⟨by rfl, ?_⟩) ?_ ?_
       rotate_left
       ·intro w'
        go_simp
        with_reducible rfl
       rotate_left
       ·simp only [Act.put, List.setIfInBounds_toArray, List.set_cons_zero, List.set_cons_succ, i64_w, i32_w]
        rfl
       refine pure_ (i := 12) (N := some 53) (v := ?_) (a' := ?_) #[true, true, true, true, true, true, true, true, true, true, true, true, true, false, true, false, true, false, false, false, false, false, false, false, false, false] rfl rfl (any_of HT_.out (by kernel_rfl)) (fun _ _ _ h => h) (Or.inl ⟨by rfl, ?_⟩) ?_ ?_
       rotate_left
       ·intro w'
        go_simp
        with_reducible rfl
       rotate_left
       ·simp only [Act.put, List.setIfInBounds_toArray, List.set_cons_zero, List.set_cons_succ, i64_w, i32_w]
        rfl
       refine take_ (i := 13) (N := some 54) (v := ?_) (a' := ?_) #[true, true, true, true, true, true, true, true, true, true, true, true, true, true, true, false, true, false, false, false, false, false, false, false, false, false] rfl rfl (take_ofW HT_.out HW_.out (by kernel_rfl)) (fun _ _ _ h => h) (Or.inl ⟨by rfl, ?_⟩) hHeld ?_ ?_
       rotate_left
       ·rintro w' ⟨s0, s1, s2, s3, s4, s5, s6, s7, s8, s9, s10, s11, s12, s13, s14, s15, s16, s17, s18, s19, s20, s21, s22⟩
        go_simp
        with_reducible rfl
       rotate_left
       ·simp only [Act.put, List.setIfInBounds_toArray, List.set_cons_zero, List.set_cons_succ, i64_w, i32_w]
        rfl
       refine take_ (i := 15) (N := some 56) (v := ?_) (a' := ?_) #[true, true, true, true, true, true, true, true, true, true, true, true, true, true, true, true, true, false, false, false, false, false, false, false, false, false] rfl rfl (take_ofW HT_.out HW_.out (by kernel_rfl)) (fun _ _ _ h => h) (Or.inl ⟨by rfl, ?_⟩) hHeld ?_ ?_
       rotate_left
       ·rintro w' ⟨s0, s1, s2, s3, s4, s5, s6, s7, s8, s9, s10, s11, s12, s13, s14, s15, s16, s17, s18, s19, s20, s21, s22⟩
        go_simp
        with_reducible rfl
       rotate_left
       ·simp only [Act.put, List.setIfInBounds_toArray, List.set_cons_zero, List.set_cons_succ, i64_w, i32_w]
        rfl
       refine pure_ (i := 17) (N := some 58) (v := ?_) (a' := ?_) #[true, true, true, true, true, true, true, true, true, true, true, true, true, true, true, true, true, true, false, false, false, false, false, false, false, false] rfl rfl (any_of HT_.out (by kernel_rfl)) (fun _ _ _ h => h) (Or.inl ⟨by rfl, ?_⟩) ?_ ?_
       rotate_left
       ·intro w'
        go_simp
        with_reducible rfl
       rotate_left
       ·simp only [Act.put, List.setIfInBounds_toArray, List.set_cons_zero, List.set_cons_succ, i64_w, i32_w]
        rfl
       refine pure_ (i := 18) (N := some 59) (v := ?_) (a' := ?_) #[true, true, true, true, true, true, true, true, true, true, true, true, true, true, true, true, true, true, true, false, false, false, false, false, false, false] rfl rfl (any_of HT_.out (by kernel_rfl)) (fun _ _ _ h => h) (Or.inl ⟨by rfl, ?_⟩) ?_ ?_
       rotate_left
       ·intro w'
        go_simp
        with_reducible rfl
       rotate_left
       ·simp only [Act.put, List.setIfInBounds_toArray, List.set_cons_zero, List.set_cons_succ, i64_w, i32_w]
        rfl
       refine take_ (i := 19) (N := some 60) (v := ?_) (a' := ?_) #[true, true, true, true, true, true, true, true, true, true, true, true, true, true, true, true, true, true, true, true, false, false, false, false, false, false] rfl rfl (take_ofW HT_.out HW_.out (by kernel_rfl)) (fun _ _ _ h => h) (Or.inl ⟨by rfl, ?_⟩) hHeld ?_ ?_
       rotate_left
       ·rintro w' ⟨s0, s1, s2, s3, s4, s5, s6, s7, s8, s9, s10, s11, s12, s13, s14, s15, s16, s17, s18, s19, s20, s21, s22⟩
        go_simp
        with_reducible rfl
       rotate_left
       ·simp only [Act.put, List.setIfInBounds_toArray, List.set_cons_zero, List.set_cons_succ, i64_w, i32_w]
        rfl
       refine one_ (i := 20) (N := some 61) #[true, true, true, true, true, true, true, true, true, true, true, true, true, true, true, true, true, true, true, true, true, false, false, false, false, false] rfl rfl (one_of HT_.out (by kernel_rfl)) (by decide) (fun K hK => ?_)
       refine goes_ Try.func55 (by kernel_rfl) rfl #[.slice A562_2 ((rd_T56 l0_1 x7_2).f2).length c562_2] (by rfl) rfl rfl (by (try simp only [List.map_toArray, List.map_cons, List.map_nil]); first | done | rfl | (simp only [List.length_drop, List.length_take]; rfl)) ?_
       with_reducible refine (spec_l00Own.calls _ _ ((rd_T56 l0_1 x7_2).f2) t565 _ ?side1 ?side2 A38.out).mono ?_
       (case side1 => repeat (first | exact (Kd.C_below HR564_2.out HB.out) | (with_reducible refine Kd.C_alloc ?_ _) | (with_reducible refine Kd.C_drewN ?_ _) | (with_reducible refine Kd.C_drew ?_)))
       (case side2 => exact HC564_2.out)
       rintro e w44 ⟨v566, rfl, ho0, hb⟩
       refine ⟨_, rfl, ?_⟩
       have n0_ := Aside0.mk (Kd.S_elder' (by (with_reducible repeat (first | apply Kd.S_alloc | apply Kd.S_drewN | apply Kd.S_drew)); exact HO_562001.out) (Kd.R_base ho0) hb)
       have n1_ := Aside0.mk (Kd.R_elder' (by (with_reducible repeat (first | apply Kd.R_alloc | apply Kd.R_drewN | apply Kd.R_drew)); exact HO_562002.out) (Kd.R_base ho0) hb)
       have n2_ := Aside0.mk (Kd.R_lower (Kd.R_new' ho0 (Kd.R_lt (by (with_reducible repeat (first | apply Kd.R_alloc | apply Kd.R_drewN | apply Kd.R_drew)); exact HO_562002.out))) (below_size (by with_reducible repeat (first | exact HB.out | apply below_alloc | apply pw_below_drewN | apply below_drew1 | refine below_set ?_ GE552.out | refine below_set ?_ GE553.out | refine below_set ?_ GE561.out))))
       have n3_ := Aside0.mk (blk_below (g := gb552) (by (with_reducible repeat (first | refine blk_drewN ?_ _ | refine blk_drew ?_ | refine blk_alloc ?_ _)); exact BK552.out) hb)
       have n4_ := Aside0.mk (blk_below (g := gb553) (by (with_reducible repeat (first | refine blk_drewN ?_ _ | refine blk_drew ?_ | refine blk_alloc ?_ _)); exact BK553.out) hb)
       have n5_ := Aside0.mk (blk_below (g := gb561) (by (with_reducible repeat (first | refine blk_drewN ?_ _ | refine blk_drew ?_ | refine blk_alloc ?_ _)); exact BK561.out) hb)
       have n6_ := Aside0.mk (below_step (by with_reducible repeat (first | exact HB.out | apply below_alloc | apply pw_below_drewN | apply below_drew1 | refine below_set ?_ GE552.out | refine below_set ?_ GE553.out | refine below_set ?_ GE561.out)) hb)
       clear HO_562001
       clear HO_562002
       clear BK552
       clear BK553
       clear BK561
       clear HB
       have HO_562001 := n0_
       have HO_562002 := n1_
       have HO567 := n2_
       have BK552 := n3_
       have BK553 := n4_
       have BK561 := n5_
       have HB := n6_
       clear n0_ n1_ n2_ n3_ n4_ n5_ n6_
       (try clear hb)
       (try clear hb2)
       (try clear hk)
       (try clear hi)
       (try clear ho0)
       obtain ⟨Ao45, co45, eo45⟩ := Kd.R_slice HO567.out
       (first | subst eo45 | (injection eo45 with f1_ f2_ f3_; have f4_ := f1_.symm; have f5_ := f3_.symm; clear f1_ f2_ f3_; subst f4_; subst f5_))
       refine hK.out _ _ ⟨(blk_cell BK561.out 0).trans rfl, (blk_cell BK561.out 1).trans rfl, (blk_cell BK561.out 2).trans rfl, (blk_cell BK561.out 3).trans rfl, (blk_cell BK561.out 4).trans rfl, (blk_cell BK561.out 5).trans rfl, (blk_cell BK561.out 6).trans rfl, (blk_cell BK552.out 0).trans rfl, (blk_cell BK552.out 1).trans rfl, (blk_cell BK552.out 2).trans rfl, (blk_cell BK552.out 3).trans rfl, (blk_cell BK552.out 4).trans rfl, (blk_cell BK552.out 5).trans rfl, (blk_cell BK552.out 6).trans rfl, ((HB.out.cell (World.block_lt_of_cell? w _ hw562_0)).trans hw562_0), ((HB.out.cell (World.block_lt_of_cell? w _ hw562_1)).trans hw562_1), ((HB.out.cell (World.block_lt_of_cell? w _ hw562_2)).trans hw562_2), ((HB.out.cell (World.block_lt_of_cell? w _ hw563_0)).trans hw563_0), ((HB.out.cell (World.block_lt_of_cell? w _ hw563_1)).trans hw563_1), ((HB.out.cell (World.block_lt_of_cell? w _ hw563_2)).trans hw563_2), ((HB.out.cell (World.block_lt_of_cell? w _ hw564_0)).trans hw564_0), ((HB.out.cell (World.block_lt_of_cell? w _ hw564_1)).trans hw564_1), ((HB.out.cell (World.block_lt_of_cell? w _ hw564_2)).trans hw564_2)⟩ (fun hHeld => ?_)
       clear hK K
       refine norm_ (a' := ?_) ?_ ?_
       rotate_left
       ·show Act.put _ (some 61) _ = _
        simp only [Act.put, List.setIfInBounds_toArray, List.set_cons_zero, List.set_cons_succ, i64_w, i32_w]
        rfl
       refine pure_ (i := 21) (N := some 62) (v := ?_) (a' := ?_) #[true, true, true, true, true, true, true, true, true, true, true, true, true, true, true, true, true, true, true, true, true, true, false, false, false, false] rfl rfl (any_of HT_.out (by kernel_rfl)) (fun _ _ _ h => h) (Or.inl ⟨by rfl, ?_⟩) ?_ ?_
       rotate_left
       ·intro w'
        go_simp
        with_reducible rfl
       rotate_left
       ·simp only [Act.put, List.setIfInBounds_toArray, List.set_cons_zero, List.set_cons_succ, i64_w, i32_w]
        rfl
       refine one_ (i := 22) (N := some 63) #[true, true, true, true, true, true, true, true, true, true, true, true, true, true, true, true, true, true, true, true, true, true, true, false, false, false] rfl rfl (one_of HT_.out (by kernel_rfl)) (by decide) (fun K hK => ?_)
       refine value_ (w1 := ?_) (v := ?_) (by rfl) rfl ?_ ?_
       rotate_left 2
       ·go_simp
        constructor
        ·rfl
        ·rfl
       refine hK.out _ _ ⟨(blk_cell (blk_alloc BK561.out _) 0).trans rfl, (blk_cell (blk_alloc BK561.out _) 1).trans rfl, (blk_cell (blk_alloc BK561.out _) 2).trans rfl, (blk_cell (blk_alloc BK561.out _) 3).trans rfl, (blk_cell (blk_alloc BK561.out _) 4).trans rfl, (blk_cell (blk_alloc BK561.out _) 5).trans rfl, (blk_cell (blk_alloc BK561.out _) 6).trans rfl, (blk_cell (blk_alloc BK552.out _) 0).trans rfl, (blk_cell (blk_alloc BK552.out _) 1).trans rfl, (blk_cell (blk_alloc BK552.out _) 2).trans rfl, (blk_cell (blk_alloc BK552.out _) 3).trans rfl, (blk_cell (blk_alloc BK552.out _) 4).trans rfl, (blk_cell (blk_alloc BK552.out _) 5).trans rfl, (blk_cell (blk_alloc BK552.out _) 6).trans rfl, (World.cell?_alloc_lt _ _ _ (World.block_lt_of_cell? _ _ (((HB.out.cell (World.block_lt_of_cell? w _ hw562_0)).trans hw562_0)))).trans (((HB.out.cell (World.block_lt_of_cell? w _ hw562_0)).trans hw562_0)), (World.cell?_alloc_lt _ _ _ (World.block_lt_of_cell? _ _ (((HB.out.cell (World.block_lt_of_cell? w _ hw562_1)).trans hw562_1)))).trans (((HB.out.cell (World.block_lt_of_cell? w _ hw562_1)).trans hw562_1)), (World.cell?_alloc_lt _ _ _ (World.block_lt_of_cell? _ _ (((HB.out.cell (World.block_lt_of_cell? w _ hw562_2)).trans hw562_2)))).trans (((HB.out.cell (World.block_lt_of_cell? w _ hw562_2)).trans hw562_2)), (World.cell?_alloc_lt _ _ _ (World.block_lt_of_cell? _ _ (((HB.out.cell (World.block_lt_of_cell? w _ hw563_0)).trans hw563_0)))).trans (((HB.out.cell (World.block_lt_of_cell? w _ hw563_0)).trans hw563_0)), (World.cell?_alloc_lt _ _ _ (World.block_lt_of_cell? _ _ (((HB.out.cell (World.block_lt_of_cell? w _ hw563_1)).trans hw563_1)))).trans (((HB.out.cell (World.block_lt_of_cell? w _ hw563_1)).trans hw563_1)), (World.cell?_alloc_lt _ _ _ (World.block_lt_of_cell? _ _ (((HB.out.cell (World.block_lt_of_cell? w _ hw563_2)).trans hw563_2)))).trans (((HB.out.cell (World.block_lt_of_cell? w _ hw563_2)).trans hw563_2)), (World.cell?_alloc_lt _ _ _ (World.block_lt_of_cell? _ _ (((HB.out.cell (World.block_lt_of_cell? w _ hw564_0)).trans hw564_0)))).trans (((HB.out.cell (World.block_lt_of_cell? w _ hw564_0)).trans hw564_0)), (World.cell?_alloc_lt _ _ _ (World.block_lt_of_cell? _ _ (((HB.out.cell (World.block_lt_of_cell? w _ hw564_1)).trans hw564_1)))).trans (((HB.out.cell (World.block_lt_of_cell? w _ hw564_1)).trans hw564_1)), (World.cell?_alloc_lt _ _ _ (World.block_lt_of_cell? _ _ (((HB.out.cell (World.block_lt_of_cell? w _ hw564_2)).trans hw564_2)))).trans (((HB.out.cell (World.block_lt_of_cell? w _ hw564_2)).trans hw564_2))⟩ (fun hHeld => ?_)
       clear hK K
       refine norm_ (a' := ?_) ?_ ?_
       rotate_left
       ·show Act.put _ (some 63) _ = _
        simp only [Act.put, List.setIfInBounds_toArray, List.set_cons_zero, List.set_cons_succ, i64_w, i32_w]
        rfl
       refine one_ (i := 23) (N := some 64) #[true, true, true, true, true, true, true, true, true, true, true, true, true, true, true, true, true, true, true, true, true, true, true, true, false, false] rfl rfl (one_of HT_.out (by kernel_rfl)) (by decide) (fun K hK => ?_)
       refine Kd.S_append_step k56 (w0 := w) w.heap.size (by rfl) (.tmp 42) (.tmp 63) 43 56 (.agg #[(.int .i64 0), (.int .i64 0), (.slice none 0 0)]) 40 rfl Try.underlying43 info56 rfl (by decide) (by omega) u562001 x562001_2 (⟨(rd_T56 l0_1 x7_2).f0, (rd_T56 l0_1 x7_2).f1, t565⟩ : S56) [.int .i64 ((rd_T56 l0_1 x7_2).f0), .int .i64 ((rd_T56 l0_1 x7_2).f1), .slice Ao45 t565.length co45] (fun k_ => some k_ ≠ (.slice Ao27 t558.length co27 : Value).ownBlock) (fun k_ => some k_ = (.slice Ao45 t565.length co45 : Value).ownBlock) rfl rfl ?aP (fun k_ hk_ => ((Kd.R_mono (ok' := fun k_ => ((fun k_ => some k_ ≠ (.slice Ao27 t558.length co27 : Value).ownBlock)) k_ ∧ some k_ ≠ (u562001 : Value).ownBlock) (Kd.R_apart' (HO567.out) (Kd.S_typed HO_562001.out) (by decide)) (fun k_ hk => ⟨hk.1.2, hk.2⟩))).1 k_ hk_.symm) ?aF ?aO ?aB ?aS ?aL ?_
       (case aP => exact k56_mkM _ _ _ (⟨(rd_T56 l0_1 x7_2).f0, (rd_T56 l0_1 x7_2).f1, t565⟩ : S56) (Kd.R_mono (Kd.R_tight rfl (Kd.R_mono (ok' := fun k_ => ((fun k_ => some k_ ≠ (.slice Ao27 t558.length co27 : Value).ownBlock)) k_ ∧ some k_ ≠ (u562001 : Value).ownBlock) (Kd.R_apart' (HO567.out) (Kd.S_typed HO_562001.out) (by decide)) (fun k_ hk => ⟨hk.1.2, hk.2⟩))) (fun _ h_ => h_)))
       (case aB => exact (by with_reducible repeat (first | exact HB.out | apply below_alloc | apply pw_below_drewN | apply below_drew1 | refine below_set ?_ GE552.out | refine below_set ?_ GE553.out | refine below_set ?_ GE561.out)))
       (case aF => exact (fun k_ hk => Kd.fresh' (Kd.R_lt (by (with_reducible repeat (first | apply Kd.R_alloc | apply Kd.R_drewN | apply Kd.R_drew)); exact HO_562002.out)) k_ hk))
       (case aO => exact (by (with_reducible repeat (first | apply Kd.S_alloc | apply Kd.S_drewN | apply Kd.S_drew)); exact Kd.S_mono HO_562001.out (fun k_ hk => ⟨hk.1, fun e_ => hk.2 e_⟩)))
       (case aS => exact (below_size (by with_reducible repeat (first | exact HB.out | apply below_alloc | apply pw_below_drewN | apply below_drew1 | refine below_set ?_ GE552.out | refine below_set ?_ GE553.out | refine below_set ?_ GE561.out))))
       (case aL => have := LMc39.out; omega)
       intro v569 w46 ho hb hg hat
       rw [← Ny568.out] at ho
       have n0_ := Aside0.mk (Kd.R_over' (by (with_reducible repeat (first | apply Kd.R_alloc | apply Kd.R_drewN | apply Kd.R_drew)); exact HO_562002.out) (Kd.S_typed (by (with_reducible repeat (first | apply Kd.S_alloc | apply Kd.S_drewN | apply Kd.S_drew)); exact HO_562001.out)) (by decide) hg)
       have n1_ := Aside0.mk (blk_grown (g := gb552) (by (with_reducible repeat (first | refine blk_drewN ?_ _ | refine blk_drew ?_ | refine blk_alloc ?_ _)); exact BK552.out) hg (Kd.S_ne HO_562001.out BK552.out (by decide)))
       have n2_ := Aside0.mk (blk_grown (g := gb553) (by (with_reducible repeat (first | refine blk_drewN ?_ _ | refine blk_drew ?_ | refine blk_alloc ?_ _)); exact BK553.out) hg (Kd.S_ne HO_562001.out BK553.out (by decide)))
       have n3_ := Aside0.mk (blk_grown (g := gb561) (by (with_reducible repeat (first | refine blk_drewN ?_ _ | refine blk_drew ?_ | refine blk_alloc ?_ _)); exact BK561.out) hg (Kd.S_ne HO_562001.out BK561.out (by decide)))
       have n4_ := Aside0.mk (hb)
       have n5_ := Aside0.mk (ho)
       clear HO_562002
       clear BK552
       clear BK553
       clear BK561
       clear HB
       clear HO_562001
       clear HO567
       have HO_562002 := n0_
       have BK552 := n1_
       have BK553 := n2_
       have BK561 := n3_
       have HB := n4_
       have HO570 := n5_
       clear n0_ n1_ n2_ n3_ n4_ n5_
       clear ho hb hg hat
       obtain ⟨Ao47, co47, eo47⟩ := Kd.S_slice HO570.out
       (first | subst eo47 | (injection eo47 with f1_ f2_ f3_; have f4_ := f1_.symm; have f5_ := f3_.symm; clear f1_ f2_ f3_; subst f4_; subst f5_))
       refine hK.out _ _ ⟨(blk_cell BK561.out 0).trans rfl, (blk_cell BK561.out 1).trans rfl, (blk_cell BK561.out 2).trans rfl, (blk_cell BK561.out 3).trans rfl, (blk_cell BK561.out 4).trans rfl, (blk_cell BK561.out 5).trans rfl, (blk_cell BK561.out 6).trans rfl, (blk_cell BK552.out 0).trans rfl, (blk_cell BK552.out 1).trans rfl, (blk_cell BK552.out 2).trans rfl, (blk_cell BK552.out 3).trans rfl, (blk_cell BK552.out 4).trans rfl, (blk_cell BK552.out 5).trans rfl, (blk_cell BK552.out 6).trans rfl, ((HB.out.cell (World.block_lt_of_cell? w _ hw562_0)).trans hw562_0), ((HB.out.cell (World.block_lt_of_cell? w _ hw562_1)).trans hw562_1), ((HB.out.cell (World.block_lt_of_cell? w _ hw562_2)).trans hw562_2), ((HB.out.cell (World.block_lt_of_cell? w _ hw563_0)).trans hw563_0), ((HB.out.cell (World.block_lt_of_cell? w _ hw563_1)).trans hw563_1), ((HB.out.cell (World.block_lt_of_cell? w _ hw563_2)).trans hw563_2), ((HB.out.cell (World.block_lt_of_cell? w _ hw564_0)).trans hw564_0), ((HB.out.cell (World.block_lt_of_cell? w _ hw564_1)).trans hw564_1), ((HB.out.cell (World.block_lt_of_cell? w _ hw564_2)).trans hw564_2)⟩ (fun hHeld => ?_)
       clear hK K
       refine norm_ (a' := ?_) ?_ ?_
       rotate_left
       ·show Act.put _ (some 64) _ = _
        simp only [Act.put, List.setIfInBounds_toArray, List.set_cons_zero, List.set_cons_succ, i64_w, i32_w]
        rfl
       refine pure_ (i := 24) (N := some 65) (v := ?_) (a' := ?_) #[true, true, true, true, true, true, true, true, true, true, true, true, true, true, true, true, true, true, true, true, true, true, true, true, true, false] rfl rfl (any_of HT_.out (by kernel_rfl)) (fun _ _ _ h => h) (Or.inl ⟨by rfl, ?_⟩) ?_ ?_
       rotate_left
       ·intro w'
        go_simp
        with_reducible rfl
       rotate_left
       ·simp only [Act.put, List.setIfInBounds_toArray, List.set_cons_zero, List.set_cons_succ, i64_w, i32_w]
        rfl
       refine last_ (i := 25) (N := none) #[true, true, true, true, true, true, true, true, true, true, true, true, true, true, true, true, true, true, true, true, true, true, true, true, true, true] rfl rfl (one_of HT_.out (by kernel_rfl)) (by decide) (fun K hK => ?_)
       have hs48 : w46.cell? ⟨gb561, 1, none⟩ = some (u562001) := (blk_cell BK561.out 1).trans rfl
       have hfs48 := blk_frozen BK561.out 1
       have hns48_0 := NB552_561.out
       have hns48_1 := NB553_561.out
       have hms48_0 := NB561_552.out
       have hms48_1 := NB561_553.out
       refine skip_ (w1 := ?_) (by rfl) rfl ?_ ?_
       rotate_left
       ·go_simp
        rfl
       refine hK.out _ _ ?_
       clear hK K
       refine done_ (done_of HT_.out (by kernel_rfl)) ?_
       try go_wp2
       go_roundg k2
       case measure => have := HJ2.out; have := HK2.out; omega
       case rel => exact ⟨(wrap64 (x7_2 + 1)), (y568), (.slice Ao47 y568.length co47), (by first | rfl | (simp; done) | (simp [*]; done)), H', ⟨by have := HJ2.out; have := HK2.out; omega⟩, ⟨by (with_reducible repeat (first | apply Kd.S_alloc | apply Kd.S_drewN | apply Kd.S_drew)); exact Kd.S_mono (Kd.S_far (p := ⟨gb561, 1, none⟩) (Kd.S_types HO570.out BK561.out (by decide)) (fun _ hk => hk.2) (.slice Ao47 y568.length co47)) (fun _ hk => hk.1)⟩, ⟨by (with_reducible repeat (first | apply Kd.R_alloc | apply Kd.R_drewN | apply Kd.R_drew)); exact Kd.R_mono (Kd.R_far (p := ⟨gb561, 1, none⟩) (Kd.R_types HO_562002.out BK561.out (by decide)) (fun _ hk => hk.2) (.slice Ao47 y568.length co47)) (fun _ hk => trivial)⟩, ⟨by (with_reducible repeat (first | refine blk_drewN ?_ _ | refine blk_drew ?_ | refine blk_alloc ?_ _)); refine blk_far ?_ NB552_561.out _; (with_reducible repeat (first | refine blk_drewN ?_ _ | refine blk_drew ?_ | refine blk_alloc ?_ _)); exact BK552.out⟩, ⟨by (with_reducible repeat (first | refine blk_drewN ?_ _ | refine blk_drew ?_ | refine blk_alloc ?_ _)); refine blk_far ?_ NB553_561.out _; (with_reducible repeat (first | refine blk_drewN ?_ _ | refine blk_drew ?_ | refine blk_alloc ?_ _)); exact BK553.out⟩, ⟨by (with_reducible repeat (first | refine blk_drewN ?_ _ | refine blk_drew ?_ | refine blk_alloc ?_ _)); refine blk_put (cs := #[.int .i64 a0_0, u562001, .slice Ao27 t558.length co27, .int .i64 a0_3, .int .i64 a0_4, .int .i64 a0_5, .int .i64 a0_6]) ?_ 1 _ rfl; (with_reducible repeat (first | refine blk_drewN ?_ _ | refine blk_drew ?_ | refine blk_alloc ?_ _)); exact BK561.out⟩, ⟨by with_reducible repeat (first | exact HB.out | apply below_alloc | apply pw_below_drewN | apply below_drew1 | refine below_set ?_ GE552.out | refine below_set ?_ GE553.out | refine below_set ?_ GE561.out)⟩⟩
      ·rw [if_neg c36] at H
       have c36b0 : decide (x7_2 < (l0_1.length : Int)) = false := decide_eq_false c36
       clear c36
       have H' := Aside0.mk H
       clear H
       have hnb49 := NB552_553.out
       have hnc49 := NB553_552.out
       have hnb50 := NB552_561.out
       have hnc50 := NB561_552.out
       have hcz51_0 : wr.cell? ⟨gb552, 0, none⟩ = some (.int .i64 a0_0) := (blk_cell BK552.out 0).trans rfl
       have hcz51_1 : wr.cell? ⟨gb552, 1, none⟩ = some (.slice A0_1 l0_1.length c0_1) := (blk_cell BK552.out 1).trans rfl
       have hcz51_2 : wr.cell? ⟨gb552, 2, none⟩ = some (.slice A0_2 l0_2.length c0_2) := (blk_cell BK552.out 2).trans rfl
       have hcz51_3 : wr.cell? ⟨gb552, 3, none⟩ = some (.int .i64 a0_3) := (blk_cell BK552.out 3).trans rfl
       have hcz51_4 : wr.cell? ⟨gb552, 4, none⟩ = some (.int .i64 a0_4) := (blk_cell BK552.out 4).trans rfl
       have hcz51_5 : wr.cell? ⟨gb552, 5, none⟩ = some (.int .i64 a0_5) := (blk_cell BK552.out 5).trans rfl
       have hcz51_6 : wr.cell? ⟨gb552, 6, none⟩ = some (.int .i64 a0_6) := (blk_cell BK552.out 6).trans rfl
       have hfz51_0 := blk_frozen BK552.out 0
       have hfz51_1 := blk_frozen BK552.out 1
       have hfz51_2 := blk_frozen BK552.out 2
       have hfz51_3 := blk_frozen BK552.out 3
       have hfz51_4 := blk_frozen BK552.out 4
       have hfz51_5 := blk_frozen BK552.out 5
       have hfz51_6 := blk_frozen BK552.out 6
       go_wp2
       go_loopg [8] k2 (fun kq v8 w' => ∃ (x8_3 : Int) (x554000_3 : Int) (x554003_3 : Int) (x554004_3 : Int) (x554005_3 : Int) (x554006_3 : Int) (x562001_3 : List (S56)) (x562002_3 : List Int) (u562001 : Value) (u562002 : Value), v8 = .int .i64 x8_3 ∧ Aside0 (spec_PadCircuit.l1 kq l1 x8_3 a0_0 l0_1 l0_2 a0_3 a0_4 a0_5 a0_6 a0_0 x562001_3 x562002_3 a0_3 a0_4 a0_5 a0_6 = some (r1, r2, r3, r4, r5, r6, r7, r8)) ∧ Aside0 (kq ≤ k2) ∧ Aside0 (Kd.S k56 56 w' w.heap.size (fun k_ => some k_ ≠ (u562002 : Value).ownBlock) u562001 x562001_3) ∧ Aside0 (Kd.R (Kd.int .i64) 2 w' w.heap.size (fun _ => True) u562002 x562002_3) ∧ Aside0 (w'.heap[gb552]? = some (.cells #[.int .i64 a0_0, (.slice A0_1 l0_1.length c0_1), (.slice A0_2 l0_2.length c0_2), .int .i64 a0_3, .int .i64 a0_4, .int .i64 a0_5, .int .i64 a0_6] 45 (0, 0))) ∧ Aside0 (w'.heap[gb553]? = some (.cells #[.int .i64 x554000_3, (.slice none 0 0), (.slice none 0 0), .int .i64 x554003_3, .int .i64 x554004_3, .int .i64 x554005_3, .int .i64 x554006_3] 45 (0, 0))) ∧ Aside0 (w'.heap[gb561]? = some (.cells #[.int .i64 a0_0, u562001, u562002, .int .i64 a0_3, .int .i64 a0_4, .int .i64 a0_5, .int .i64 a0_6] 45 (0, 0))) ∧ Aside0 (Below w.heap.size w w'))
       case atStart => exact ⟨(0), (0), (0), (0), (0), (0), (x562001_2), (t558), (u562001), (.slice Ao27 t558.length co27), (by first | rfl | (simp; done) | (simp [*]; done)), H', ⟨Nat.le_refl _⟩, ⟨by (with_reducible repeat (first | apply Kd.S_alloc | apply Kd.S_drewN | apply Kd.S_drew)); exact HO_562001.out⟩, ⟨by (with_reducible repeat (first | apply Kd.R_alloc | apply Kd.R_drewN | apply Kd.R_drew)); exact HO_562002.out⟩, ⟨by (with_reducible repeat (first | refine blk_drewN ?_ _ | refine blk_drew ?_ | refine blk_alloc ?_ _)); exact BK552.out⟩, ⟨by (with_reducible repeat (first | refine blk_drewN ?_ _ | refine blk_drew ?_ | refine blk_alloc ?_ _)); exact BK553.out⟩, ⟨by (with_reducible repeat (first | refine blk_drewN ?_ _ | refine blk_drew ?_ | refine blk_alloc ?_ _)); exact BK561.out⟩, ⟨by with_reducible repeat (first | exact HB.out | apply below_alloc | apply pw_below_drewN | apply below_drew1 | refine below_set ?_ GE552.out | refine below_set ?_ GE553.out | refine below_set ?_ GE561.out)⟩⟩
       case round =>
        clear H'
        try clear p2
        try clear c3
        try clear c4
        try clear c5
        try clear p5
        try clear q5
        try clear hx5
        try clear p6
        try clear c36
        try clear c36b0
        try clear c37
        try clear c37b0
        try clear c39
        try clear c40
        try clear c41
        try clear c49
        try clear c50
        try clear hcz42_0
        try clear hcz42_1
        try clear hcz42_2
        try clear hcz42_3
        try clear hcz42_4
        try clear hcz42_5
        try clear hcz42_6
        try clear hcz51_0
        try clear hcz51_1
        try clear hcz51_2
        try clear hcz51_3
        try clear hcz51_4
        try clear hcz51_5
        try clear hcz51_6
        try clear hfz42_0
        try clear hfz42_1
        try clear hfz42_2
        try clear hfz42_3
        try clear hfz42_4
        try clear hfz42_5
        try clear hfz42_6
        try clear hfz51_0
        try clear hfz51_1
        try clear hfz51_2
        try clear hfz51_3
        try clear hfz51_4
        try clear hfz51_5
        try clear hfz51_6
        try clear hx562_0
        try clear hx562_1
        try clear hx562_2
        try clear hx563_0
        try clear hx563_1
        try clear hx563_2
        try clear hx564_0
        try clear hx564_1
        try clear hx564_2
        try clear p2
        try clear p562
        try clear p563
        try clear p564
        try clear q562
        try clear q563
        try clear q564
        obtain ⟨x8_3, x554000_3, x554003_3, x554004_3, x554005_3, x554006_3, x562001_3, x562002_3, u562001, u562002, rfl, HA, HK3, HO_562001, HO_562002, BK552, BK553, BK561, HB⟩ := hrel
        cases gk with
        | zero => exact absurd HA.out (by simp [spec_PadCircuit.l1])
        | succ k3 =>
         have H := HA.out
         clear HA
         simp only [spec_PadCircuit.l1] at H
         by_cases c52 : x8_3 < (l1.length : Int)
         ·rw [if_pos c52] at H
          have c52b0 : decide (x8_3 < (l1.length : Int)) = true := decide_eq_true c52
          clear c52
          by_cases c53 : 0 ≤ x8_3
          case neg => rw [if_neg c53] at H; exact absurd H (by simp)
          rw [if_pos c53] at H
          have c53b0 : decide (0 ≤ x8_3) = true := decide_eq_true c53
          clear c53
          replace H := Option.bind_eq_some_iff.mp H
          obtain ⟨t573, A540, H⟩ := H
          try dsimp only at H
          have A54 := Aside0.mk A540
          clear A540
          by_cases c55 : t573 = true
          ·subst c55
           rw [if_pos rfl] at H
           by_cases c56 : (rd l1 x8_3) > 0
           ·rw [if_pos c56] at H
            have c56b0 : decide (0 < (rd l1 x8_3)) = true := decide_eq_true c56
            clear c56
            by_cases c57 : x8_3 < (l0_2.length : Int)
            case neg => rw [if_neg c57] at H; exact absurd H (by simp)
            rw [if_pos c57] at H
            have c57b0 : decide (x8_3 < (l0_2.length : Int)) = true := decide_eq_true c57
            clear c57
            obtain ⟨y578, hy578⟩ : ∃ y_ : List Int, y_ = (([rd l0_2 x8_3] : List Int)) := ⟨_, rfl⟩
            (try rw [Option.bind_some] at H); try rw [← hy578] at H
            have Ny578 := Aside0.mk hy578
            clear hy578
            by_cases c58 : x562001_3.length < 3518437208883
            case neg => rw [if_neg c58] at H; exact absurd H (by simp)
            rw [if_pos c58] at H
            have LMc58 := Aside0.mk c58
            clear c58
            obtain ⟨y581, hy581⟩ : ∃ y_ : List (S56), y_ = (x562001_3 ++ [(⟨rd l1 x8_3, rd l1 x8_3, y578⟩ : S56)]) := ⟨_, rfl⟩
            (try rw [Option.bind_some] at H); try rw [← hy581] at H
            have Ny581 := Aside0.mk hy581
            clear hy581
            by_cases c59 : x8_3 < (x562002_3.length : Int)
            case neg => rw [if_neg c59] at H; exact absurd H (by simp)
            rw [if_pos c59] at H
            have c59b0 : decide (x8_3 < (x562002_3.length : Int)) = true := decide_eq_true c59
            clear c59
            obtain ⟨y584, hy584⟩ : ∃ y_ : List Int, y_ = (x562002_3.set (x8_3 : Int).toNat (wrap64 ((wrap64 (a0_0 + (y581.length : Int))) - 1))) := ⟨_, rfl⟩
            (try rw [Option.bind_some] at H); try rw [← hy584] at H
            have Ny584 := Aside0.mk hy584
            clear hy584
            have H' := Aside0.mk H
            clear H
            have p572 : 0 ≤ (x8_3 : Int) := of_decide_eq_true (by with_reducible assumption)
            have q572 : x8_3 < (l1.length : Int) := of_decide_eq_true (by with_reducible assumption)
            obtain ⟨ad572, e572, hx572_0⟩ := Kd.at_int HR1.out x8_3 p572 q572
            cases e572
            replace hx572_0 := (HB.out.cell (World.block_lt_of_cell? w _ hx572_0)).trans hx572_0
            replace p572 := eq_true p572
            replace q572 := eq_true q572
            try go_wp2_with (first | ((with_reducible refine gate_callee (f := 56) rfl ?_); refine goesL_ (some 76) rfl rfl Try.func56 (by kernel_rfl) rfl #[.int .i64 (rd l1 x8_3), .int .i64 0, .int .i64 100] rfl (by (try simp only [List.map_toArray, List.map_cons, List.map_nil]); first | done | rfl | (simp only [List.length_drop, List.length_take]; rfl)) ?_; (with_reducible refine (spec_l00In.calls (rd l1 x8_3) 0 100 true _ A54.out).mono ?_); rintro e w' ⟨rfl, ⟨nd, rfl⟩⟩; refine ⟨_, rfl, ?_⟩; (try (rw [drewN_self wr]; generalize hq_ : World.drewN wr _ = wr; have n0_ : Aside0 (Kd.S k56 56 wr w.heap.size (fun k_ => some k_ ≠ (u562002 : Value).ownBlock) u562001 x562001_3) := ⟨by rw [← hq_]; exact (by (with_reducible repeat (first | apply Kd.S_alloc | apply Kd.S_drewN | apply Kd.S_drew)); exact HO_562001.out)⟩; have n1_ : Aside0 (Kd.R (Kd.int .i64) 2 wr w.heap.size (fun _ => True) u562002 x562002_3) := ⟨by rw [← hq_]; exact (by (with_reducible repeat (first | apply Kd.R_alloc | apply Kd.R_drewN | apply Kd.R_drew)); exact HO_562002.out)⟩; have n2_ : Aside0 (wr.heap[gb552]? = some (.cells #[.int .i64 a0_0, .slice A0_1 l0_1.length c0_1, .slice A0_2 l0_2.length c0_2, .int .i64 a0_3, .int .i64 a0_4, .int .i64 a0_5, .int .i64 a0_6] 45 (0, 0))) := ⟨by rw [← hq_]; exact (by (with_reducible repeat (first | refine blk_drewN ?_ _ | refine blk_drew ?_ | refine blk_alloc ?_ _)); exact BK552.out)⟩; have n3_ : Aside0 (wr.heap[gb553]? = some (.cells #[.int .i64 x554000_3, .slice none 0 0, .slice none 0 0, .int .i64 x554003_3, .int .i64 x554004_3, .int .i64 x554005_3, .int .i64 x554006_3] 45 (0, 0))) := ⟨by rw [← hq_]; exact (by (with_reducible repeat (first | refine blk_drewN ?_ _ | refine blk_drew ?_ | refine blk_alloc ?_ _)); exact BK553.out)⟩; have n4_ : Aside0 (wr.heap[gb561]? = some (.cells #[.int .i64 a0_0, u562001, u562002, .int .i64 a0_3, .int .i64 a0_4, .int .i64 a0_5, .int .i64 a0_6] 45 (0, 0))) := ⟨by rw [← hq_]; exact (by (with_reducible repeat (first | refine blk_drewN ?_ _ | refine blk_drew ?_ | refine blk_alloc ?_ _)); exact BK561.out)⟩; have n5_ : Aside0 (Below w.heap.size w wr) := ⟨by rw [← hq_]; exact (by with_reducible repeat (first | exact HB.out | apply below_alloc | apply pw_below_drewN | apply below_drew1 | refine below_set ?_ GE552.out | refine below_set ?_ GE553.out | refine below_set ?_ GE561.out))⟩; clear HO_562001 HO_562002 BK552 BK553 BK561 HB hq_; have HO_562001 := n0_; have HO_562002 := n1_; have BK552 := n2_; have BK553 := n3_; have BK561 := n4_; have HB := n5_; clear n0_ n1_ n2_ n3_ n4_ n5_)); have p574 : 0 ≤ (x8_3 : Int) := of_decide_eq_true (by with_reducible assumption); have q574 : x8_3 < (l1.length : Int) := of_decide_eq_true (by with_reducible assumption); obtain ⟨ad574, e574, hx574_0⟩ := Kd.at_int HR1.out x8_3 p574 q574; obtain rfl : ad572 = ad574 := (by injection e574); replace hx574_0 := (HB.out.cell (World.block_lt_of_cell? w _ hx574_0)).trans hx574_0; replace p574 := eq_true p574; replace q574 := eq_true q574))
            have n0_ := Aside0.mk (Kd.S_drew HO_562001.out)
            have n1_ := Aside0.mk (Kd.R_drew HO_562002.out)
            have n2_ := Aside0.mk (blk_drew BK552.out)
            have n3_ := Aside0.mk (blk_drew BK553.out)
            have n4_ := Aside0.mk (blk_drew BK561.out)
            have n5_ := Aside0.mk (below_drew1 HB.out)
            clear HO_562001
            clear HO_562002
            clear BK552
            clear BK553
            clear BK561
            clear HB
            have HO_562001 := n0_
            have HO_562002 := n1_
            have BK552 := n2_
            have BK553 := n3_
            have BK561 := n4_
            have HB := n5_
            clear n0_ n1_ n2_ n3_ n4_ n5_
            have p575 : 0 ≤ (x8_3 : Int) := of_decide_eq_true (by with_reducible assumption)
            have q575 : x8_3 < (l1.length : Int) := of_decide_eq_true (by with_reducible assumption)
            obtain ⟨ad575, e575, hx575_0⟩ := Kd.at_int HR1.out x8_3 p575 q575
            have hw575_0 := hx575_0
            obtain rfl : ad572 = ad575 := (by injection e575)
            replace hx575_0 := (HB.out.cell (World.block_lt_of_cell? w _ hx575_0)).trans hx575_0
            replace p575 := eq_true p575
            replace q575 := eq_true q575
            have p576 : 0 ≤ (x8_3 : Int) := of_decide_eq_true (by with_reducible assumption)
            have q576 : x8_3 < (l1.length : Int) := of_decide_eq_true (by with_reducible assumption)
            obtain ⟨ad576, e576, hx576_0⟩ := Kd.at_int HR1.out x8_3 p576 q576
            have hw576_0 := hx576_0
            obtain rfl : ad572 = ad576 := (by injection e576)
            replace hx576_0 := (HB.out.cell (World.block_lt_of_cell? w _ hx576_0)).trans hx576_0
            replace p576 := eq_true p576
            replace q576 := eq_true q576
            have p577 : 0 ≤ (x8_3 : Int) := of_decide_eq_true (by with_reducible assumption)
            have q577 : x8_3 < (l0_2.length : Int) := of_decide_eq_true (by with_reducible assumption)
            obtain ⟨ad577, e577, hx577_0⟩ := Kd.at_int HR0_2.out x8_3 p577 q577
            have hw577_0 := hx577_0
            cases e577
            replace hx577_0 := (HB.out.cell (World.block_lt_of_cell? w _ hx577_0)).trans hx577_0
            replace p577 := eq_true p577
            replace q577 := eq_true q577
            refine start_ (n := 21) (S := fun w' => w'.cell? ⟨gb561, 0, none⟩ = some (.int .i64 a0_0) ∧ w'.cell? ⟨gb561, 1, none⟩ = some (u562001) ∧ w'.cell? ⟨gb561, 2, none⟩ = some (u562002) ∧ w'.cell? ⟨gb561, 3, none⟩ = some (.int .i64 a0_3) ∧ w'.cell? ⟨gb561, 4, none⟩ = some (.int .i64 a0_4) ∧ w'.cell? ⟨gb561, 5, none⟩ = some (.int .i64 a0_5) ∧ w'.cell? ⟨gb561, 6, none⟩ = some (.int .i64 a0_6) ∧ w'.cell? ⟨gb552, 0, none⟩ = some (.int .i64 a0_0) ∧ w'.cell? ⟨gb552, 1, none⟩ = some (.slice A0_1 l0_1.length c0_1) ∧ w'.cell? ⟨gb552, 2, none⟩ = some (.slice (some ad577) l0_2.length c0_2) ∧ w'.cell? ⟨gb552, 3, none⟩ = some (.int .i64 a0_3) ∧ w'.cell? ⟨gb552, 4, none⟩ = some (.int .i64 a0_4) ∧ w'.cell? ⟨gb552, 5, none⟩ = some (.int .i64 a0_5) ∧ w'.cell? ⟨gb552, 6, none⟩ = some (.int .i64 a0_6) ∧ w'.cell? (ad572.add (x8_3).toNat) = some (.int .i64 (rd l1 x8_3)) ∧ w'.cell? (ad572.add (x8_3).toNat) = some (.int .i64 (rd l1 x8_3)) ∧ w'.cell? (ad577.add (x8_3).toNat) = some (.int .i64 (rd l0_2 x8_3))) (ds := [20]) #[false, false, false, false, false, false, false, false, false, false, false, false, false, false, false, false, false, false, false, false, false] (by kernel_rfl) rfl rfl ⟨(blk_cell BK561.out 0).trans rfl, (blk_cell BK561.out 1).trans rfl, (blk_cell BK561.out 2).trans rfl, (blk_cell BK561.out 3).trans rfl, (blk_cell BK561.out 4).trans rfl, (blk_cell BK561.out 5).trans rfl, (blk_cell BK561.out 6).trans rfl, (blk_cell BK552.out 0).trans rfl, (blk_cell BK552.out 1).trans rfl, (blk_cell BK552.out 2).trans rfl, (blk_cell BK552.out 3).trans rfl, (blk_cell BK552.out 4).trans rfl, (blk_cell BK552.out 5).trans rfl, (blk_cell BK552.out 6).trans rfl, ((HB.out.cell (World.block_lt_of_cell? w _ hw575_0)).trans hw575_0), ((HB.out.cell (World.block_lt_of_cell? w _ hw576_0)).trans hw576_0), ((HB.out.cell (World.block_lt_of_cell? w _ hw577_0)).trans hw577_0)⟩ (fun hHeld => ?_); refine with_tabW spec_PadCircuit.tab14 spec_PadCircuit.bits14 (fun HT_ HW_ => ?_)
            generalize wr.drew = w61 at HO_562001 HO_562002 BK552 BK553 BK561 HB hx575_0 hx576_0 hx577_0 hHeld ⊢
            refine pure_ (i := 0) (N := some 84) (v := ?_) (a' := ?_) #[true, false, false, false, false, false, false, false, false, false, false, false, false, false, false, false, false, false, false, false, false] rfl rfl (any_of HT_.out (by kernel_rfl)) (fun _ _ _ h => h) (Or.inl ⟨by rfl, ?_⟩) ?_ ?_
            rotate_left
            ·intro w'
             go_simp
             with_reducible rfl
            rotate_left
            ·simp only [Act.put, List.setIfInBounds_toArray, List.set_cons_zero, List.set_cons_succ, i64_w, i32_w]
             rfl
            refine pure_ (i := 2) (N := some 86) (v := ?_) (a' := ?_) #[true, false, true, false, false, false, false, false, false, false, false, false, false, false, false, false, false, false, false, false, false] rfl rfl (any_of HT_.out (by kernel_rfl)) (fun _ _ _ h => h) (Or.inl ⟨by rfl, ?_⟩) ?_ ?_
            rotate_left
            ·intro w'
             go_simp
             with_reducible rfl
            rotate_left
            ·simp only [Act.put, List.setIfInBounds_toArray, List.set_cons_zero, List.set_cons_succ, i64_w, i32_w]
             rfl
            refine pure_ (i := 3) (N := some 87) (v := ?_) (a' := ?_) #[true, false, true, true, false, false, false, false, false, false, false, false, false, false, false, false, false, false, false, false, false] rfl rfl (any_of HT_.out (by kernel_rfl)) (fun _ _ _ h => h) (Or.inl ⟨by rfl, ?_⟩) ?_ ?_
            rotate_left
            ·intro w'
             go_simp
             with_reducible rfl
            rotate_left
            ·simp only [Act.put, List.setIfInBounds_toArray, List.set_cons_zero, List.set_cons_succ, i64_w, i32_w]
             rfl
            refine pure_ (i := 4) (N := some 88) (v := ?_) (a' := ?_) #[true, false, true, true, true, false, false, false, false, false, false, false, false, false, false, false, false, false, false, false, false] rfl rfl (any_of HT_.out (by kernel_rfl)) (fun _ _ _ h => h) (Or.inl ⟨by rfl, ?_⟩) ?_ ?_
            rotate_left
            ·intro w'
             go_simp
             with_reducible rfl
            rotate_left
            ·simp only [Act.put, List.setIfInBounds_toArray, List.set_cons_zero, List.set_cons_succ, i64_w, i32_w]
             rfl
            refine pure_ (i := 6) (N := some 90) (v := ?_) (a' := ?_) #[true, false, true, true, true, false, true, false, false, false, false, false, false, false, false, false, false, false, false, false, false] rfl rfl (any_of HT_.out (by kernel_rfl)) (fun _ _ _ h => h) (Or.inl ⟨by rfl, ?_⟩) ?_ ?_
            rotate_left
            ·intro w'
             go_simp
             with_reducible rfl
            rotate_left
            ·simp only [Act.put, List.setIfInBounds_toArray, List.set_cons_zero, List.set_cons_succ, i64_w, i32_w]
             rfl
            refine pure_ (i := 7) (N := some 91) (v := ?_) (a' := ?_) #[true, false, true, true, true, false, true, true, false, false, false, false, false, false, false, false, false, false, false, false, false] rfl rfl (any_of HT_.out (by kernel_rfl)) (fun _ _ _ h => h) (Or.inl ⟨by rfl, ?_⟩) ?_ ?_
            rotate_left
            ·intro w'
             go_simp
             with_reducible rfl
            rotate_left
            ·simp only [Act.put, List.setIfInBounds_toArray, List.set_cons_zero, List.set_cons_succ, i64_w, i32_w]
             rfl
            refine pure_ (i := 8) (N := some 92) (v := ?_) (a' := ?_) #[true, false, true, true, true, false, true, true, true, false, false, false, false, false, false, false, false, false, false, false, false] rfl rfl (any_of HT_.out (by kernel_rfl)) (fun _ _ _ h => h) (Or.inl ⟨by rfl, ?_⟩) ?_ ?_
            rotate_left
            ·intro w'
             go_simp
             with_reducible rfl
            rotate_left
            ·simp only [Act.put, List.setIfInBounds_toArray, List.set_cons_zero, List.set_cons_succ, i64_w, i32_w]
             rfl
            refine pure_ (i := 10) (N := some 94) (v := ?_) (a' := ?_) #[true, false, true, true, true, false, true, true, true, false, true, false, false, false, false, false, false, false, false, false, false] rfl rfl (any_of HT_.out (by kernel_rfl)) (fun _ _ _ h => h) (Or.inl ⟨by rfl, ?_⟩) ?_ ?_
            rotate_left
            ·intro w'
             go_simp
             with_reducible rfl
            rotate_left
            ·simp only [Act.put, List.setIfInBounds_toArray, List.set_cons_zero, List.set_cons_succ, i64_w, i32_w]
             rfl
            refine pure_ (i := 12) (N := some 96) (v := ?_) (a' := ?_) #[true, false, true, true, true, false, true, true, true, false, true, false, true, false, false, false, false, false, false, false, false] rfl rfl (any_of HT_.out (by kernel_rfl)) (fun _ _ _ h => h) (Or.inl ⟨by rfl, ?_⟩) ?_ ?_
            rotate_left
            ·intro w'
             go_simp
             with_reducible rfl
            rotate_left
            ·simp only [Act.put, List.setIfInBounds_toArray, List.set_cons_zero, List.set_cons_succ, i64_w, i32_w]
             rfl
            refine take_ (i := 1) (N := some 85) (v := ?_) (a' := ?_) #[true, true, true, true, true, false, true, true, true, false, true, false, true, false, false, false, false, false, false, false, false] rfl rfl (take_ofW HT_.out HW_.out (by kernel_rfl)) (fun _ _ _ h => h) (Or.inl ⟨by rfl, ?_⟩) hHeld ?_ ?_
            rotate_left
            ·rintro w' ⟨s0, s1, s2, s3, s4, s5, s6, s7, s8, s9, s10, s11, s12, s13, s14, s15, s16⟩
             go_simp
             with_reducible rfl
            rotate_left
            ·simp only [Act.put, List.setIfInBounds_toArray, List.set_cons_zero, List.set_cons_succ, i64_w, i32_w]
             rfl
            refine take_ (i := 5) (N := some 89) (v := ?_) (a' := ?_) #[true, true, true, true, true, true, true, true, true, false, true, false, true, false, false, false, false, false, false, false, false] rfl rfl (take_ofW HT_.out HW_.out (by kernel_rfl)) (fun _ _ _ h => h) (Or.inl ⟨by rfl, ?_⟩) hHeld ?_ ?_
            rotate_left
            ·rintro w' ⟨s0, s1, s2, s3, s4, s5, s6, s7, s8, s9, s10, s11, s12, s13, s14, s15, s16⟩
             go_simp
             with_reducible rfl
            rotate_left
            ·simp only [Act.put, List.setIfInBounds_toArray, List.set_cons_zero, List.set_cons_succ, i64_w, i32_w]
             rfl
            refine take_ (i := 9) (N := some 93) (v := ?_) (a' := ?_) #[true, true, true, true, true, true, true, true, true, true, true, false, true, false, false, false, false, false, false, false, false] rfl rfl (take_ofW HT_.out HW_.out (by kernel_rfl)) (fun _ _ _ h => h) (Or.inl ⟨by rfl, ?_⟩) hHeld ?_ ?_
            rotate_left
            ·rintro w' ⟨s0, s1, s2, s3, s4, s5, s6, s7, s8, s9, s10, s11, s12, s13, s14, s15, s16⟩
             go_simp
             with_reducible rfl
            rotate_left
            ·simp only [Act.put, List.setIfInBounds_toArray, List.set_cons_zero, List.set_cons_succ, i64_w, i32_w]
             rfl
            refine take_ (i := 11) (N := some 95) (v := ?_) (a' := ?_) #[true, true, true, true, true, true, true, true, true, true, true, true, true, false, false, false, false, false, false, false, false] rfl rfl (take_ofW HT_.out HW_.out (by kernel_rfl)) (fun _ _ _ h => h) (Or.inl ⟨by rfl, ?_⟩) hHeld ?_ ?_
            rotate_left
            ·rintro w' ⟨s0, s1, s2, s3, s4, s5, s6, s7, s8, s9, s10, s11, s12, s13, s14, s15, s16⟩
             go_simp
             with_reducible rfl
            rotate_left
            ·simp only [Act.put, List.setIfInBounds_toArray, List.set_cons_zero, List.set_cons_succ, i64_w, i32_w]
             rfl
            refine pure_ (i := 13) (N := some 97) (v := ?_) (a' := ?_) #[true, true, true, true, true, true, true, true, true, true, true, true, true, true, false, false, false, false, false, false, false] rfl rfl (any_of HT_.out (by kernel_rfl)) (fun _ _ _ h => h) (Or.inl ⟨by rfl, ?_⟩) ?_ ?_
            rotate_left
            ·intro w'
             go_simp
             with_reducible rfl
            rotate_left
            ·simp only [Act.put, List.setIfInBounds_toArray, List.set_cons_zero, List.set_cons_succ, i64_w, i32_w]
             rfl
            refine take_ (i := 14) (N := some 98) (v := ?_) (a' := ?_) #[true, true, true, true, true, true, true, true, true, true, true, true, true, true, true, false, false, false, false, false, false] rfl rfl (take_ofW HT_.out HW_.out (by kernel_rfl)) (fun _ _ _ h => h) (Or.inl ⟨by rfl, ?_⟩) hHeld ?_ ?_
            rotate_left
            ·rintro w' ⟨s0, s1, s2, s3, s4, s5, s6, s7, s8, s9, s10, s11, s12, s13, s14, s15, s16⟩
             go_simp
             with_reducible rfl
            rotate_left
            ·simp only [Act.put, List.setIfInBounds_toArray, List.set_cons_zero, List.set_cons_succ, i64_w, i32_w]
             rfl
            refine one_ (i := 15) (N := some 99) #[true, true, true, true, true, true, true, true, true, true, true, true, true, true, true, true, false, false, false, false, false] rfl rfl (one_of HT_.out (by kernel_rfl)) (by decide) (fun K hK => ?_)
            refine Kd.R_lit_step (Kd.int .i64) _ 2 ?hg (N := 99) ?hd (xs := ([rd l0_2 x8_3] : List Int)) (inner := [.int .i64 (rd l0_2 x8_3)]) (ok := fun _ => True) (okp := fun _ => True) ?hr ?hp (fun _ hk => hk) trivial (Below.refl _ _) (Nat.le_refl _) (by simp) ?_; (case hd => rfl); (case hg => rfl); (case hr => first | (go_simp; done) | (go_simp; rfl)); (case hp => exact (Reps.one (show Kd.M (Kd.int .i64) _ _ _ (rd l0_2 x8_3) [.int .i64 (rd l0_2 x8_3)] from rfl) (Reps.none _ _)))
            intro v579 w62 ho63 hb hg_ hnew_
            clear hg_ hnew_
            (first | rw [← Ny578.out] at ho63 | (simp only [Int.reduceToNat] at ho63; rw [← Ny578.out] at ho63))
            have n0_ := Aside0.mk (Kd.S_elder' (by (with_reducible repeat (first | apply Kd.S_alloc | apply Kd.S_drewN | apply Kd.S_drew)); exact HO_562001.out) (Kd.R_base ho63) hb)
            have n1_ := Aside0.mk (Kd.R_elder' (by (with_reducible repeat (first | apply Kd.R_alloc | apply Kd.R_drewN | apply Kd.R_drew)); exact HO_562002.out) (Kd.R_base ho63) hb)
            have n2_ := Aside0.mk (Kd.R_lower (Kd.R_new' ho63 (Kd.R_lt (by (with_reducible repeat (first | apply Kd.R_alloc | apply Kd.R_drewN | apply Kd.R_drew)); exact HO_562002.out))) (below_size (by with_reducible repeat (first | exact HB.out | apply below_alloc | apply pw_below_drewN | apply below_drew1 | refine below_set ?_ GE552.out | refine below_set ?_ GE553.out | refine below_set ?_ GE561.out))))
            have n3_ := Aside0.mk (blk_below (g := gb552) (by (with_reducible repeat (first | refine blk_drewN ?_ _ | refine blk_drew ?_ | refine blk_alloc ?_ _)); exact BK552.out) hb)
            have n4_ := Aside0.mk (blk_below (g := gb553) (by (with_reducible repeat (first | refine blk_drewN ?_ _ | refine blk_drew ?_ | refine blk_alloc ?_ _)); exact BK553.out) hb)
            have n5_ := Aside0.mk (blk_below (g := gb561) (by (with_reducible repeat (first | refine blk_drewN ?_ _ | refine blk_drew ?_ | refine blk_alloc ?_ _)); exact BK561.out) hb)
            have n6_ := Aside0.mk (below_step (by with_reducible repeat (first | exact HB.out | apply below_alloc | apply pw_below_drewN | apply below_drew1 | refine below_set ?_ GE552.out | refine below_set ?_ GE553.out | refine below_set ?_ GE561.out)) hb)
            clear HO_562001
            clear HO_562002
            clear BK552
            clear BK553
            clear BK561
            clear HB
            have HO_562001 := n0_
            have HO_562002 := n1_
            have HO580 := n2_
            have BK552 := n3_
            have BK553 := n4_
            have BK561 := n5_
            have HB := n6_
            clear n0_ n1_ n2_ n3_ n4_ n5_ n6_
            clear hb ho63
            obtain ⟨Ao64, co64, eo64⟩ := Kd.R_slice HO580.out
            (first | subst eo64 | (injection eo64 with f1_ f2_ f3_; have f4_ := f1_.symm; have f5_ := f3_.symm; clear f1_ f2_ f3_; subst f4_; subst f5_))
            refine hK.out _ _ ⟨(blk_cell BK561.out 0).trans rfl, (blk_cell BK561.out 1).trans rfl, (blk_cell BK561.out 2).trans rfl, (blk_cell BK561.out 3).trans rfl, (blk_cell BK561.out 4).trans rfl, (blk_cell BK561.out 5).trans rfl, (blk_cell BK561.out 6).trans rfl, (blk_cell BK552.out 0).trans rfl, (blk_cell BK552.out 1).trans rfl, (blk_cell BK552.out 2).trans rfl, (blk_cell BK552.out 3).trans rfl, (blk_cell BK552.out 4).trans rfl, (blk_cell BK552.out 5).trans rfl, (blk_cell BK552.out 6).trans rfl, ((HB.out.cell (World.block_lt_of_cell? w _ hw575_0)).trans hw575_0), ((HB.out.cell (World.block_lt_of_cell? w _ hw576_0)).trans hw576_0), ((HB.out.cell (World.block_lt_of_cell? w _ hw577_0)).trans hw577_0)⟩ (fun hHeld => ?_)
            clear hK K
            refine norm_ (a' := ?_) ?_ ?_
            rotate_left
            ·show Act.put _ (some 99) _ = _
             simp only [Act.put, List.setIfInBounds_toArray, List.set_cons_zero, List.set_cons_succ, i64_w, i32_w]
             rfl
            refine pure_ (i := 16) (N := some 100) (v := ?_) (a' := ?_) #[true, true, true, true, true, true, true, true, true, true, true, true, true, true, true, true, true, false, false, false, false] rfl rfl (any_of HT_.out (by kernel_rfl)) (fun _ _ _ h => h) (Or.inl ⟨by rfl, ?_⟩) ?_ ?_
            rotate_left
            ·intro w'
             go_simp
             with_reducible rfl
            rotate_left
            ·simp only [Act.put, List.setIfInBounds_toArray, List.set_cons_zero, List.set_cons_succ, i64_w, i32_w]
             rfl
            refine one_ (i := 17) (N := some 101) #[true, true, true, true, true, true, true, true, true, true, true, true, true, true, true, true, true, true, false, false, false] rfl rfl (one_of HT_.out (by kernel_rfl)) (by decide) (fun K hK => ?_)
            refine value_ (w1 := ?_) (v := ?_) (by rfl) rfl ?_ ?_
            rotate_left 2
            ·go_simp
             constructor
             ·rfl
             ·rfl
            refine hK.out _ _ ⟨(blk_cell (blk_alloc BK561.out _) 0).trans rfl, (blk_cell (blk_alloc BK561.out _) 1).trans rfl, (blk_cell (blk_alloc BK561.out _) 2).trans rfl, (blk_cell (blk_alloc BK561.out _) 3).trans rfl, (blk_cell (blk_alloc BK561.out _) 4).trans rfl, (blk_cell (blk_alloc BK561.out _) 5).trans rfl, (blk_cell (blk_alloc BK561.out _) 6).trans rfl, (blk_cell (blk_alloc BK552.out _) 0).trans rfl, (blk_cell (blk_alloc BK552.out _) 1).trans rfl, (blk_cell (blk_alloc BK552.out _) 2).trans rfl, (blk_cell (blk_alloc BK552.out _) 3).trans rfl, (blk_cell (blk_alloc BK552.out _) 4).trans rfl, (blk_cell (blk_alloc BK552.out _) 5).trans rfl, (blk_cell (blk_alloc BK552.out _) 6).trans rfl, (World.cell?_alloc_lt _ _ _ (World.block_lt_of_cell? _ _ (((HB.out.cell (World.block_lt_of_cell? w _ hw575_0)).trans hw575_0)))).trans (((HB.out.cell (World.block_lt_of_cell? w _ hw575_0)).trans hw575_0)), (World.cell?_alloc_lt _ _ _ (World.block_lt_of_cell? _ _ (((HB.out.cell (World.block_lt_of_cell? w _ hw576_0)).trans hw576_0)))).trans (((HB.out.cell (World.block_lt_of_cell? w _ hw576_0)).trans hw576_0)), (World.cell?_alloc_lt _ _ _ (World.block_lt_of_cell? _ _ (((HB.out.cell (World.block_lt_of_cell? w _ hw577_0)).trans hw577_0)))).trans (((HB.out.cell (World.block_lt_of_cell? w _ hw577_0)).trans hw577_0))⟩ (fun hHeld => ?_)
            clear hK K
            refine norm_ (a' := ?_) ?_ ?_
            rotate_left
            ·show Act.put _ (some 101) _ = _
             simp only [Act.put, List.setIfInBounds_toArray, List.set_cons_zero, List.set_cons_succ, i64_w, i32_w]
             rfl
            refine one_ (i := 18) (N := some 102) #[true, true, true, true, true, true, true, true, true, true, true, true, true, true, true, true, true, true, true, false, false] rfl rfl (one_of HT_.out (by kernel_rfl)) (by decide) (fun K hK => ?_)
            refine Kd.S_append_step k56 (w0 := w) w.heap.size (by rfl) (.tmp 85) (.tmp 101) 43 56 (.agg #[(.int .i64 0), (.int .i64 0), (.slice none 0 0)]) 40 rfl Try.underlying43 info56 rfl (by decide) (by omega) u562001 x562001_3 (⟨rd l1 x8_3, rd l1 x8_3, y578⟩ : S56) [.int .i64 (rd l1 x8_3), .int .i64 (rd l1 x8_3), .slice Ao64 y578.length co64] (fun k_ => some k_ ≠ (u562002 : Value).ownBlock) (fun k_ => some k_ = (.slice Ao64 y578.length co64 : Value).ownBlock) rfl rfl ?aP (fun k_ hk_ => ((Kd.R_mono (ok' := fun k_ => ((fun k_ => some k_ ≠ (u562002 : Value).ownBlock)) k_ ∧ some k_ ≠ (u562001 : Value).ownBlock) (Kd.R_apart' (HO580.out) (Kd.S_typed HO_562001.out) (by decide)) (fun k_ hk => ⟨hk.1.2, hk.2⟩))).1 k_ hk_.symm) ?aF ?aO ?aB ?aS ?aL ?_
            (case aP => exact k56_mkM _ _ _ (⟨rd l1 x8_3, rd l1 x8_3, y578⟩ : S56) (Kd.R_mono (Kd.R_tight rfl (Kd.R_mono (ok' := fun k_ => ((fun k_ => some k_ ≠ (u562002 : Value).ownBlock)) k_ ∧ some k_ ≠ (u562001 : Value).ownBlock) (Kd.R_apart' (HO580.out) (Kd.S_typed HO_562001.out) (by decide)) (fun k_ hk => ⟨hk.1.2, hk.2⟩))) (fun _ h_ => h_)))
            (case aB => exact (by with_reducible repeat (first | exact HB.out | apply below_alloc | apply pw_below_drewN | apply below_drew1 | refine below_set ?_ GE552.out | refine below_set ?_ GE553.out | refine below_set ?_ GE561.out)))
            (case aF => exact (fun k_ hk => Kd.fresh' (Kd.R_lt (by (with_reducible repeat (first | apply Kd.R_alloc | apply Kd.R_drewN | apply Kd.R_drew)); exact HO_562002.out)) k_ hk))
            (case aO => exact (by (with_reducible repeat (first | apply Kd.S_alloc | apply Kd.S_drewN | apply Kd.S_drew)); exact Kd.S_mono HO_562001.out (fun k_ hk => ⟨hk.1, fun e_ => hk.2 e_⟩)))
            (case aS => exact (below_size (by with_reducible repeat (first | exact HB.out | apply below_alloc | apply pw_below_drewN | apply below_drew1 | refine below_set ?_ GE552.out | refine below_set ?_ GE553.out | refine below_set ?_ GE561.out))))
            (case aL => have := LMc58.out; omega)
            intro v582 w65 ho hb hg hat
            rw [← Ny581.out] at ho
            have n0_ := Aside0.mk (Kd.R_over' (by (with_reducible repeat (first | apply Kd.R_alloc | apply Kd.R_drewN | apply Kd.R_drew)); exact HO_562002.out) (Kd.S_typed (by (with_reducible repeat (first | apply Kd.S_alloc | apply Kd.S_drewN | apply Kd.S_drew)); exact HO_562001.out)) (by decide) hg)
            have n1_ := Aside0.mk (blk_grown (g := gb552) (by (with_reducible repeat (first | refine blk_drewN ?_ _ | refine blk_drew ?_ | refine blk_alloc ?_ _)); exact BK552.out) hg (Kd.S_ne HO_562001.out BK552.out (by decide)))
            have n2_ := Aside0.mk (blk_grown (g := gb553) (by (with_reducible repeat (first | refine blk_drewN ?_ _ | refine blk_drew ?_ | refine blk_alloc ?_ _)); exact BK553.out) hg (Kd.S_ne HO_562001.out BK553.out (by decide)))
            have n3_ := Aside0.mk (blk_grown (g := gb561) (by (with_reducible repeat (first | refine blk_drewN ?_ _ | refine blk_drew ?_ | refine blk_alloc ?_ _)); exact BK561.out) hg (Kd.S_ne HO_562001.out BK561.out (by decide)))
            have n4_ := Aside0.mk (hb)
            have n5_ := Aside0.mk (ho)
            clear HO_562002
            clear BK552
            clear BK553
            clear BK561
            clear HB
            clear HO_562001
            clear HO580
            have HO_562002 := n0_
            have BK552 := n1_
            have BK553 := n2_
            have BK561 := n3_
            have HB := n4_
            have HO583 := n5_
            clear n0_ n1_ n2_ n3_ n4_ n5_
            clear ho hb hg hat
            obtain ⟨Ao66, co66, eo66⟩ := Kd.S_slice HO583.out
            (first | subst eo66 | (injection eo66 with f1_ f2_ f3_; have f4_ := f1_.symm; have f5_ := f3_.symm; clear f1_ f2_ f3_; subst f4_; subst f5_))
            refine hK.out _ _ ⟨(blk_cell BK561.out 0).trans rfl, (blk_cell BK561.out 1).trans rfl, (blk_cell BK561.out 2).trans rfl, (blk_cell BK561.out 3).trans rfl, (blk_cell BK561.out 4).trans rfl, (blk_cell BK561.out 5).trans rfl, (blk_cell BK561.out 6).trans rfl, (blk_cell BK552.out 0).trans rfl, (blk_cell BK552.out 1).trans rfl, (blk_cell BK552.out 2).trans rfl, (blk_cell BK552.out 3).trans rfl, (blk_cell BK552.out 4).trans rfl, (blk_cell BK552.out 5).trans rfl, (blk_cell BK552.out 6).trans rfl, ((HB.out.cell (World.block_lt_of_cell? w _ hw575_0)).trans hw575_0), ((HB.out.cell (World.block_lt_of_cell? w _ hw576_0)).trans hw576_0), ((HB.out.cell (World.block_lt_of_cell? w _ hw577_0)).trans hw577_0)⟩ (fun hHeld => ?_)
            clear hK K
            refine norm_ (a' := ?_) ?_ ?_
            rotate_left
            ·show Act.put _ (some 102) _ = _
             simp only [Act.put, List.setIfInBounds_toArray, List.set_cons_zero, List.set_cons_succ, i64_w, i32_w]
             rfl
            refine pure_ (i := 19) (N := some 103) (v := ?_) (a' := ?_) #[true, true, true, true, true, true, true, true, true, true, true, true, true, true, true, true, true, true, true, true, false] rfl rfl (any_of HT_.out (by kernel_rfl)) (fun _ _ _ h => h) (Or.inl ⟨by rfl, ?_⟩) ?_ ?_
            rotate_left
            ·intro w'
             go_simp
             with_reducible rfl
            rotate_left
            ·simp only [Act.put, List.setIfInBounds_toArray, List.set_cons_zero, List.set_cons_succ, i64_w, i32_w]
             rfl
            refine last_ (i := 20) (N := none) #[true, true, true, true, true, true, true, true, true, true, true, true, true, true, true, true, true, true, true, true, true] rfl rfl (one_of HT_.out (by kernel_rfl)) (by decide) (fun K hK => ?_)
            have hs67 : w65.cell? ⟨gb561, 1, none⟩ = some (u562001) := (blk_cell BK561.out 1).trans rfl
            have hfs67 := blk_frozen BK561.out 1
            have hns67_0 := NB552_561.out
            have hns67_1 := NB553_561.out
            have hms67_0 := NB561_552.out
            have hms67_1 := NB561_553.out
            refine skip_ (w1 := ?_) (by rfl) rfl ?_ ?_
            rotate_left
            ·go_simp
             rfl
            refine hK.out _ _ ?_
            clear hK K
            refine done_ (done_of HT_.out (by kernel_rfl)) ?_
            have n0_ : Aside0 (Kd.R (Kd.int .i64) 2 (w65.setCell ⟨gb561, 1, none⟩ (.slice Ao66 y581.length co66)) w.heap.size (fun _ => True) u562002 x562002_3) := ⟨by (with_reducible repeat (first | apply Kd.R_alloc | apply Kd.R_drewN | apply Kd.R_drew)); exact Kd.R_mono (Kd.R_far (p := ⟨gb561, 1, none⟩) (Kd.R_types HO_562002.out BK561.out (by decide)) (fun _ hk => hk.2) (.slice Ao66 y581.length co66)) (fun _ hk => trivial)⟩
            have n1_ : Aside0 (Kd.S k56 56 (w65.setCell ⟨gb561, 1, none⟩ (.slice Ao66 y581.length co66)) w.heap.size (fun k_ => some k_ ≠ (u562002 : Value).ownBlock) (.slice Ao66 y581.length co66) y581) := ⟨by (with_reducible repeat (first | apply Kd.S_alloc | apply Kd.S_drewN | apply Kd.S_drew)); exact Kd.S_mono (Kd.S_far (p := ⟨gb561, 1, none⟩) (Kd.S_types HO583.out BK561.out (by decide)) (fun _ hk => hk.2) (.slice Ao66 y581.length co66)) (fun _ hk => hk.1)⟩
            have n2_ : Aside0 ((w65.setCell ⟨gb561, 1, none⟩ (.slice Ao66 y581.length co66)).heap[gb552]? = some (.cells #[.int .i64 a0_0, .slice A0_1 l0_1.length c0_1, .slice (some ad577) l0_2.length c0_2, .int .i64 a0_3, .int .i64 a0_4, .int .i64 a0_5, .int .i64 a0_6] 45 (0, 0))) := ⟨by (with_reducible repeat (first | refine blk_drewN ?_ _ | refine blk_drew ?_ | refine blk_alloc ?_ _)); refine blk_far ?_ NB552_561.out _; (with_reducible repeat (first | refine blk_drewN ?_ _ | refine blk_drew ?_ | refine blk_alloc ?_ _)); exact BK552.out⟩
            have n3_ : Aside0 ((w65.setCell ⟨gb561, 1, none⟩ (.slice Ao66 y581.length co66)).heap[gb553]? = some (.cells #[.int .i64 x554000_3, .slice none 0 0, .slice none 0 0, .int .i64 x554003_3, .int .i64 x554004_3, .int .i64 x554005_3, .int .i64 x554006_3] 45 (0, 0))) := ⟨by (with_reducible repeat (first | refine blk_drewN ?_ _ | refine blk_drew ?_ | refine blk_alloc ?_ _)); refine blk_far ?_ NB553_561.out _; (with_reducible repeat (first | refine blk_drewN ?_ _ | refine blk_drew ?_ | refine blk_alloc ?_ _)); exact BK553.out⟩
            have n4_ : Aside0 ((w65.setCell ⟨gb561, 1, none⟩ (.slice Ao66 y581.length co66)).heap[gb561]? = some (.cells #[.int .i64 a0_0, .slice Ao66 y581.length co66, u562002, .int .i64 a0_3, .int .i64 a0_4, .int .i64 a0_5, .int .i64 a0_6] 45 (0, 0))) := ⟨by (with_reducible repeat (first | refine blk_drewN ?_ _ | refine blk_drew ?_ | refine blk_alloc ?_ _)); refine blk_put (cs := #[.int .i64 a0_0, u562001, u562002, .int .i64 a0_3, .int .i64 a0_4, .int .i64 a0_5, .int .i64 a0_6]) ?_ 1 _ rfl; (with_reducible repeat (first | refine blk_drewN ?_ _ | refine blk_drew ?_ | refine blk_alloc ?_ _)); exact BK561.out⟩
            have n5_ : Aside0 (Below w.heap.size w (w65.setCell ⟨gb561, 1, none⟩ (.slice Ao66 y581.length co66))) := ⟨by with_reducible repeat (first | exact HB.out | apply below_alloc | apply pw_below_drewN | apply below_drew1 | refine below_set ?_ GE552.out | refine below_set ?_ GE553.out | refine below_set ?_ GE561.out)⟩
            (try clear HO_562002)
            (try clear HO583)
            (try clear BK552)
            (try clear BK553)
            (try clear BK561)
            (try clear HB)
            generalize (w65.setCell ⟨gb561, 1, none⟩ (.slice Ao66 y581.length co66)) = w68 at n0_ n1_ n2_ n3_ n4_ n5_ ⊢
            have HO_562002 := n0_
            have HO583 := n1_
            have BK552 := n2_
            have BK553 := n3_
            have BK561 := n4_
            have HB := n5_
            clear n0_ n1_ n2_ n3_ n4_ n5_
            have hnb69 := NB561_552.out
            have hnc69 := NB552_561.out
            have hnb70 := NB561_553.out
            have hnc70 := NB553_561.out
            have hcz71_0 : w68.cell? ⟨gb561, 0, none⟩ = some (.int .i64 a0_0) := (blk_cell BK561.out 0).trans rfl
            have hcz71_1 : w68.cell? ⟨gb561, 1, none⟩ = some (.slice Ao66 y581.length co66) := (blk_cell BK561.out 1).trans rfl
            have hcz71_2 : w68.cell? ⟨gb561, 2, none⟩ = some (u562002) := (blk_cell BK561.out 2).trans rfl
            have hcz71_3 : w68.cell? ⟨gb561, 3, none⟩ = some (.int .i64 a0_3) := (blk_cell BK561.out 3).trans rfl
            have hcz71_4 : w68.cell? ⟨gb561, 4, none⟩ = some (.int .i64 a0_4) := (blk_cell BK561.out 4).trans rfl
            have hcz71_5 : w68.cell? ⟨gb561, 5, none⟩ = some (.int .i64 a0_5) := (blk_cell BK561.out 5).trans rfl
            have hcz71_6 : w68.cell? ⟨gb561, 6, none⟩ = some (.int .i64 a0_6) := (blk_cell BK561.out 6).trans rfl
            have hfz71_0 := blk_frozen BK561.out 0
            have hfz71_1 := blk_frozen BK561.out 1
            have hfz71_2 := blk_frozen BK561.out 2
            have hfz71_3 := blk_frozen BK561.out 3
            have hfz71_4 := blk_frozen BK561.out 4
            have hfz71_5 := blk_frozen BK561.out 5
            have hfz71_6 := blk_frozen BK561.out 6
            have hnb72 := NB552_553.out
            have hnc72 := NB553_552.out
            have hcz73_0 : w68.cell? ⟨gb552, 0, none⟩ = some (.int .i64 a0_0) := (blk_cell BK552.out 0).trans rfl
            have hcz73_1 : w68.cell? ⟨gb552, 1, none⟩ = some (.slice A0_1 l0_1.length c0_1) := (blk_cell BK552.out 1).trans rfl
            have hcz73_2 : w68.cell? ⟨gb552, 2, none⟩ = some (.slice (some ad577) l0_2.length c0_2) := (blk_cell BK552.out 2).trans rfl
            have hcz73_3 : w68.cell? ⟨gb552, 3, none⟩ = some (.int .i64 a0_3) := (blk_cell BK552.out 3).trans rfl
            have hcz73_4 : w68.cell? ⟨gb552, 4, none⟩ = some (.int .i64 a0_4) := (blk_cell BK552.out 4).trans rfl
            have hcz73_5 : w68.cell? ⟨gb552, 5, none⟩ = some (.int .i64 a0_5) := (blk_cell BK552.out 5).trans rfl
            have hcz73_6 : w68.cell? ⟨gb552, 6, none⟩ = some (.int .i64 a0_6) := (blk_cell BK552.out 6).trans rfl
            have hfz73_0 := blk_frozen BK552.out 0
            have hfz73_1 := blk_frozen BK552.out 1
            have hfz73_2 := blk_frozen BK552.out 2
            have hfz73_3 := blk_frozen BK552.out 3
            have hfz73_4 := blk_frozen BK552.out 4
            have hfz73_5 := blk_frozen BK552.out 5
            have hfz73_6 := blk_frozen BK552.out 6
            have p60 : 0 ≤ (x8_3 : Int) := of_decide_eq_true (by with_reducible assumption)
            have q60 : (x8_3 : Int) < ((x562002_3.length : Int) : Int) := of_decide_eq_true (by with_reducible assumption)
            obtain ⟨go60, co60, eo60, gb60, gl60, cl60, HG60⟩ := Kd.R_form HO_562002.out (by omega)
            (first | cases eo60 | (injection eo60 with ea_ en_ ec_; (first | subst ea_ | (injection ea_ with ea_; subst ea_)); subst ec_; clear en_))
            have GB60 := Aside0.mk gb60
            have GG60 := Aside0.mk HG60
            clear gb60 gl60 HG60
            obtain ⟨hx60_0, hf60_0⟩ := Kd.R_celln 0 HO_562002.out (x8_3 : Int) p60 q60
            replace p60 := eq_true p60
            replace q60 := eq_true q60
            obtain ⟨hy74_, hz74_⟩ := Kd.R_celln 0 HO_562002.out (x8_3 : Int) (of_decide_eq_true (by with_reducible assumption)) (of_decide_eq_true (by with_reducible assumption))
            have HP74 := Kd.R_putg HO_562002.out (x8_3 : Int) (wrap64 ((wrap64 (a0_0 + (y581.length : Int))) - 1))
            try go_wp2_with (first | ((with_reducible refine gate_store (t := 2) (p := 114) rfl ?_); refine store_event (t := 2) (p := 114) (v := ?vo_w75) (w1 := (w68.setCell ⟨go60, (x8_3 : Int).toNat, none⟩ (.int .i64 (wrap64 ((wrap64 (a0_0 + (y581.length : Int))) - 1))))) ?hg ?ho ?hn ?hr ?_; (case ho => rfl); (case hg => rfl); (case hn => rfl); (case hr => first | (go_simp; done) | (go_simp; rfl)); intro w75 hw; have hg : w68.grownBy w75 (some go60) := (by rw [hw]; exact HP74.2); have hp_ : Kd.R (Kd.int .i64) 2 w75 w.heap.size (fun _ => True) (.slice (some ⟨go60, 0, none⟩) x562002_3.length co60) y584 := (by rw [hw, Ny584.out]; exact HP74.1); clear HP74; have n0_ := Aside0.mk (hp_); have n1_ := Aside0.mk (blk_grown (g := gb552) (by (with_reducible repeat (first | refine blk_drewN ?_ _ | refine blk_drew ?_ | refine blk_alloc ?_ _)); exact BK552.out) hg (Kd.R_ne HO_562002.out BK552.out (by decide))); have n2_ := Aside0.mk (blk_grown (g := gb553) (by (with_reducible repeat (first | refine blk_drewN ?_ _ | refine blk_drew ?_ | refine blk_alloc ?_ _)); exact BK553.out) hg (Kd.R_ne HO_562002.out BK553.out (by decide))); have n3_ := Aside0.mk (blk_grown (g := gb561) (by (with_reducible repeat (first | refine blk_drewN ?_ _ | refine blk_drew ?_ | refine blk_alloc ?_ _)); exact BK561.out) hg (Kd.R_ne HO_562002.out BK561.out (by decide))); have n4_ := Aside0.mk (Kd.S_after (v := (.slice (some ⟨go60, 0, none⟩) x562002_3.length co60)) (v1 := (.slice (some ⟨go60, 0, none⟩) x562002_3.length co60)) (ok := (fun _ => True)) (by (with_reducible repeat (first | apply Kd.S_alloc | apply Kd.S_drewN | apply Kd.S_drew)); exact Kd.S_mono HO583.out (fun _ hk => ⟨trivial, hk⟩)) hg (.inl rfl)); have n5_ := Aside0.mk ((by rw [hw]; exact below_set (HB.out) GB60.out : Below w.heap.size w w75)); clear HO_562002; clear BK552; clear BK553; clear BK561; clear HO583; clear HB; have HO_562002 := n0_; have BK552 := n1_; have BK553 := n2_; have BK561 := n3_; have HO583 := n4_; have HB := n5_; clear n0_ n1_ n2_ n3_ n4_ n5_; clear hg hw hp_))
            go_roundg k3
            case measure => have := HJ2.out; have := HK2.out; have := HK3.out; omega
            case rel => exact ⟨(wrap64 (x8_3 + 1)), (x554000_3), (x554003_3), (x554004_3), (x554005_3), (x554006_3), (y581), (y584), (.slice Ao66 y581.length co66), (.slice (some ⟨go60, 0, none⟩) x562002_3.length co60), (by first | rfl | (simp; done) | (simp [*]; done)), H', ⟨by have := HJ2.out; have := HK2.out; have := HK3.out; omega⟩, ⟨by (with_reducible repeat (first | apply Kd.S_alloc | apply Kd.S_drewN | apply Kd.S_drew)); exact Kd.S_mono HO583.out (fun _ hk => hk.2)⟩, ⟨by (with_reducible repeat (first | apply Kd.R_alloc | apply Kd.R_drewN | apply Kd.R_drew)); exact HO_562002.out⟩, ⟨by (with_reducible repeat (first | refine blk_drewN ?_ _ | refine blk_drew ?_ | refine blk_alloc ?_ _)); exact BK552.out⟩, ⟨by (with_reducible repeat (first | refine blk_drewN ?_ _ | refine blk_drew ?_ | refine blk_alloc ?_ _)); exact BK553.out⟩, ⟨by (with_reducible repeat (first | refine blk_drewN ?_ _ | refine blk_drew ?_ | refine blk_alloc ?_ _)); exact BK561.out⟩, ⟨by with_reducible repeat (first | exact HB.out | apply below_alloc | apply pw_below_drewN | apply below_drew1 | refine below_set ?_ GE552.out | refine below_set ?_ GE553.out | refine below_set ?_ GE561.out)⟩⟩
           ·rw [if_neg c56] at H
            have c56b0 : decide (0 < (rd l1 x8_3)) = false := decide_eq_false c56
            clear c56
            have H' := Aside0.mk H
            clear H
            have p572 : 0 ≤ (x8_3 : Int) := of_decide_eq_true (by with_reducible assumption)
            have q572 : x8_3 < (l1.length : Int) := of_decide_eq_true (by with_reducible assumption)
            obtain ⟨ad572, e572, hx572_0⟩ := Kd.at_int HR1.out x8_3 p572 q572
            cases e572
            replace hx572_0 := (HB.out.cell (World.block_lt_of_cell? w _ hx572_0)).trans hx572_0
            replace p572 := eq_true p572
            replace q572 := eq_true q572
            go_wp2_with (first | ((with_reducible refine gate_callee (f := 56) rfl ?_); refine goesL_ (some 76) rfl rfl Try.func56 (by kernel_rfl) rfl #[.int .i64 (rd l1 x8_3), .int .i64 0, .int .i64 100] rfl (by (try simp only [List.map_toArray, List.map_cons, List.map_nil]); first | done | rfl | (simp only [List.length_drop, List.length_take]; rfl)) ?_; (with_reducible refine (spec_l00In.calls (rd l1 x8_3) 0 100 true _ A54.out).mono ?_); rintro e w' ⟨rfl, ⟨nd, rfl⟩⟩; refine ⟨_, rfl, ?_⟩; have p574 : 0 ≤ (x8_3 : Int) := of_decide_eq_true (by with_reducible assumption); have q574 : x8_3 < (l1.length : Int) := of_decide_eq_true (by with_reducible assumption); obtain ⟨ad574, e574, hx574_0⟩ := Kd.at_int HR1.out x8_3 p574 q574; obtain rfl : ad572 = ad574 := (by injection e574); replace hx574_0 := (HB.out.cell (World.block_lt_of_cell? w _ hx574_0)).trans hx574_0; replace p574 := eq_true p574; replace q574 := eq_true q574))
            go_roundg k3
            case measure => have := HJ2.out; have := HK2.out; have := HK3.out; omega
            case rel => exact ⟨(wrap64 (x8_3 + 1)), (x554000_3), (x554003_3), (x554004_3), (x554005_3), (x554006_3), (x562001_3), (x562002_3), (u562001), (u562002), (by first | rfl | (simp; done) | (simp [*]; done)), H', ⟨by have := HJ2.out; have := HK2.out; have := HK3.out; omega⟩, ⟨by (with_reducible repeat (first | apply Kd.S_alloc | apply Kd.S_drewN | apply Kd.S_drew)); exact HO_562001.out⟩, ⟨by (with_reducible repeat (first | apply Kd.R_alloc | apply Kd.R_drewN | apply Kd.R_drew)); exact HO_562002.out⟩, ⟨by (with_reducible repeat (first | refine blk_drewN ?_ _ | refine blk_drew ?_ | refine blk_alloc ?_ _)); exact BK552.out⟩, ⟨by (with_reducible repeat (first | refine blk_drewN ?_ _ | refine blk_drew ?_ | refine blk_alloc ?_ _)); exact BK553.out⟩, ⟨by (with_reducible repeat (first | refine blk_drewN ?_ _ | refine blk_drew ?_ | refine blk_alloc ?_ _)); exact BK561.out⟩, ⟨by with_reducible repeat (first | exact HB.out | apply below_alloc | apply pw_below_drewN | apply below_drew1 | refine below_set ?_ GE552.out | refine below_set ?_ GE553.out | refine below_set ?_ GE561.out)⟩⟩
          ·replace c55 := Bool.eq_false_iff.mpr c55
           subst c55
           rw [if_neg (by decide)] at H
           simp only [Option.some.injEq, Prod.mk.injEq] at H
           obtain ⟨rfl, rfl, rfl, rfl, rfl, rfl, rfl, rfl⟩ := H
           have p572 : 0 ≤ (x8_3 : Int) := of_decide_eq_true (by with_reducible assumption)
           have q572 : x8_3 < (l1.length : Int) := of_decide_eq_true (by with_reducible assumption)
           obtain ⟨ad572, e572, hx572_0⟩ := Kd.at_int HR1.out x8_3 p572 q572
           cases e572
           replace hx572_0 := (HB.out.cell (World.block_lt_of_cell? w _ hx572_0)).trans hx572_0
           replace p572 := eq_true p572
           replace q572 := eq_true q572
           go_wp2_with (first | ((with_reducible refine gate_callee (f := 56) rfl ?_); refine goesL_ (some 76) rfl rfl Try.func56 (by kernel_rfl) rfl #[.int .i64 (rd l1 x8_3), .int .i64 0, .int .i64 100] rfl (by (try simp only [List.map_toArray, List.map_cons, List.map_nil]); first | done | rfl | (simp only [List.length_drop, List.length_take]; rfl)) ?_; (with_reducible refine (spec_l00In.calls (rd l1 x8_3) 0 100 false _ A54.out).mono ?_); rintro e w' ⟨rfl, ⟨nd, rfl⟩⟩; refine ⟨_, rfl, ?_⟩; (try (rw [drewN_self wr]; generalize hq_ : World.drewN wr _ = wr; have n0_ : Aside0 (Kd.S k56 56 wr w.heap.size (fun k_ => some k_ ≠ (u562002 : Value).ownBlock) u562001 x562001_3) := ⟨by rw [← hq_]; exact (by (with_reducible repeat (first | apply Kd.S_alloc | apply Kd.S_drewN | apply Kd.S_drew)); exact HO_562001.out)⟩; have n1_ : Aside0 (Kd.R (Kd.int .i64) 2 wr w.heap.size (fun _ => True) u562002 x562002_3) := ⟨by rw [← hq_]; exact (by (with_reducible repeat (first | apply Kd.R_alloc | apply Kd.R_drewN | apply Kd.R_drew)); exact HO_562002.out)⟩; have n2_ : Aside0 (wr.heap[gb552]? = some (.cells #[.int .i64 a0_0, .slice A0_1 l0_1.length c0_1, .slice A0_2 l0_2.length c0_2, .int .i64 a0_3, .int .i64 a0_4, .int .i64 a0_5, .int .i64 a0_6] 45 (0, 0))) := ⟨by rw [← hq_]; exact (by (with_reducible repeat (first | refine blk_drewN ?_ _ | refine blk_drew ?_ | refine blk_alloc ?_ _)); exact BK552.out)⟩; have n3_ : Aside0 (wr.heap[gb553]? = some (.cells #[.int .i64 x554000_3, .slice none 0 0, .slice none 0 0, .int .i64 x554003_3, .int .i64 x554004_3, .int .i64 x554005_3, .int .i64 x554006_3] 45 (0, 0))) := ⟨by rw [← hq_]; exact (by (with_reducible repeat (first | refine blk_drewN ?_ _ | refine blk_drew ?_ | refine blk_alloc ?_ _)); exact BK553.out)⟩; have n4_ : Aside0 (wr.heap[gb561]? = some (.cells #[.int .i64 a0_0, u562001, u562002, .int .i64 a0_3, .int .i64 a0_4, .int .i64 a0_5, .int .i64 a0_6] 45 (0, 0))) := ⟨by rw [← hq_]; exact (by (with_reducible repeat (first | refine blk_drewN ?_ _ | refine blk_drew ?_ | refine blk_alloc ?_ _)); exact BK561.out)⟩; have n5_ : Aside0 (Below w.heap.size w wr) := ⟨by rw [← hq_]; exact (by with_reducible repeat (first | exact HB.out | apply below_alloc | apply pw_below_drewN | apply below_drew1 | refine below_set ?_ GE552.out | refine below_set ?_ GE553.out | refine below_set ?_ GE561.out))⟩; clear HO_562001 HO_562002 BK552 BK553 BK561 HB hq_; have HO_562001 := n0_; have HO_562002 := n1_; have BK552 := n2_; have BK553 := n3_; have BK561 := n4_; have HB := n5_; clear n0_ n1_ n2_ n3_ n4_ n5_)); have hnb76 := NB553_552.out; have hnc76 := NB552_553.out; have hnb77 := NB553_561.out; have hnc77 := NB561_553.out; have hcz78_0 : wr.cell? ⟨gb553, 0, none⟩ = some (.int .i64 x554000_3) := (blk_cell BK553.out 0).trans rfl; have hcz78_1 : wr.cell? ⟨gb553, 1, none⟩ = some (.slice none 0 0) := (blk_cell BK553.out 1).trans rfl; have hcz78_2 : wr.cell? ⟨gb553, 2, none⟩ = some (.slice none 0 0) := (blk_cell BK553.out 2).trans rfl; have hcz78_3 : wr.cell? ⟨gb553, 3, none⟩ = some (.int .i64 x554003_3) := (blk_cell BK553.out 3).trans rfl; have hcz78_4 : wr.cell? ⟨gb553, 4, none⟩ = some (.int .i64 x554004_3) := (blk_cell BK553.out 4).trans rfl; have hcz78_5 : wr.cell? ⟨gb553, 5, none⟩ = some (.int .i64 x554005_3) := (blk_cell BK553.out 5).trans rfl; have hcz78_6 : wr.cell? ⟨gb553, 6, none⟩ = some (.int .i64 x554006_3) := (blk_cell BK553.out 6).trans rfl; have hfz78_0 := blk_frozen BK553.out 0; have hfz78_1 := blk_frozen BK553.out 1; have hfz78_2 := blk_frozen BK553.out 2; have hfz78_3 := blk_frozen BK553.out 3; have hfz78_4 := blk_frozen BK553.out 4; have hfz78_5 := blk_frozen BK553.out 5; have hfz78_6 := blk_frozen BK553.out 6))
           refine bodyPost_ret (results_ct rfl _ _ gb553 45 #[.int .i64 0, .slice none 0 0, .slice none 0 0, .int .i64 0, .int .i64 0, .int .i64 0, .int .i64 0] (0, 0) _ rfl (by (with_reducible repeat (first | refine blk_drewN ?_ _ | refine blk_drew ?_ | refine blk_alloc ?_ _)); refine blk_put (cs := #[.int .i64 0, .slice none 0 0, .slice none 0 0, .int .i64 0, .int .i64 0, .int .i64 0, .int .i64 x554006_3]) ?_ 6 _ rfl; (with_reducible repeat (first | refine blk_drewN ?_ _ | refine blk_drew ?_ | refine blk_alloc ?_ _)); refine blk_put (cs := #[.int .i64 0, .slice none 0 0, .slice none 0 0, .int .i64 0, .int .i64 0, .int .i64 x554005_3, .int .i64 x554006_3]) ?_ 5 _ rfl; (with_reducible repeat (first | refine blk_drewN ?_ _ | refine blk_drew ?_ | refine blk_alloc ?_ _)); refine blk_put (cs := #[.int .i64 0, .slice none 0 0, .slice none 0 0, .int .i64 0, .int .i64 x554004_3, .int .i64 x554005_3, .int .i64 x554006_3]) ?_ 4 _ rfl; (with_reducible repeat (first | refine blk_drewN ?_ _ | refine blk_drew ?_ | refine blk_alloc ?_ _)); refine blk_put (cs := #[.int .i64 0, .slice none 0 0, .slice none 0 0, .int .i64 x554003_3, .int .i64 x554004_3, .int .i64 x554005_3, .int .i64 x554006_3]) ?_ 3 _ rfl; (with_reducible repeat (first | refine blk_drewN ?_ _ | refine blk_drew ?_ | refine blk_alloc ?_ _)); refine blk_put (cs := #[.int .i64 0, .slice none 0 0, .slice none 0 0, .int .i64 x554003_3, .int .i64 x554004_3, .int .i64 x554005_3, .int .i64 x554006_3]) ?_ 2 _ rfl; (with_reducible repeat (first | refine blk_drewN ?_ _ | refine blk_drew ?_ | refine blk_alloc ?_ _)); refine blk_put (cs := #[.int .i64 0, .slice none 0 0, .slice none 0 0, .int .i64 x554003_3, .int .i64 x554004_3, .int .i64 x554005_3, .int .i64 x554006_3]) ?_ 1 _ rfl; (with_reducible repeat (first | refine blk_drewN ?_ _ | refine blk_drew ?_ | refine blk_alloc ?_ _)); refine blk_put (cs := #[.int .i64 x554000_3, .slice none 0 0, .slice none 0 0, .int .i64 x554003_3, .int .i64 x554004_3, .int .i64 x554005_3, .int .i64 x554006_3]) ?_ 0 _ rfl; (with_reducible repeat (first | refine blk_drewN ?_ _ | refine blk_drew ?_ | refine blk_alloc ?_ _)); exact BK553.out) Try.underlying45 rfl (by kernel_rfl)) rfl ?_
           exact ⟨_, _, by first | rfl | (simp [errW_none, errW_some] <;> rfl) | (simp [*, errW_none, errW_some] <;> rfl), by first | exact Kd.S_nil _ _ _ _ _ | exact Kd.N_nil _ _ _ _ _ | exact Kd.V_nil _ _ _ _ _ | exact Kd.Q_nil _ _ _ _ _ | exact Kd.R_nil _ _ _ _ _, by first | exact Kd.R_nil _ _ _ _ _ | exact Kd.N_nil _ _ _ _ _ | exact Kd.V_nil _ _ _ _ _ | exact Kd.Q_nil _ _ _ _ _ | exact Kd.S_nil _ _ _ _ _, by with_reducible repeat (first | exact HB.out | apply below_alloc | apply pw_below_drewN | apply below_drew1 | refine below_set ?_ GE552.out | refine below_set ?_ GE553.out | refine below_set ?_ GE561.out)⟩
         ·rw [if_neg c52] at H
          have c52b0 : decide (x8_3 < (l1.length : Int)) = false := decide_eq_false c52
          clear c52
          replace H := Option.bind_eq_some_iff.mp H
          obtain ⟨t571, A790, H⟩ := H
          try dsimp only at H
          have A79 := Aside0.mk A790
          clear A790
          by_cases c80 : t571 = true
          ·subst c80
           rw [if_pos rfl] at H
           simp only [Option.some.injEq, Prod.mk.injEq] at H
           obtain ⟨rfl, rfl, rfl, rfl, rfl, rfl, rfl, rfl⟩ := H
           have hnb81 := NB561_552.out
           have hnc81 := NB552_561.out
           have hnb82 := NB561_553.out
           have hnc82 := NB553_561.out
           have hcz83_0 : wr.cell? ⟨gb561, 0, none⟩ = some (.int .i64 a0_0) := (blk_cell BK561.out 0).trans rfl
           have hcz83_1 : wr.cell? ⟨gb561, 1, none⟩ = some (u562001) := (blk_cell BK561.out 1).trans rfl
           have hcz83_2 : wr.cell? ⟨gb561, 2, none⟩ = some (u562002) := (blk_cell BK561.out 2).trans rfl
           have hcz83_3 : wr.cell? ⟨gb561, 3, none⟩ = some (.int .i64 a0_3) := (blk_cell BK561.out 3).trans rfl
           have hcz83_4 : wr.cell? ⟨gb561, 4, none⟩ = some (.int .i64 a0_4) := (blk_cell BK561.out 4).trans rfl
           have hcz83_5 : wr.cell? ⟨gb561, 5, none⟩ = some (.int .i64 a0_5) := (blk_cell BK561.out 5).trans rfl
           have hcz83_6 : wr.cell? ⟨gb561, 6, none⟩ = some (.int .i64 a0_6) := (blk_cell BK561.out 6).trans rfl
           have hfz83_0 := blk_frozen BK561.out 0
           have hfz83_1 := blk_frozen BK561.out 1
           have hfz83_2 := blk_frozen BK561.out 2
           have hfz83_3 := blk_frozen BK561.out 3
           have hfz83_4 := blk_frozen BK561.out 4
           have hfz83_5 := blk_frozen BK561.out 5
           have hfz83_6 := blk_frozen BK561.out 6
           obtain ⟨Ao84, co84, eo84⟩ := Kd.S_slice HO_562001.out
           subst eo84
           obtain ⟨Ao85, co85, eo85⟩ := Kd.R_slice HO_562002.out
           subst eo85
           go_wp2_with (first | ((with_reducible refine gate_callee (f := 54) rfl ?_); refine goesL_ (some 115) rfl rfl Try.func54 (by kernel_rfl) rfl #[.pointer (some ⟨gb561, 0, none⟩)] rfl (by (try simp only [List.map_toArray, List.map_cons, List.map_nil]); first | done | rfl | (simp only [List.length_drop, List.length_take]; rfl)) ?_; (with_reducible refine (spec_l06Is_at.calls (hbk := (by (with_reducible repeat (first | refine blk_drewN ?_ _ | refine blk_drew ?_ | refine blk_alloc ?_ _)); first | exact BK552.out | exact BK553.out | exact BK561.out)) a0_0 _ _ x562001_3 _ _ x562002_3 a0_3 a0_4 a0_5 a0_6 true _ ?side1 ?side2 ?side3 ?side4 A79.out).mono ?_); (case side1 => repeat (first | exact (Kd.S_reads' HO_562001.out).2.2 | (with_reducible refine Kd.C_alloc ?_ _) | (with_reducible refine Kd.C_drewN ?_ _) | (with_reducible refine Kd.C_drew ?_))); (case side2 => exact (Kd.S_reads' HO_562001.out).2.1); (case side3 => repeat (first | exact (Kd.R_reads' HO_562002.out).2.2 | (with_reducible refine Kd.C_alloc ?_ _) | (with_reducible refine Kd.C_drewN ?_ _) | (with_reducible refine Kd.C_drew ?_))); (case side4 => exact (Kd.R_reads' HO_562002.out).2.1); rintro e w86 ⟨rfl, hb⟩; refine ⟨_, rfl, ?_⟩; have n0_ := Aside0.mk (Kd.S_below (by (with_reducible repeat (first | apply Kd.S_alloc | apply Kd.S_drewN | apply Kd.S_drew)); exact HO_562001.out) hb); have n1_ := Aside0.mk (Kd.R_below (by (with_reducible repeat (first | apply Kd.R_alloc | apply Kd.R_drewN | apply Kd.R_drew)); exact HO_562002.out) hb); have n2_ := Aside0.mk (blk_below (g := gb552) (by (with_reducible repeat (first | refine blk_drewN ?_ _ | refine blk_drew ?_ | refine blk_alloc ?_ _)); exact BK552.out) hb); have n3_ := Aside0.mk (blk_below (g := gb553) (by (with_reducible repeat (first | refine blk_drewN ?_ _ | refine blk_drew ?_ | refine blk_alloc ?_ _)); exact BK553.out) hb); have n4_ := Aside0.mk (blk_below (g := gb561) (by (with_reducible repeat (first | refine blk_drewN ?_ _ | refine blk_drew ?_ | refine blk_alloc ?_ _)); exact BK561.out) hb); have n5_ := Aside0.mk (below_step (by with_reducible repeat (first | exact HB.out | apply below_alloc | apply pw_below_drewN | apply below_drew1 | refine below_set ?_ GE552.out | refine below_set ?_ GE553.out | refine below_set ?_ GE561.out)) hb); clear HO_562001; clear HO_562002; clear BK552; clear BK553; clear BK561; clear HB; have HO_562001 := n0_; have HO_562002 := n1_; have BK552 := n2_; have BK553 := n3_; have BK561 := n4_; have HB := n5_; clear n0_ n1_ n2_ n3_ n4_ n5_; (try clear hb); (try clear hb2); (try clear hk); (try clear hi); have hcz87_0 : w86.cell? ⟨gb561, 0, none⟩ = some (.int .i64 a0_0) := (blk_cell BK561.out 0).trans rfl; have hcz87_1 : w86.cell? ⟨gb561, 1, none⟩ = some (.slice Ao84 x562001_3.length co84) := (blk_cell BK561.out 1).trans rfl; have hcz87_2 : w86.cell? ⟨gb561, 2, none⟩ = some (.slice Ao85 x562002_3.length co85) := (blk_cell BK561.out 2).trans rfl; have hcz87_3 : w86.cell? ⟨gb561, 3, none⟩ = some (.int .i64 a0_3) := (blk_cell BK561.out 3).trans rfl; have hcz87_4 : w86.cell? ⟨gb561, 4, none⟩ = some (.int .i64 a0_4) := (blk_cell BK561.out 4).trans rfl; have hcz87_5 : w86.cell? ⟨gb561, 5, none⟩ = some (.int .i64 a0_5) := (blk_cell BK561.out 5).trans rfl; have hcz87_6 : w86.cell? ⟨gb561, 6, none⟩ = some (.int .i64 a0_6) := (blk_cell BK561.out 6).trans rfl; have hfz87_0 := blk_frozen BK561.out 0; have hfz87_1 := blk_frozen BK561.out 1; have hfz87_2 := blk_frozen BK561.out 2; have hfz87_3 := blk_frozen BK561.out 3; have hfz87_4 := blk_frozen BK561.out 4; have hfz87_5 := blk_frozen BK561.out 5; have hfz87_6 := blk_frozen BK561.out 6; have hnb88 := NB553_552.out; have hnc88 := NB552_553.out; have hcz89_0 : w86.cell? ⟨gb553, 0, none⟩ = some (.int .i64 x554000_3) := (blk_cell BK553.out 0).trans rfl; have hcz89_1 : w86.cell? ⟨gb553, 1, none⟩ = some (.slice none 0 0) := (blk_cell BK553.out 1).trans rfl; have hcz89_2 : w86.cell? ⟨gb553, 2, none⟩ = some (.slice none 0 0) := (blk_cell BK553.out 2).trans rfl; have hcz89_3 : w86.cell? ⟨gb553, 3, none⟩ = some (.int .i64 x554003_3) := (blk_cell BK553.out 3).trans rfl; have hcz89_4 : w86.cell? ⟨gb553, 4, none⟩ = some (.int .i64 x554004_3) := (blk_cell BK553.out 4).trans rfl; have hcz89_5 : w86.cell? ⟨gb553, 5, none⟩ = some (.int .i64 x554005_3) := (blk_cell BK553.out 5).trans rfl; have hcz89_6 : w86.cell? ⟨gb553, 6, none⟩ = some (.int .i64 x554006_3) := (blk_cell BK553.out 6).trans rfl; have hfz89_0 := blk_frozen BK553.out 0; have hfz89_1 := blk_frozen BK553.out 1; have hfz89_2 := blk_frozen BK553.out 2; have hfz89_3 := blk_frozen BK553.out 3; have hfz89_4 := blk_frozen BK553.out 4; have hfz89_5 := blk_frozen BK553.out 5; have hfz89_6 := blk_frozen BK553.out 6))
           refine bodyPost_ret (results_ct rfl _ _ gb553 45 #[.int .i64 a0_0, .slice Ao84 x562001_3.length co84, .slice Ao85 x562002_3.length co85, .int .i64 a0_3, .int .i64 a0_4, .int .i64 a0_5, .int .i64 a0_6] (0, 0) _ rfl (by (with_reducible repeat (first | refine blk_drewN ?_ _ | refine blk_drew ?_ | refine blk_alloc ?_ _)); refine blk_put (cs := #[.int .i64 a0_0, .slice Ao84 x562001_3.length co84, .slice Ao85 x562002_3.length co85, .int .i64 a0_3, .int .i64 a0_4, .int .i64 a0_5, .int .i64 x554006_3]) ?_ 6 _ rfl; (with_reducible repeat (first | refine blk_drewN ?_ _ | refine blk_drew ?_ | refine blk_alloc ?_ _)); refine blk_put (cs := #[.int .i64 a0_0, .slice Ao84 x562001_3.length co84, .slice Ao85 x562002_3.length co85, .int .i64 a0_3, .int .i64 a0_4, .int .i64 x554005_3, .int .i64 x554006_3]) ?_ 5 _ rfl; (with_reducible repeat (first | refine blk_drewN ?_ _ | refine blk_drew ?_ | refine blk_alloc ?_ _)); refine blk_put (cs := #[.int .i64 a0_0, .slice Ao84 x562001_3.length co84, .slice Ao85 x562002_3.length co85, .int .i64 a0_3, .int .i64 x554004_3, .int .i64 x554005_3, .int .i64 x554006_3]) ?_ 4 _ rfl; (with_reducible repeat (first | refine blk_drewN ?_ _ | refine blk_drew ?_ | refine blk_alloc ?_ _)); refine blk_put (cs := #[.int .i64 a0_0, .slice Ao84 x562001_3.length co84, .slice Ao85 x562002_3.length co85, .int .i64 x554003_3, .int .i64 x554004_3, .int .i64 x554005_3, .int .i64 x554006_3]) ?_ 3 _ rfl; (with_reducible repeat (first | refine blk_drewN ?_ _ | refine blk_drew ?_ | refine blk_alloc ?_ _)); refine blk_put (cs := #[.int .i64 a0_0, .slice Ao84 x562001_3.length co84, .slice none 0 0, .int .i64 x554003_3, .int .i64 x554004_3, .int .i64 x554005_3, .int .i64 x554006_3]) ?_ 2 _ rfl; (with_reducible repeat (first | refine blk_drewN ?_ _ | refine blk_drew ?_ | refine blk_alloc ?_ _)); refine blk_put (cs := #[.int .i64 a0_0, .slice none 0 0, .slice none 0 0, .int .i64 x554003_3, .int .i64 x554004_3, .int .i64 x554005_3, .int .i64 x554006_3]) ?_ 1 _ rfl; (with_reducible repeat (first | refine blk_drewN ?_ _ | refine blk_drew ?_ | refine blk_alloc ?_ _)); refine blk_put (cs := #[.int .i64 x554000_3, .slice none 0 0, .slice none 0 0, .int .i64 x554003_3, .int .i64 x554004_3, .int .i64 x554005_3, .int .i64 x554006_3]) ?_ 0 _ rfl; (with_reducible repeat (first | refine blk_drewN ?_ _ | refine blk_drew ?_ | refine blk_alloc ?_ _)); exact BK553.out) Try.underlying45 rfl (by kernel_rfl)) rfl ?_
           exact ⟨_, _, by first | rfl | (simp [errW_none, errW_some] <;> rfl) | (simp [*, errW_none, errW_some] <;> rfl), by (with_reducible repeat (first | apply Kd.S_alloc | apply Kd.S_drewN | apply Kd.S_drew)); exact Kd.S_mono (Kd.S_far (p := ⟨gb553, 6, none⟩) (Kd.S_far (p := ⟨gb553, 5, none⟩) (Kd.S_far (p := ⟨gb553, 4, none⟩) (Kd.S_far (p := ⟨gb553, 3, none⟩) (Kd.S_far (p := ⟨gb553, 2, none⟩) (Kd.S_far (p := ⟨gb553, 1, none⟩) (Kd.S_far (p := ⟨gb553, 0, none⟩) (Kd.S_types HO_562001.out BK553.out (by decide)) (fun _ hk => hk.2) (.int .i64 a0_0)) (fun _ hk => hk.2) (.slice Ao84 x562001_3.length co84)) (fun _ hk => hk.2) (.slice Ao85 x562002_3.length co85)) (fun _ hk => hk.2) (.int .i64 a0_3)) (fun _ hk => hk.2) (.int .i64 a0_4)) (fun _ hk => hk.2) (.int .i64 a0_5)) (fun _ hk => hk.2) (.int .i64 a0_6)) (fun _ hk => hk.1), by (with_reducible repeat (first | apply Kd.R_alloc | apply Kd.R_drewN | apply Kd.R_drew)); exact Kd.R_mono (Kd.R_far (p := ⟨gb553, 6, none⟩) (Kd.R_far (p := ⟨gb553, 5, none⟩) (Kd.R_far (p := ⟨gb553, 4, none⟩) (Kd.R_far (p := ⟨gb553, 3, none⟩) (Kd.R_far (p := ⟨gb553, 2, none⟩) (Kd.R_far (p := ⟨gb553, 1, none⟩) (Kd.R_far (p := ⟨gb553, 0, none⟩) (Kd.R_types HO_562002.out BK553.out (by decide)) (fun _ hk => hk.2) (.int .i64 a0_0)) (fun _ hk => hk.2) (.slice Ao84 x562001_3.length co84)) (fun _ hk => hk.2) (.slice Ao85 x562002_3.length co85)) (fun _ hk => hk.2) (.int .i64 a0_3)) (fun _ hk => hk.2) (.int .i64 a0_4)) (fun _ hk => hk.2) (.int .i64 a0_5)) (fun _ hk => hk.2) (.int .i64 a0_6)) (fun _ hk => trivial), by with_reducible repeat (first | exact HB.out | apply below_alloc | apply pw_below_drewN | apply below_drew1 | refine below_set ?_ GE552.out | refine below_set ?_ GE553.out | refine below_set ?_ GE561.out)⟩
          ·replace c80 := Bool.eq_false_iff.mpr c80
           subst c80
           rw [if_neg (by decide)] at H
           simp only [Option.some.injEq, Prod.mk.injEq] at H
           obtain ⟨rfl, rfl, rfl, rfl, rfl, rfl, rfl, rfl⟩ := H
           have hnb90 := NB561_552.out
           have hnc90 := NB552_561.out
           have hnb91 := NB561_553.out
           have hnc91 := NB553_561.out
           have hcz92_0 : wr.cell? ⟨gb561, 0, none⟩ = some (.int .i64 a0_0) := (blk_cell BK561.out 0).trans rfl
           have hcz92_1 : wr.cell? ⟨gb561, 1, none⟩ = some (u562001) := (blk_cell BK561.out 1).trans rfl
           have hcz92_2 : wr.cell? ⟨gb561, 2, none⟩ = some (u562002) := (blk_cell BK561.out 2).trans rfl
           have hcz92_3 : wr.cell? ⟨gb561, 3, none⟩ = some (.int .i64 a0_3) := (blk_cell BK561.out 3).trans rfl
           have hcz92_4 : wr.cell? ⟨gb561, 4, none⟩ = some (.int .i64 a0_4) := (blk_cell BK561.out 4).trans rfl
           have hcz92_5 : wr.cell? ⟨gb561, 5, none⟩ = some (.int .i64 a0_5) := (blk_cell BK561.out 5).trans rfl
           have hcz92_6 : wr.cell? ⟨gb561, 6, none⟩ = some (.int .i64 a0_6) := (blk_cell BK561.out 6).trans rfl
           have hfz92_0 := blk_frozen BK561.out 0
           have hfz92_1 := blk_frozen BK561.out 1
           have hfz92_2 := blk_frozen BK561.out 2
           have hfz92_3 := blk_frozen BK561.out 3
           have hfz92_4 := blk_frozen BK561.out 4
           have hfz92_5 := blk_frozen BK561.out 5
           have hfz92_6 := blk_frozen BK561.out 6
           obtain ⟨Ao93, co93, eo93⟩ := Kd.S_slice HO_562001.out
           subst eo93
           obtain ⟨Ao94, co94, eo94⟩ := Kd.R_slice HO_562002.out
           subst eo94
           go_wp2_with (first | ((with_reducible refine gate_callee (f := 54) rfl ?_); refine goesL_ (some 115) rfl rfl Try.func54 (by kernel_rfl) rfl #[.pointer (some ⟨gb561, 0, none⟩)] rfl (by (try simp only [List.map_toArray, List.map_cons, List.map_nil]); first | done | rfl | (simp only [List.length_drop, List.length_take]; rfl)) ?_; (with_reducible refine (spec_l06Is_at.calls (hbk := (by (with_reducible repeat (first | refine blk_drewN ?_ _ | refine blk_drew ?_ | refine blk_alloc ?_ _)); first | exact BK552.out | exact BK553.out | exact BK561.out)) a0_0 _ _ x562001_3 _ _ x562002_3 a0_3 a0_4 a0_5 a0_6 false _ ?side1 ?side2 ?side3 ?side4 A79.out).mono ?_); (case side1 => repeat (first | exact (Kd.S_reads' HO_562001.out).2.2 | (with_reducible refine Kd.C_alloc ?_ _) | (with_reducible refine Kd.C_drewN ?_ _) | (with_reducible refine Kd.C_drew ?_))); (case side2 => exact (Kd.S_reads' HO_562001.out).2.1); (case side3 => repeat (first | exact (Kd.R_reads' HO_562002.out).2.2 | (with_reducible refine Kd.C_alloc ?_ _) | (with_reducible refine Kd.C_drewN ?_ _) | (with_reducible refine Kd.C_drew ?_))); (case side4 => exact (Kd.R_reads' HO_562002.out).2.1); rintro e w95 ⟨rfl, hb⟩; refine ⟨_, rfl, ?_⟩; have n0_ := Aside0.mk (Kd.S_below (by (with_reducible repeat (first | apply Kd.S_alloc | apply Kd.S_drewN | apply Kd.S_drew)); exact HO_562001.out) hb); have n1_ := Aside0.mk (Kd.R_below (by (with_reducible repeat (first | apply Kd.R_alloc | apply Kd.R_drewN | apply Kd.R_drew)); exact HO_562002.out) hb); have n2_ := Aside0.mk (blk_below (g := gb552) (by (with_reducible repeat (first | refine blk_drewN ?_ _ | refine blk_drew ?_ | refine blk_alloc ?_ _)); exact BK552.out) hb); have n3_ := Aside0.mk (blk_below (g := gb553) (by (with_reducible repeat (first | refine blk_drewN ?_ _ | refine blk_drew ?_ | refine blk_alloc ?_ _)); exact BK553.out) hb); have n4_ := Aside0.mk (blk_below (g := gb561) (by (with_reducible repeat (first | refine blk_drewN ?_ _ | refine blk_drew ?_ | refine blk_alloc ?_ _)); exact BK561.out) hb); have n5_ := Aside0.mk (below_step (by with_reducible repeat (first | exact HB.out | apply below_alloc | apply pw_below_drewN | apply below_drew1 | refine below_set ?_ GE552.out | refine below_set ?_ GE553.out | refine below_set ?_ GE561.out)) hb); clear HO_562001; clear HO_562002; clear BK552; clear BK553; clear BK561; clear HB; have HO_562001 := n0_; have HO_562002 := n1_; have BK552 := n2_; have BK553 := n3_; have BK561 := n4_; have HB := n5_; clear n0_ n1_ n2_ n3_ n4_ n5_; (try clear hb); (try clear hb2); (try clear hk); (try clear hi); have hnb96 := NB553_552.out; have hnc96 := NB552_553.out; have hcz97_0 : w95.cell? ⟨gb553, 0, none⟩ = some (.int .i64 x554000_3) := (blk_cell BK553.out 0).trans rfl; have hcz97_1 : w95.cell? ⟨gb553, 1, none⟩ = some (.slice none 0 0) := (blk_cell BK553.out 1).trans rfl; have hcz97_2 : w95.cell? ⟨gb553, 2, none⟩ = some (.slice none 0 0) := (blk_cell BK553.out 2).trans rfl; have hcz97_3 : w95.cell? ⟨gb553, 3, none⟩ = some (.int .i64 x554003_3) := (blk_cell BK553.out 3).trans rfl; have hcz97_4 : w95.cell? ⟨gb553, 4, none⟩ = some (.int .i64 x554004_3) := (blk_cell BK553.out 4).trans rfl; have hcz97_5 : w95.cell? ⟨gb553, 5, none⟩ = some (.int .i64 x554005_3) := (blk_cell BK553.out 5).trans rfl; have hcz97_6 : w95.cell? ⟨gb553, 6, none⟩ = some (.int .i64 x554006_3) := (blk_cell BK553.out 6).trans rfl; have hfz97_0 := blk_frozen BK553.out 0; have hfz97_1 := blk_frozen BK553.out 1; have hfz97_2 := blk_frozen BK553.out 2; have hfz97_3 := blk_frozen BK553.out 3; have hfz97_4 := blk_frozen BK553.out 4; have hfz97_5 := blk_frozen BK553.out 5; have hfz97_6 := blk_frozen BK553.out 6))
           refine bodyPost_ret (results_ct rfl _ _ gb553 45 #[.int .i64 0, .slice none 0 0, .slice none 0 0, .int .i64 0, .int .i64 0, .int .i64 0, .int .i64 0] (0, 0) _ rfl (by (with_reducible repeat (first | refine blk_drewN ?_ _ | refine blk_drew ?_ | refine blk_alloc ?_ _)); refine blk_put (cs := #[.int .i64 0, .slice none 0 0, .slice none 0 0, .int .i64 0, .int .i64 0, .int .i64 0, .int .i64 x554006_3]) ?_ 6 _ rfl; (with_reducible repeat (first | refine blk_drewN ?_ _ | refine blk_drew ?_ | refine blk_alloc ?_ _)); refine blk_put (cs := #[.int .i64 0, .slice none 0 0, .slice none 0 0, .int .i64 0, .int .i64 0, .int .i64 x554005_3, .int .i64 x554006_3]) ?_ 5 _ rfl; (with_reducible repeat (first | refine blk_drewN ?_ _ | refine blk_drew ?_ | refine blk_alloc ?_ _)); refine blk_put (cs := #[.int .i64 0, .slice none 0 0, .slice none 0 0, .int .i64 0, .int .i64 x554004_3, .int .i64 x554005_3, .int .i64 x554006_3]) ?_ 4 _ rfl; (with_reducible repeat (first | refine blk_drewN ?_ _ | refine blk_drew ?_ | refine blk_alloc ?_ _)); refine blk_put (cs := #[.int .i64 0, .slice none 0 0, .slice none 0 0, .int .i64 x554003_3, .int .i64 x554004_3, .int .i64 x554005_3, .int .i64 x554006_3]) ?_ 3 _ rfl; (with_reducible repeat (first | refine blk_drewN ?_ _ | refine blk_drew ?_ | refine blk_alloc ?_ _)); refine blk_put (cs := #[.int .i64 0, .slice none 0 0, .slice none 0 0, .int .i64 x554003_3, .int .i64 x554004_3, .int .i64 x554005_3, .int .i64 x554006_3]) ?_ 2 _ rfl; (with_reducible repeat (first | refine blk_drewN ?_ _ | refine blk_drew ?_ | refine blk_alloc ?_ _)); refine blk_put (cs := #[.int .i64 0, .slice none 0 0, .slice none 0 0, .int .i64 x554003_3, .int .i64 x554004_3, .int .i64 x554005_3, .int .i64 x554006_3]) ?_ 1 _ rfl; (with_reducible repeat (first | refine blk_drewN ?_ _ | refine blk_drew ?_ | refine blk_alloc ?_ _)); refine blk_put (cs := #[.int .i64 x554000_3, .slice none 0 0, .slice none 0 0, .int .i64 x554003_3, .int .i64 x554004_3, .int .i64 x554005_3, .int .i64 x554006_3]) ?_ 0 _ rfl; (with_reducible repeat (first | refine blk_drewN ?_ _ | refine blk_drew ?_ | refine blk_alloc ?_ _)); exact BK553.out) Try.underlying45 rfl (by kernel_rfl)) rfl ?_
           exact ⟨_, _, by first | rfl | (simp [errW_none, errW_some] <;> rfl) | (simp [*, errW_none, errW_some] <;> rfl), by first | exact Kd.S_nil _ _ _ _ _ | exact Kd.N_nil _ _ _ _ _ | exact Kd.V_nil _ _ _ _ _ | exact Kd.Q_nil _ _ _ _ _ | exact Kd.R_nil _ _ _ _ _, by first | exact Kd.R_nil _ _ _ _ _ | exact Kd.N_nil _ _ _ _ _ | exact Kd.V_nil _ _ _ _ _ | exact Kd.Q_nil _ _ _ _ _ | exact Kd.S_nil _ _ _ _ _, by with_reducible repeat (first | exact HB.out | apply below_alloc | apply pw_below_drewN | apply below_drew1 | refine below_set ?_ GE552.out | refine below_set ?_ GE553.out | refine below_set ?_ GE561.out)⟩

end Go.Proofs.Ytahjcmmgdcedpaa.Pa

