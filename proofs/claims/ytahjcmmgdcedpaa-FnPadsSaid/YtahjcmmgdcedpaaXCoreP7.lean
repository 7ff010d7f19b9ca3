-- Written for this claim by a program of this session.
import Derived.Test.YtahjcmmgdcedpaaXPax0
import Derived.Test.YtahjcmmgdcedpaaXCoreP6
import Derived.WalkSpells
import Derived.Test.YtahjcmmgdcedpaaXCoreP1
namespace Go.Proofs.Ytahjcmmgdcedpaa.Pa
open Go.RowKit Go.Proofs.YtahjcmmgdcedpaaW.PrintWords Go.Proofs.YtahjcmmgdcedpaaW.PrintLast Go.Proofs.YtahjcmmgdcedpaaW.PrintMore
attribute [local go_sem] max2_int min2_int max_two min_two max_three min_three max_four min_four   -- for this text's walks alone
set_option linter.unusedVariables false
set_option linter.unusedSimpArgs false

/-! ### impl_PadsOf: function 21 -/
def impl_PadsOf.l0 : Nat → List Int → List Int → List (S77) → Int → Int → Int → List (S56) → List Int → Int → Int → Int → Int → Option (List Int × Bool)
 | 0, _, _, _, _, _, _, _, _, _, _, _, _ => none
 | k + 1, x1, x6, x17, x18, x19, x484000, x484001, x484002, x484003, x484004, x484005, x484006 => if x19 < x18 then (if 0 ≤ x19 then (if x19 < (x17.length : Int) then (if 0 ≤ ((rd_T77 x17 x19).f1) then (if ((rd_T77 x17 x19).f1) < (x6.length : Int) then (if ((rd_T77 x17 x19).f1) < (x1.length : Int) then (if 0 ≤ ((rd_T77 x17 x19).f0) then (if ((rd_T77 x17 x19).f0) < (x1.length : Int) then (impl_PadsOf.l0 k x1 (x6.set (((rd_T77 x17 x19).f1) : Int).toNat (mx (rd x6 ((rd_T77 x17 x19).f1)) (wrap64 ((wrap64 ((wrap64 ((rd x1 ((rd_T77 x17 x19).f1)) + x484004)) - ((rd_T77 x17 x19).f2))) - (rd x1 ((rd_T77 x17 x19).f0)))))) x17 x18 (wrap64 (x19 + 1)) x484000 x484001 x484002 x484003 x484004 x484005 x484006) else (none)) else (none)) else (none)) else (none)) else (none)) else (none)) else (none)) else (some (x6, true))
def impl_PadsOf.f (k : Nat) (a0_0 : Int) (l0_1 : List (S56)) (l0_2 : List Int) (a0_3 : Int) (a0_4 : Int) (a0_5 : Int) (a0_6 : Int) (l1 : List Int) : Option (List Int × Bool) := (impl_areSkews.f a0_0 l0_1 l0_2 a0_3 a0_4 a0_5 a0_6 l1).bind fun t484 => (if t484 = true then (if 0 ≤ a0_0 then (if (a0_0 : Int).toNat ≤ 35184372088832 then ((impl_Circuit_links.f k a0_0 l0_1 l0_2 a0_3 a0_4 a0_5 a0_6).bind fun t488 => (impl_PadsOf.l0 k l1 (List.replicate (a0_0 : Int).toNat 0) t488 (t488.length : Int) 0 a0_0 l0_1 l0_2 a0_3 a0_4 a0_5 a0_6)) else (none)) else (none)) else (some (([] : List Int), false)))
def impl_PadsOf.T7 : Bool × List (List Nat × List Nat) := (true, [([], []), ([], []), ([1], [1]), ([], []), ([], []), ([4], [4]), ([3, 5], [3, 5]), ([6], [6]), ([], []), ([], []), ([9], [9]), ([8, 10], [8, 10]), ([11], [11]), ([], []), ([13], [13]), ([12, 14], [12, 14]), ([], []), ([16], [16]), ([15, 17], [15, 17]), ([], []), ([], []), ([20], [20]), ([19, 21], [19, 21]), ([22], [22]), ([18, 23], [18, 23]), ([7, 24], [7, 24]), ([0, 2, 0, 1, 2, 3, 4, 5, 6, 7, 8, 9, 10, 11, 12, 13, 14, 15, 16, 17, 18, 19, 20, 21, 22, 23, 24, 25], [0, 2]), ([26, 25, 0, 1, 2, 3, 4, 5, 6, 7, 8, 9, 10, 11, 12, 13, 14, 15, 16, 17, 18, 19, 20, 21, 22, 23, 24, 25], [25, 26])])
def impl_PadsOf.B7 : List Nat := [0, 0, 2, 0, 0, 16, 56, 120, 0, 0, 512, 1792, 3840, 0, 8192, 32512, 0, 65536, 261888, 0, 0, 1048576, 3670016, 7864320, 16776960, 33554424, 67108863, 134217727]
theorem impl_PadsOf.tab7 : rtab .any (opsOf Try.f21 7) = impl_PadsOf.T7 := by kernel_rfl
theorem impl_PadsOf.bits7 : waitsOk impl_PadsOf.T7.2 impl_PadsOf.B7 = true := by kernel_rfl
set_option maxHeartbeats 8000000 in
set_option maxRecDepth 100000 in
theorem impl_PadsOf.calls (k : Nat) (a0_0 : Int) (A0_1 : Option Addr) (c0_1 : Nat) (l0_1 : List (S56)) (A0_2 : Option Addr) (c0_2 : Nat) (l0_2 : List Int) (a0_3 : Int) (a0_4 : Int) (a0_5 : Int) (a0_6 : Int) (A1 : Option Addr) (c1 : Nat) (l1 : List Int) (r1 : List Int) (r2 : Bool) (w : World) (hr0_1 : Kd.C k56 w A0_1 l0_1.length l0_1) (hc0_1 : l0_1.length ≤ c0_1) (hr0_2 : Kd.C (Kd.int .i64) w A0_2 l0_2.length l0_2) (hc0_2 : l0_2.length ≤ c0_2) (hr1 : Kd.C (Kd.int .i64) w A1 l1.length l1) (hc1 : l1.length ≤ c1) (h : impl_PadsOf.f k a0_0 l0_1 l0_2 a0_3 a0_4 a0_5 a0_6 l1 = some (r1, r2)) :
  Calls Try.prog 21 #[.agg #[.int .i64 a0_0, .slice A0_1 l0_1.length c0_1, .slice A0_2 l0_2.length c0_2, .int .i64 a0_3, .int .i64 a0_4, .int .i64 a0_5, .int .i64 a0_6], .slice A1 l1.length c1] w fun e w' => ∃ v0_ : Value, e = .returned (.tuple #[v0_, .bool r2]) ∧ Kd.R (Kd.int .i64) 2 w' w.heap.size (fun _ => True) v0_ r1 ∧ Below w.heap.size w w' := by
 have hu45 := Try.underlying45
 have hu77 := Try.underlying77
 have HR0_1 := Aside0.mk hr0_1
 have HC0_1 := Aside0.mk hc0_1
 clear hr0_1 hc0_1
 have HR0_2 := Aside0.mk hr0_2
 have HC0_2 := Aside0.mk hc0_2
 clear hr0_2 hc0_2
 have HR1 := Aside0.mk hr1
 have HC1 := Aside0.mk hc1
 clear hr1 hc1
 have HB := Aside0.mk (Below.refl w.heap.size w)
 have H : ((impl_areSkews.f a0_0 l0_1 l0_2 a0_3 a0_4 a0_5 a0_6 l1).bind fun t484 => (if t484 = true then (if 0 ≤ a0_0 then (if (a0_0 : Int).toNat ≤ 35184372088832 then ((impl_Circuit_links.f k a0_0 l0_1 l0_2 a0_3 a0_4 a0_5 a0_6).bind fun t488 => (impl_PadsOf.l0 k l1 (List.replicate (a0_0 : Int).toNat 0) t488 (t488.length : Int) 0 a0_0 l0_1 l0_2 a0_3 a0_4 a0_5 a0_6)) else (none)) else (none)) else (some (([] : List Int), false)))) = some (r1, r2) := h
 clear h
 replace H := Option.bind_eq_some_iff.mp H
 obtain ⟨t484, A30, H⟩ := H
 try dsimp only at H
 have A3 := Aside0.mk A30
 clear A30
 by_cases c4 : t484 = true
 ·subst c4
  rw [if_pos rfl] at H
  by_cases c5 : 0 ≤ a0_0
  case neg => rw [if_neg c5] at H; exact absurd H (by simp)
  rw [if_pos c5] at H
  have c5b0 := eq_true c5
  have c5b1 : decide (0 ≤ a0_0) = true := decide_eq_true c5
  clear c5
  by_cases c6 : (a0_0 : Int).toNat ≤ 35184372088832
  case neg => rw [if_neg c6] at H; exact absurd H (by simp)
  rw [if_pos c6] at H
  have c6b0 := eq_true c6
  have c6b1 : decide ((a0_0 : Int).toNat ≤ 35184372088832) = true := decide_eq_true c6
  clear c6
  obtain ⟨y485, hy485⟩ : ∃ y_ : List Int, y_ = (List.replicate (a0_0 : Int).toNat 0) := ⟨_, rfl⟩
  (try rw [Option.bind_some] at H); try rw [← hy485] at H
  have Ny485 := Aside0.mk hy485
  clear hy485
  replace H := Option.bind_eq_some_iff.mp H
  obtain ⟨t488, A70, H⟩ := H
  try dsimp only at H
  have A7 := Aside0.mk A70
  clear A70
  have H' := Aside0.mk H
  clear H
  go_enter Try.func21, Try.ntmps21
  go_wp2_with (first | ((with_reducible refine gate_dst (N := 2) rfl ?_); refine box_event ?hg (N := 2) ?hd (cs := #[.int .i64 a0_0, .slice A0_1 l0_1.length c0_1, .slice A0_2 l0_2.length c0_2, .int .i64 a0_3, .int .i64 a0_4, .int .i64 a0_5, .int .i64 a0_6]) (t := 45) ?hr ?_; (case hd => rfl); (case hg => rfl); (case hr => first | (go_simp; done) | (go_simp; rfl)); intro gb483 hg w8 hbox hb; have n0_ := Aside0.mk (below_step (by with_reducible repeat (first | exact HB.out | apply below_alloc | apply pw_below_drewN | apply below_drew1)) hb); have n1_ := Aside0.mk (hbox); have n2_ := Aside0.mk ((by rw [hg]; exact (below_size (by with_reducible repeat (first | exact HB.out | apply below_alloc | apply pw_below_drewN | apply below_drew1))) : w.heap.size ≤ gb483)); have n3_ := Aside0.mk ((by rw [hg]; exact (below_size (by with_reducible repeat (first | exact HB.out | apply below_alloc | apply pw_below_drewN | apply below_drew1))) : w.heap.size ≤ gb483)); clear HB; have HB := n0_; have BK483 := n1_; have GW483 := n2_; have GE483 := n3_; clear n0_ n1_ n2_ n3_; clear hb hbox hg; have hcz9_0 : w8.cell? ⟨gb483, 0, none⟩ = some (.int .i64 a0_0) := (blk_cell BK483.out 0).trans rfl; have hcz9_1 : w8.cell? ⟨gb483, 1, none⟩ = some (.slice A0_1 l0_1.length c0_1) := (blk_cell BK483.out 1).trans rfl; have hcz9_2 : w8.cell? ⟨gb483, 2, none⟩ = some (.slice A0_2 l0_2.length c0_2) := (blk_cell BK483.out 2).trans rfl; have hcz9_3 : w8.cell? ⟨gb483, 3, none⟩ = some (.int .i64 a0_3) := (blk_cell BK483.out 3).trans rfl; have hcz9_4 : w8.cell? ⟨gb483, 4, none⟩ = some (.int .i64 a0_4) := (blk_cell BK483.out 4).trans rfl; have hcz9_5 : w8.cell? ⟨gb483, 5, none⟩ = some (.int .i64 a0_5) := (blk_cell BK483.out 5).trans rfl; have hcz9_6 : w8.cell? ⟨gb483, 6, none⟩ = some (.int .i64 a0_6) := (blk_cell BK483.out 6).trans rfl; have hfz9_0 := blk_frozen BK483.out 0; have hfz9_1 := blk_frozen BK483.out 1; have hfz9_2 := blk_frozen BK483.out 2; have hfz9_3 := blk_frozen BK483.out 3; have hfz9_4 := blk_frozen BK483.out 4; have hfz9_5 := blk_frozen BK483.out 5; have hfz9_6 := blk_frozen BK483.out 6) | ((with_reducible refine gate_callee (f := 48) rfl ?_); refine goesL_ (some 11) rfl rfl Try.func48 (by kernel_rfl) rfl #[.agg #[.int .i64 a0_0, .slice A0_1 l0_1.length c0_1, .slice A0_2 l0_2.length c0_2, .int .i64 a0_3, .int .i64 a0_4, .int .i64 a0_5, .int .i64 a0_6], .slice A1 l1.length c1] rfl (by (try simp only [List.map_toArray, List.map_cons, List.map_nil]); first | done | rfl | (simp only [List.length_drop, List.length_take]; rfl)) ?_; (with_reducible refine (impl_areSkews.calls a0_0 _ _ l0_1 _ _ l0_2 a0_3 a0_4 a0_5 a0_6 _ _ l1 true _ ?side1 ?side2 ?side3 ?side4 ?side5 ?side6 A3.out).mono ?_); (case side1 => repeat (first | exact (Kd.C_below HR0_1.out HB.out) | (with_reducible refine Kd.C_alloc ?_ _) | (with_reducible refine Kd.C_drewN ?_ _) | (with_reducible refine Kd.C_drew ?_))); (case side2 => exact HC0_1.out); (case side3 => repeat (first | exact (Kd.C_below HR0_2.out HB.out) | (with_reducible refine Kd.C_alloc ?_ _) | (with_reducible refine Kd.C_drewN ?_ _) | (with_reducible refine Kd.C_drew ?_))); (case side4 => exact HC0_2.out); (case side5 => repeat (first | exact (Kd.C_below HR1.out HB.out) | (with_reducible refine Kd.C_alloc ?_ _) | (with_reducible refine Kd.C_drewN ?_ _) | (with_reducible refine Kd.C_drew ?_))); (case side6 => exact HC1.out); rintro e w10 ⟨rfl, hb⟩; refine ⟨_, rfl, ?_⟩; have n0_ := Aside0.mk (blk_below (g := gb483) (by (with_reducible repeat (first | refine blk_drewN ?_ _ | refine blk_drew ?_ | refine blk_alloc ?_ _)); exact BK483.out) hb); have n1_ := Aside0.mk (below_step (by with_reducible repeat (first | exact HB.out | apply below_alloc | apply pw_below_drewN | apply below_drew1 | refine below_set ?_ GE483.out)) hb); clear BK483; clear HB; have BK483 := n0_; have HB := n1_; clear n0_ n1_; (try clear hb); (try clear hb2); (try clear hk); (try clear hi); have hcz11_0 : w10.cell? ⟨gb483, 0, none⟩ = some (.int .i64 a0_0) := (blk_cell BK483.out 0).trans rfl; have hcz11_1 : w10.cell? ⟨gb483, 1, none⟩ = some (.slice A0_1 l0_1.length c0_1) := (blk_cell BK483.out 1).trans rfl; have hcz11_2 : w10.cell? ⟨gb483, 2, none⟩ = some (.slice A0_2 l0_2.length c0_2) := (blk_cell BK483.out 2).trans rfl; have hcz11_3 : w10.cell? ⟨gb483, 3, none⟩ = some (.int .i64 a0_3) := (blk_cell BK483.out 3).trans rfl; have hcz11_4 : w10.cell? ⟨gb483, 4, none⟩ = some (.int .i64 a0_4) := (blk_cell BK483.out 4).trans rfl; have hcz11_5 : w10.cell? ⟨gb483, 5, none⟩ = some (.int .i64 a0_5) := (blk_cell BK483.out 5).trans rfl; have hcz11_6 : w10.cell? ⟨gb483, 6, none⟩ = some (.int .i64 a0_6) := (blk_cell BK483.out 6).trans rfl; have hfz11_0 := blk_frozen BK483.out 0; have hfz11_1 := blk_frozen BK483.out 1; have hfz11_2 := blk_frozen BK483.out 2; have hfz11_3 := blk_frozen BK483.out 3; have hfz11_4 := blk_frozen BK483.out 4; have hfz11_5 := blk_frozen BK483.out 5; have hfz11_6 := blk_frozen BK483.out 6) | ((with_reducible refine gate_dst (N := 15) rfl ?_); refine Kd.R_make (Kd.int .i64) _ 2 rfl (N := 15) rfl 28 _ _ rfl a0_0 rfl rfl Try.underlying28 (.int .i64 0) 8 info2 rfl (by decide) (by omega) 0 (ok := fun _ => True) (okp := fun _ => True) rfl (fun _ hk => hk) trivial (of_decide_eq_true (by with_reducible assumption)) (Nat.le_trans (Nat.mul_le_mul_right _ (of_decide_eq_true (by with_reducible assumption) : a0_0.toNat ≤ 35184372088832)) (by omega)) (Below.refl _ _) (Nat.le_refl _) ?_; intro v486 w12 ho13 hb hg_ hnew_; clear hg_ hnew_; (first | rw [← Ny485.out] at ho13 | (simp only [Int.reduceToNat] at ho13; rw [← Ny485.out] at ho13)); have n0_ := Aside0.mk (Kd.R_lower ho13 (below_size (by with_reducible repeat (first | exact HB.out | apply below_alloc | apply pw_below_drewN | apply below_drew1 | refine below_set ?_ GE483.out)))); have n1_ := Aside0.mk (blk_below (g := gb483) (by (with_reducible repeat (first | refine blk_drewN ?_ _ | refine blk_drew ?_ | refine blk_alloc ?_ _)); exact BK483.out) hb); have n2_ := Aside0.mk (below_step (by with_reducible repeat (first | exact HB.out | apply below_alloc | apply pw_below_drewN | apply below_drew1 | refine below_set ?_ GE483.out)) hb); clear BK483; clear HB; have HO487 := n0_; have BK483 := n1_; have HB := n2_; clear n0_ n1_ n2_; clear hb ho13; have hcz14_0 : w12.cell? ⟨gb483, 0, none⟩ = some (.int .i64 a0_0) := (blk_cell BK483.out 0).trans rfl; have hcz14_1 : w12.cell? ⟨gb483, 1, none⟩ = some (.slice A0_1 l0_1.length c0_1) := (blk_cell BK483.out 1).trans rfl; have hcz14_2 : w12.cell? ⟨gb483, 2, none⟩ = some (.slice A0_2 l0_2.length c0_2) := (blk_cell BK483.out 2).trans rfl; have hcz14_3 : w12.cell? ⟨gb483, 3, none⟩ = some (.int .i64 a0_3) := (blk_cell BK483.out 3).trans rfl; have hcz14_4 : w12.cell? ⟨gb483, 4, none⟩ = some (.int .i64 a0_4) := (blk_cell BK483.out 4).trans rfl; have hcz14_5 : w12.cell? ⟨gb483, 5, none⟩ = some (.int .i64 a0_5) := (blk_cell BK483.out 5).trans rfl; have hcz14_6 : w12.cell? ⟨gb483, 6, none⟩ = some (.int .i64 a0_6) := (blk_cell BK483.out 6).trans rfl; have hfz14_0 := blk_frozen BK483.out 0; have hfz14_1 := blk_frozen BK483.out 1; have hfz14_2 := blk_frozen BK483.out 2; have hfz14_3 := blk_frozen BK483.out 3; have hfz14_4 := blk_frozen BK483.out 4; have hfz14_5 := blk_frozen BK483.out 5; have hfz14_6 := blk_frozen BK483.out 6) | ((with_reducible refine gate_callee (f := 49) rfl ?_); refine goesL_ (some 17) rfl rfl Try.func49 (by kernel_rfl) rfl #[.agg #[.int .i64 a0_0, .slice A0_1 l0_1.length c0_1, .slice A0_2 l0_2.length c0_2, .int .i64 a0_3, .int .i64 a0_4, .int .i64 a0_5, .int .i64 a0_6]] rfl (by (try simp only [List.map_toArray, List.map_cons, List.map_nil]); first | done | rfl | (simp only [List.length_drop, List.length_take]; rfl)) ?_; (with_reducible refine (impl_Circuit_links.calls k a0_0 _ _ l0_1 _ _ l0_2 a0_3 a0_4 a0_5 a0_6 t488 _ ?side1 ?side2 ?side3 ?side4 A7.out).mono ?_); (case side1 => repeat (first | exact (Kd.C_below HR0_1.out HB.out) | (with_reducible refine Kd.C_alloc ?_ _) | (with_reducible refine Kd.C_drewN ?_ _) | (with_reducible refine Kd.C_drew ?_))); (case side2 => exact HC0_1.out); (case side3 => repeat (first | exact (Kd.C_below HR0_2.out HB.out) | (with_reducible refine Kd.C_alloc ?_ _) | (with_reducible refine Kd.C_drewN ?_ _) | (with_reducible refine Kd.C_drew ?_))); (case side4 => exact HC0_2.out); rintro e w15 ⟨v489, rfl, ho0, hb⟩; refine ⟨_, rfl, ?_⟩; have n0_ := Aside0.mk (Kd.R_below (by (with_reducible repeat (first | apply Kd.R_alloc | apply Kd.R_drewN | apply Kd.R_drew)); exact HO487.out) hb); have n1_ := Aside0.mk (Kd.R_lower ho0 (below_size (by with_reducible repeat (first | exact HB.out | apply below_alloc | apply pw_below_drewN | apply below_drew1 | refine below_set ?_ GE483.out)))); have n2_ := Aside0.mk (blk_below (g := gb483) (by (with_reducible repeat (first | refine blk_drewN ?_ _ | refine blk_drew ?_ | refine blk_alloc ?_ _)); exact BK483.out) hb); have n3_ := Aside0.mk (below_step (by with_reducible repeat (first | exact HB.out | apply below_alloc | apply pw_below_drewN | apply below_drew1 | refine below_set ?_ GE483.out)) hb); clear HO487; clear BK483; clear HB; have HO487 := n0_; have HO490 := n1_; have BK483 := n2_; have HB := n3_; clear n0_ n1_ n2_ n3_; (try clear hb); (try clear hb2); (try clear hk); (try clear hi); (try clear ho0); obtain ⟨Ao16, co16, eo16⟩ := Kd.R_slice HO490.out; subst eo16))
  go_loopg [19] k (fun kq v19 w' => ∃ (x6_1 : List Int) (x19_1 : Int), v19 = .int .i64 x19_1 ∧ Aside0 (impl_PadsOf.l0 kq l1 x6_1 t488 (t488.length : Int) x19_1 a0_0 l0_1 l0_2 a0_3 a0_4 a0_5 a0_6 = some (r1, r2)) ∧ Aside0 (kq ≤ k) ∧ Aside0 (Kd.R (Kd.int .i64) 2 w' w.heap.size (fun _ => True) v486 x6_1) ∧ Aside0 (Kd.R k77 77 w' w.heap.size (fun _ => True) (.slice Ao16 t488.length co16) t488) ∧ Aside0 (w'.heap[gb483]? = some (.cells #[.int .i64 a0_0, (.slice A0_1 l0_1.length c0_1), (.slice A0_2 l0_2.length c0_2), .int .i64 a0_3, .int .i64 a0_4, .int .i64 a0_5, .int .i64 a0_6] 45 (0, 0))) ∧ Aside0 (Below w.heap.size w w'))
  case atStart => exact ⟨(y485), (0), (by first | rfl | (simp; done) | (simp [*]; done)), H', ⟨Nat.le_refl _⟩, ⟨by (with_reducible repeat (first | apply Kd.R_alloc | apply Kd.R_drewN | apply Kd.R_drew)); exact HO487.out⟩, ⟨by (with_reducible repeat (first | apply Kd.R_alloc | apply Kd.R_drewN | apply Kd.R_drew)); exact HO490.out⟩, ⟨by (with_reducible repeat (first | refine blk_drewN ?_ _ | refine blk_drew ?_ | refine blk_alloc ?_ _)); exact BK483.out⟩, ⟨by with_reducible repeat (first | exact HB.out | apply below_alloc | apply pw_below_drewN | apply below_drew1 | refine below_set ?_ GE483.out)⟩⟩
  case round =>
   clear H'
   try clear c1
   try clear c2
   try clear p2
   try clear c4
   try clear c5
   try clear c5b0
   try clear c5b1
   try clear c6
   try clear c6b0
   try clear c6b1
   try clear hcz11_0
   try clear hcz11_1
   try clear hcz11_2
   try clear hcz11_3
   try clear hcz11_4
   try clear hcz11_5
   try clear hcz11_6
   try clear hcz14_0
   try clear hcz14_1
   try clear hcz14_2
   try clear hcz14_3
   try clear hcz14_4
   try clear hcz14_5
   try clear hcz14_6
   try clear hcz9_0
   try clear hcz9_1
   try clear hcz9_2
   try clear hcz9_3
   try clear hcz9_4
   try clear hcz9_5
   try clear hcz9_6
   try clear hfz11_0
   try clear hfz11_1
   try clear hfz11_2
   try clear hfz11_3
   try clear hfz11_4
   try clear hfz11_5
   try clear hfz11_6
   try clear hfz14_0
   try clear hfz14_1
   try clear hfz14_2
   try clear hfz14_3
   try clear hfz14_4
   try clear hfz14_5
   try clear hfz14_6
   try clear hfz9_0
   try clear hfz9_1
   try clear hfz9_2
   try clear hfz9_3
   try clear hfz9_4
   try clear hfz9_5
   try clear hfz9_6
   obtain ⟨x6_1, x19_1, rfl, HA, HK1, HO_6, HO_17, BK483, HB⟩ := hrel
   cases gk with
   | zero => exact absurd HA.out (by simp [impl_PadsOf.l0])
   | succ k1 =>
    have H := HA.out
    clear HA
    simp only [impl_PadsOf.l0] at H
    by_cases c17 : x19_1 < (t488.length : Int)
    ·rw [if_pos c17] at H
     have c17b0 : decide (x19_1 < (t488.length : Int)) = true := decide_eq_true c17
     clear c17
     by_cases c18 : 0 ≤ x19_1
     case neg => rw [if_neg c18] at H; exact absurd H (by simp)
     rw [if_pos c18] at H
     have c18b0 : decide (0 ≤ x19_1) = true := decide_eq_true c18
     clear c18
     by_cases c19 : x19_1 < (t488.length : Int)
     case neg => rw [if_neg c19] at H; exact absurd H (by simp)
     rw [if_pos c19] at H
     have c19b0 : decide (x19_1 < (t488.length : Int)) = true := decide_eq_true c19
     clear c19
     by_cases c20 : 0 ≤ ((rd_T77 t488 x19_1).f1)
     case neg => rw [if_neg c20] at H; exact absurd H (by simp)
     rw [if_pos c20] at H
     have c20b0 : decide (0 ≤ ((rd_T77 t488 x19_1).f1)) = true := decide_eq_true c20
     clear c20
     by_cases c21 : ((rd_T77 t488 x19_1).f1) < (x6_1.length : Int)
     case neg => rw [if_neg c21] at H; exact absurd H (by simp)
     rw [if_pos c21] at H
     have c21b0 : decide (((rd_T77 t488 x19_1).f1) < (x6_1.length : Int)) = true := decide_eq_true c21
     clear c21
     by_cases c22 : ((rd_T77 t488 x19_1).f1) < (l1.length : Int)
     case neg => rw [if_neg c22] at H; exact absurd H (by simp)
     rw [if_pos c22] at H
     have c22b0 : decide (((rd_T77 t488 x19_1).f1) < (l1.length : Int)) = true := decide_eq_true c22
     clear c22
     by_cases c23 : 0 ≤ ((rd_T77 t488 x19_1).f0)
     case neg => rw [if_neg c23] at H; exact absurd H (by simp)
     rw [if_pos c23] at H
     have c23b0 : decide (0 ≤ ((rd_T77 t488 x19_1).f0)) = true := decide_eq_true c23
     clear c23
     by_cases c24 : ((rd_T77 t488 x19_1).f0) < (l1.length : Int)
     case neg => rw [if_neg c24] at H; exact absurd H (by simp)
     rw [if_pos c24] at H
     have c24b0 : decide (((rd_T77 t488 x19_1).f0) < (l1.length : Int)) = true := decide_eq_true c24
     clear c24
     obtain ⟨ji25, hji25⟩ : ∃ j_ : Int, (mx (rd x6_1 ((rd_T77 t488 x19_1).f1)) (wrap64 ((wrap64 ((wrap64 ((rd l1 ((rd_T77 t488 x19_1).f1)) + a0_4)) - ((rd_T77 t488 x19_1).f2))) - (rd l1 ((rd_T77 t488 x19_1).f0))))) = j_ := ⟨_, rfl⟩
     first | rw [hji25] at H | simp only [hji25] at H
     have hji25_ : (if (rd x6_1 ((rd_T77 t488 x19_1).f1)) < (wrap64 ((wrap64 ((wrap64 ((rd l1 ((rd_T77 t488 x19_1).f1)) + a0_4)) - ((rd_T77 t488 x19_1).f2))) - (rd l1 ((rd_T77 t488 x19_1).f0)))) then (wrap64 ((wrap64 ((wrap64 ((rd l1 ((rd_T77 t488 x19_1).f1)) + a0_4)) - ((rd_T77 t488 x19_1).f2))) - (rd l1 ((rd_T77 t488 x19_1).f0)))) else (rd x6_1 ((rd_T77 t488 x19_1).f1))) = ji25 := hji25
     obtain ⟨y496, hy496⟩ : ∃ y_ : List Int, y_ = (x6_1.set (((rd_T77 t488 x19_1).f1) : Int).toNat (ji25)) := ⟨_, rfl⟩
     (try rw [Option.bind_some] at H); try rw [← hy496] at H
     have Ny496 := Aside0.mk hy496
     clear hy496
     have H' := Aside0.mk H
     clear H
     have p491 : 0 ≤ (x19_1 : Int) := of_decide_eq_true (by with_reducible assumption)
     have q491 : x19_1 < (t488.length : Int) := of_decide_eq_true (by with_reducible assumption)
     obtain ⟨ad491, e491, hx491_0, hx491_1, hx491_2, hx491_3⟩ := at_T77 (Kd.R_reads' HO_17.out).2.2 x19_1 p491 q491
     cases e491
     replace p491 := eq_true p491
     replace q491 := eq_true q491
     try go_wp2_with (first | ((with_reducible refine gate_dst (N := 8) rfl ?_); refine box_event ?hg (N := 8) ?hd (cs := #[.int .i64 0, .int .i64 0, .int .i64 0, .int .i64 0]) (t := 77) ?hr ?_; (case hd => rfl); (case hg => rfl); (case hr => first | (go_simp; done) | (go_simp; rfl)); intro gb492 hg w27 hbox hb; have n0_ := Aside0.mk (Kd.R_below (by (with_reducible repeat (first | apply Kd.R_alloc | apply Kd.R_drewN | apply Kd.R_drew)); exact HO_6.out) hb); have n1_ := Aside0.mk (Kd.R_below (Kd.R_elderB (by (with_reducible repeat (first | apply Kd.R_alloc | apply Kd.R_drewN | apply Kd.R_drew)); exact HO_17.out) gb492 (Nat.le_of_eq hg.symm)) hb); have n2_ := Aside0.mk (blk_below (g := gb483) (by (with_reducible repeat (first | refine blk_drewN ?_ _ | refine blk_drew ?_ | refine blk_alloc ?_ _)); exact BK483.out) hb); have n3_ := Aside0.mk (below_step (by with_reducible repeat (first | exact HB.out | apply below_alloc | apply pw_below_drewN | apply below_drew1 | refine below_set ?_ GE483.out)) hb); have n4_ := Aside0.mk (hbox); have n5_ := Aside0.mk ((by rw [hg]; exact (below_size (by with_reducible repeat (first | exact HB.out | apply below_alloc | apply pw_below_drewN | apply below_drew1 | refine below_set ?_ GE483.out))) : w.heap.size ≤ gb492)); have n6_ := Aside0.mk ((by rw [hg]; exact (below_size (by with_reducible repeat (first | exact HB.out | apply below_alloc | apply pw_below_drewN | apply below_drew1 | refine below_set ?_ GE483.out))) : w.heap.size ≤ gb492)); have n7_ := Aside0.mk ((by rw [hg]; exact Nat.ne_of_lt (blk_lt (g := gb483) (by (with_reducible repeat (first | refine blk_drewN ?_ _ | refine blk_drew ?_ | refine blk_alloc ?_ _)); exact BK483.out)) : gb483 ≠ gb492)); have n8_ := Aside0.mk ((by rw [hg]; exact Nat.ne_of_gt (blk_lt (g := gb483) (by (with_reducible repeat (first | refine blk_drewN ?_ _ | refine blk_drew ?_ | refine blk_alloc ?_ _)); exact BK483.out)) : gb492 ≠ gb483)); clear HO_6; clear HO_17; clear BK483; clear HB; have HO_6 := n0_; have HO_17 := n1_; have BK483 := n2_; have HB := n3_; have BK492 := n4_; have GW492 := n5_; have GE492 := n6_; have NB483_492 := n7_; have NB492_483 := n8_; clear n0_ n1_ n2_ n3_ n4_ n5_ n6_ n7_ n8_; clear hb hbox hg; have hnb28 := NB492_483.out; have hnc28 := NB483_492.out; have hcz29_0 : w27.cell? ⟨gb492, 0, none⟩ = some (.int .i64 0) := (blk_cell BK492.out 0).trans rfl; have hcz29_1 : w27.cell? ⟨gb492, 1, none⟩ = some (.int .i64 0) := (blk_cell BK492.out 1).trans rfl; have hcz29_2 : w27.cell? ⟨gb492, 2, none⟩ = some (.int .i64 0) := (blk_cell BK492.out 2).trans rfl; have hcz29_3 : w27.cell? ⟨gb492, 3, none⟩ = some (.int .i64 0) := (blk_cell BK492.out 3).trans rfl; have hfz29_0 := blk_frozen BK492.out 0; have hfz29_1 := blk_frozen BK492.out 1; have hfz29_2 := blk_frozen BK492.out 2; have hfz29_3 := blk_frozen BK492.out 3))
     have n0_ : Aside0 (Kd.R (Kd.int .i64) 2 ((((w27.setCell ⟨gb492, 0, none⟩ (.int .i64 ((rd_T77 t488 x19_1).f0))).setCell ⟨gb492, 1, none⟩ (.int .i64 ((rd_T77 t488 x19_1).f1))).setCell ⟨gb492, 2, none⟩ (.int .i64 ((rd_T77 t488 x19_1).f2))).setCell ⟨gb492, 3, none⟩ (.int .i64 ((rd_T77 t488 x19_1).f3))) w.heap.size (fun _ => True) v486 x6_1) := ⟨by (with_reducible repeat (first | apply Kd.R_alloc | apply Kd.R_drewN | apply Kd.R_drew)); exact Kd.R_mono (Kd.R_far (p := ⟨gb492, 3, none⟩) (Kd.R_far (p := ⟨gb492, 2, none⟩) (Kd.R_far (p := ⟨gb492, 1, none⟩) (Kd.R_far (p := ⟨gb492, 0, none⟩) (Kd.R_types HO_6.out BK492.out (by decide)) (fun _ hk => hk.2) (.int .i64 ((rd_T77 t488 x19_1).f0))) (fun _ hk => hk.2) (.int .i64 ((rd_T77 t488 x19_1).f1))) (fun _ hk => hk.2) (.int .i64 ((rd_T77 t488 x19_1).f2))) (fun _ hk => hk.2) (.int .i64 ((rd_T77 t488 x19_1).f3))) (fun _ hk => trivial)⟩
     have n1_ : Aside0 (Kd.R k77 77 ((((w27.setCell ⟨gb492, 0, none⟩ (.int .i64 ((rd_T77 t488 x19_1).f0))).setCell ⟨gb492, 1, none⟩ (.int .i64 ((rd_T77 t488 x19_1).f1))).setCell ⟨gb492, 2, none⟩ (.int .i64 ((rd_T77 t488 x19_1).f2))).setCell ⟨gb492, 3, none⟩ (.int .i64 ((rd_T77 t488 x19_1).f3))) w.heap.size (fun k_ => k_ ≠ gb492) (.slice (some ad491) t488.length co16) t488) := ⟨by (with_reducible repeat (first | apply Kd.R_alloc | apply Kd.R_drewN | apply Kd.R_drew)); exact Kd.R_mono (Kd.R_far (p := ⟨gb492, 3, none⟩) (Kd.R_far (p := ⟨gb492, 2, none⟩) (Kd.R_far (p := ⟨gb492, 1, none⟩) (Kd.R_far (p := ⟨gb492, 0, none⟩) (Kd.R_mono HO_17.out (fun k_ hk => (⟨hk, hk.2⟩ : _ ∧ k_ ≠ gb492))) (fun _ hk => hk.2) (.int .i64 ((rd_T77 t488 x19_1).f0))) (fun _ hk => hk.2) (.int .i64 ((rd_T77 t488 x19_1).f1))) (fun _ hk => hk.2) (.int .i64 ((rd_T77 t488 x19_1).f2))) (fun _ hk => hk.2) (.int .i64 ((rd_T77 t488 x19_1).f3))) (fun _ hk => hk.1.2)⟩
     have n2_ : Aside0 (((((w27.setCell ⟨gb492, 0, none⟩ (.int .i64 ((rd_T77 t488 x19_1).f0))).setCell ⟨gb492, 1, none⟩ (.int .i64 ((rd_T77 t488 x19_1).f1))).setCell ⟨gb492, 2, none⟩ (.int .i64 ((rd_T77 t488 x19_1).f2))).setCell ⟨gb492, 3, none⟩ (.int .i64 ((rd_T77 t488 x19_1).f3))).heap[gb483]? = some (.cells #[.int .i64 a0_0, .slice A0_1 l0_1.length c0_1, .slice A0_2 l0_2.length c0_2, .int .i64 a0_3, .int .i64 a0_4, .int .i64 a0_5, .int .i64 a0_6] 45 (0, 0))) := ⟨by (with_reducible repeat (first | refine blk_drewN ?_ _ | refine blk_drew ?_ | refine blk_alloc ?_ _)); refine blk_far ?_ NB483_492.out _; (with_reducible repeat (first | refine blk_drewN ?_ _ | refine blk_drew ?_ | refine blk_alloc ?_ _)); refine blk_far ?_ NB483_492.out _; (with_reducible repeat (first | refine blk_drewN ?_ _ | refine blk_drew ?_ | refine blk_alloc ?_ _)); refine blk_far ?_ NB483_492.out _; (with_reducible repeat (first | refine blk_drewN ?_ _ | refine blk_drew ?_ | refine blk_alloc ?_ _)); refine blk_far ?_ NB483_492.out _; (with_reducible repeat (first | refine blk_drewN ?_ _ | refine blk_drew ?_ | refine blk_alloc ?_ _)); exact BK483.out⟩
     have n3_ : Aside0 (((((w27.setCell ⟨gb492, 0, none⟩ (.int .i64 ((rd_T77 t488 x19_1).f0))).setCell ⟨gb492, 1, none⟩ (.int .i64 ((rd_T77 t488 x19_1).f1))).setCell ⟨gb492, 2, none⟩ (.int .i64 ((rd_T77 t488 x19_1).f2))).setCell ⟨gb492, 3, none⟩ (.int .i64 ((rd_T77 t488 x19_1).f3))).heap[gb492]? = some (.cells #[.int .i64 ((rd_T77 t488 x19_1).f0), .int .i64 ((rd_T77 t488 x19_1).f1), .int .i64 ((rd_T77 t488 x19_1).f2), .int .i64 ((rd_T77 t488 x19_1).f3)] 77 (0, 0))) := ⟨by (with_reducible repeat (first | refine blk_drewN ?_ _ | refine blk_drew ?_ | refine blk_alloc ?_ _)); refine blk_put (cs := #[.int .i64 ((rd_T77 t488 x19_1).f0), .int .i64 ((rd_T77 t488 x19_1).f1), .int .i64 ((rd_T77 t488 x19_1).f2), .int .i64 0]) ?_ 3 _ rfl; (with_reducible repeat (first | refine blk_drewN ?_ _ | refine blk_drew ?_ | refine blk_alloc ?_ _)); refine blk_put (cs := #[.int .i64 ((rd_T77 t488 x19_1).f0), .int .i64 ((rd_T77 t488 x19_1).f1), .int .i64 0, .int .i64 0]) ?_ 2 _ rfl; (with_reducible repeat (first | refine blk_drewN ?_ _ | refine blk_drew ?_ | refine blk_alloc ?_ _)); refine blk_put (cs := #[.int .i64 ((rd_T77 t488 x19_1).f0), .int .i64 0, .int .i64 0, .int .i64 0]) ?_ 1 _ rfl; (with_reducible repeat (first | refine blk_drewN ?_ _ | refine blk_drew ?_ | refine blk_alloc ?_ _)); refine blk_put (cs := #[.int .i64 0, .int .i64 0, .int .i64 0, .int .i64 0]) ?_ 0 _ rfl; (with_reducible repeat (first | refine blk_drewN ?_ _ | refine blk_drew ?_ | refine blk_alloc ?_ _)); exact BK492.out⟩
     have n4_ : Aside0 (Below w.heap.size w ((((w27.setCell ⟨gb492, 0, none⟩ (.int .i64 ((rd_T77 t488 x19_1).f0))).setCell ⟨gb492, 1, none⟩ (.int .i64 ((rd_T77 t488 x19_1).f1))).setCell ⟨gb492, 2, none⟩ (.int .i64 ((rd_T77 t488 x19_1).f2))).setCell ⟨gb492, 3, none⟩ (.int .i64 ((rd_T77 t488 x19_1).f3)))) := ⟨by with_reducible repeat (first | exact HB.out | apply below_alloc | apply pw_below_drewN | apply below_drew1 | refine below_set ?_ GE483.out | refine below_set ?_ GE492.out)⟩
     (try clear HO_6)
     (try clear HO_17)
     (try clear BK483)
     (try clear BK492)
     (try clear HB)
     generalize ((((w27.setCell ⟨gb492, 0, none⟩ (.int .i64 ((rd_T77 t488 x19_1).f0))).setCell ⟨gb492, 1, none⟩ (.int .i64 ((rd_T77 t488 x19_1).f1))).setCell ⟨gb492, 2, none⟩ (.int .i64 ((rd_T77 t488 x19_1).f2))).setCell ⟨gb492, 3, none⟩ (.int .i64 ((rd_T77 t488 x19_1).f3))) = w30 at n0_ n1_ n2_ n3_ n4_ ⊢
     have HO_6 := n0_
     have HO_17 := n1_
     have BK483 := n2_
     have BK492 := n3_
     have HB := n4_
     clear n0_ n1_ n2_ n3_ n4_
     have n0_ := Aside0.mk (Kd.R_drew HO_6.out)
     have n1_ := Aside0.mk (Kd.R_drew HO_17.out)
     have n2_ := Aside0.mk (blk_drew BK483.out)
     have n3_ := Aside0.mk (blk_drew BK492.out)
     have n4_ := Aside0.mk (below_drew1 HB.out)
     clear HO_6
     clear HO_17
     clear BK483
     clear BK492
     clear HB
     have HO_6 := n0_
     have HO_17 := n1_
     have BK483 := n2_
     have BK492 := n3_
     have HB := n4_
     clear n0_ n1_ n2_ n3_ n4_
     obtain ⟨Ao32, co32, eo32⟩ := Kd.R_slice HO_6.out
     (first | subst eo32 | (injection eo32 with f1_ f2_ f3_; have f4_ := f1_.symm; have f5_ := f3_.symm; clear f1_ f2_ f3_; subst f4_; subst f5_))
     have p493 : 0 ≤ (((rd_T77 t488 x19_1).f1) : Int) := of_decide_eq_true (by with_reducible assumption)
     have q493 : ((rd_T77 t488 x19_1).f1) < (x6_1.length : Int) := of_decide_eq_true (by with_reducible assumption)
     obtain ⟨ad493, e493, hx493_0⟩ := Kd.at_int (Kd.R_reads' HO_6.out).2.2 ((rd_T77 t488 x19_1).f1) p493 q493
     cases e493
     replace p493 := eq_true p493
     replace q493 := eq_true q493
     have p494 : 0 ≤ (((rd_T77 t488 x19_1).f1) : Int) := of_decide_eq_true (by with_reducible assumption)
     have q494 : ((rd_T77 t488 x19_1).f1) < (l1.length : Int) := of_decide_eq_true (by with_reducible assumption)
     obtain ⟨ad494, e494, hx494_0⟩ := Kd.at_int HR1.out ((rd_T77 t488 x19_1).f1) p494 q494
     have hw494_0 := hx494_0
     cases e494
     replace hx494_0 := (HB.out.cell (World.block_lt_of_cell? w _ hx494_0)).trans hx494_0
     replace p494 := eq_true p494
     replace q494 := eq_true q494
     have p495 : 0 ≤ (((rd_T77 t488 x19_1).f0) : Int) := of_decide_eq_true (by with_reducible assumption)
     have q495 : ((rd_T77 t488 x19_1).f0) < (l1.length : Int) := of_decide_eq_true (by with_reducible assumption)
     obtain ⟨ad495, e495, hx495_0⟩ := Kd.at_int HR1.out ((rd_T77 t488 x19_1).f0) p495 q495
     have hw495_0 := hx495_0
     obtain rfl : ad494 = ad495 := (by injection e495)
     replace hx495_0 := (HB.out.cell (World.block_lt_of_cell? w _ hx495_0)).trans hx495_0
     replace p495 := eq_true p495
     replace q495 := eq_true q495
     have p26 : 0 ≤ (((rd_T77 t488 x19_1).f1) : Int) := of_decide_eq_true (by with_reducible assumption)
     have q26 : (((rd_T77 t488 x19_1).f1) : Int) < ((x6_1.length : Int) : Int) := of_decide_eq_true (by with_reducible assumption)
     obtain ⟨go26, co26, eo26, gb26, gl26, cl26, HG26⟩ := Kd.R_form HO_6.out (by omega)
     (first | cases eo26 | (injection eo26 with ea_ en_ ec_; (first | subst ea_ | (injection ea_ with ea_; subst ea_)); subst ec_; clear en_))
     have GB26 := Aside0.mk gb26
     have GG26 := Aside0.mk HG26
     clear gb26 gl26 HG26
     (first | simp only [add_plain] at hx493_0 | skip)
     obtain ⟨hx26_0, hf26_0⟩ := Kd.R_celln 0 HO_6.out (((rd_T77 t488 x19_1).f1) : Int) p26 q26
     replace p26 := eq_true p26
     replace q26 := eq_true q26
     have HP33 := Kd.R_putn HO_6.out (((rd_T77 t488 x19_1).f1) : Int) ji25
     rw [← Ny496.out] at HP33
     have HQ33 := Aside0.mk HP33
     clear HP33
     refine start_ (n := 28) (S := fun w' => w'.cell? ⟨gb492, 0, none⟩ = some (.int .i64 ((rd_T77 t488 x19_1).f0)) ∧ w'.cell? ⟨gb492, 1, none⟩ = some (.int .i64 ((rd_T77 t488 x19_1).f1)) ∧ w'.cell? ⟨gb492, 2, none⟩ = some (.int .i64 ((rd_T77 t488 x19_1).f2)) ∧ w'.cell? ⟨gb492, 3, none⟩ = some (.int .i64 ((rd_T77 t488 x19_1).f3)) ∧ w'.cell? ⟨gb483, 0, none⟩ = some (.int .i64 a0_0) ∧ w'.cell? ⟨gb483, 1, none⟩ = some (.slice A0_1 l0_1.length c0_1) ∧ w'.cell? ⟨gb483, 2, none⟩ = some (.slice A0_2 l0_2.length c0_2) ∧ w'.cell? ⟨gb483, 3, none⟩ = some (.int .i64 a0_3) ∧ w'.cell? ⟨gb483, 4, none⟩ = some (.int .i64 a0_4) ∧ w'.cell? ⟨gb483, 5, none⟩ = some (.int .i64 a0_5) ∧ w'.cell? ⟨gb483, 6, none⟩ = some (.int .i64 a0_6) ∧ w'.cell? ((⟨go26, (((rd_T77 t488 x19_1).f1)).toNat, none⟩ : Addr)) = some (.int .i64 (rd x6_1 ((rd_T77 t488 x19_1).f1))) ∧ w'.cell? (ad494.add (((rd_T77 t488 x19_1).f1)).toNat) = some (.int .i64 (rd l1 ((rd_T77 t488 x19_1).f1))) ∧ w'.cell? (ad494.add (((rd_T77 t488 x19_1).f0)).toNat) = some (.int .i64 (rd l1 ((rd_T77 t488 x19_1).f0)))) (ds := [27]) #[false, false, false, false, false, false, false, false, false, false, false, false, false, false, false, false, false, false, false, false, false, false, false, false, false, false, false, false] (by kernel_rfl) rfl rfl ⟨(blk_cell BK492.out 0).trans rfl, (blk_cell BK492.out 1).trans rfl, (blk_cell BK492.out 2).trans rfl, (blk_cell BK492.out 3).trans rfl, (blk_cell BK483.out 0).trans rfl, (blk_cell BK483.out 1).trans rfl, (blk_cell BK483.out 2).trans rfl, (blk_cell BK483.out 3).trans rfl, (blk_cell BK483.out 4).trans rfl, (blk_cell BK483.out 5).trans rfl, (blk_cell BK483.out 6).trans rfl, hx493_0, ((HB.out.cell (World.block_lt_of_cell? w _ hw494_0)).trans hw494_0), ((HB.out.cell (World.block_lt_of_cell? w _ hw495_0)).trans hw495_0)⟩ (fun hHeld => ?_); refine with_tabW impl_PadsOf.tab7 impl_PadsOf.bits7 (fun HT_ HW_ => ?_)
     generalize w30.drew = w31 at HO_6 HO_17 BK483 BK492 HB GG26 HQ33 hf26_0 hx26_0 hx493_0 hx494_0 hx495_0 hHeld ⊢
     refine pure_ (i := 0) (N := some 23) (v := ?_) (a' := ?_) #[true, false, false, false, false, false, false, false, false, false, false, false, false, false, false, false, false, false, false, false, false, false, false, false, false, false, false, false] rfl rfl (any_of HT_.out (by kernel_rfl)) (fun _ _ _ h => h) (Or.inl ⟨by rfl, ?_⟩) ?_ ?_
     rotate_left
     ·intro w'
      go_simp
      with_reducible rfl
     rotate_left
     ·simp only [Act.put, List.setIfInBounds_toArray, List.set_cons_zero, List.set_cons_succ, i64_w, i32_w]
      rfl
     refine pure_ (i := 1) (N := some 24) (v := ?_) (a' := ?_) #[true, true, false, false, false, false, false, false, false, false, false, false, false, false, false, false, false, false, false, false, false, false, false, false, false, false, false, false] rfl rfl (any_of HT_.out (by kernel_rfl)) (fun _ _ _ h => h) (Or.inl ⟨by rfl, ?_⟩) ?_ ?_
     rotate_left
     ·intro w'
      go_simp
      with_reducible rfl
     rotate_left
     ·simp only [Act.put, List.setIfInBounds_toArray, List.set_cons_zero, List.set_cons_succ, i64_w, i32_w]
      rfl
     refine pure_ (i := 3) (N := some 26) (v := ?_) (a' := ?_) #[true, true, false, true, false, false, false, false, false, false, false, false, false, false, false, false, false, false, false, false, false, false, false, false, false, false, false, false] rfl rfl (any_of HT_.out (by kernel_rfl)) (fun _ _ _ h => h) (Or.inl ⟨by rfl, ?_⟩) ?_ ?_
     rotate_left
     ·intro w'
      go_simp
      with_reducible rfl
     rotate_left
     ·simp only [Act.put, List.setIfInBounds_toArray, List.set_cons_zero, List.set_cons_succ, i64_w, i32_w]
      rfl
     refine pure_ (i := 4) (N := some 27) (v := ?_) (a' := ?_) #[true, true, false, true, true, false, false, false, false, false, false, false, false, false, false, false, false, false, false, false, false, false, false, false, false, false, false, false] rfl rfl (any_of HT_.out (by kernel_rfl)) (fun _ _ _ h => h) (Or.inl ⟨by rfl, ?_⟩) ?_ ?_
     rotate_left
     ·intro w'
      go_simp
      with_reducible rfl
     rotate_left
     ·simp only [Act.put, List.setIfInBounds_toArray, List.set_cons_zero, List.set_cons_succ, i64_w, i32_w]
      rfl
     refine pure_ (i := 8) (N := some 31) (v := ?_) (a' := ?_) #[true, true, false, true, true, false, false, false, true, false, false, false, false, false, false, false, false, false, false, false, false, false, false, false, false, false, false, false] rfl rfl (any_of HT_.out (by kernel_rfl)) (fun _ _ _ h => h) (Or.inl ⟨by rfl, ?_⟩) ?_ ?_
     rotate_left
     ·intro w'
      go_simp
      with_reducible rfl
     rotate_left
     ·simp only [Act.put, List.setIfInBounds_toArray, List.set_cons_zero, List.set_cons_succ, i64_w, i32_w]
      rfl
     refine pure_ (i := 9) (N := some 32) (v := ?_) (a' := ?_) #[true, true, false, true, true, false, false, false, true, true, false, false, false, false, false, false, false, false, false, false, false, false, false, false, false, false, false, false] rfl rfl (any_of HT_.out (by kernel_rfl)) (fun _ _ _ h => h) (Or.inl ⟨by rfl, ?_⟩) ?_ ?_
     rotate_left
     ·intro w'
      go_simp
      with_reducible rfl
     rotate_left
     ·simp only [Act.put, List.setIfInBounds_toArray, List.set_cons_zero, List.set_cons_succ, i64_w, i32_w]
      rfl
     refine pure_ (i := 13) (N := some 36) (v := ?_) (a' := ?_) #[true, true, false, true, true, false, false, false, true, true, false, false, false, true, false, false, false, false, false, false, false, false, false, false, false, false, false, false] rfl rfl (any_of HT_.out (by kernel_rfl)) (fun _ _ _ h => h) (Or.inl ⟨by rfl, ?_⟩) ?_ ?_
     rotate_left
     ·intro w'
      go_simp
      with_reducible rfl
     rotate_left
     ·simp only [Act.put, List.setIfInBounds_toArray, List.set_cons_zero, List.set_cons_succ, i64_w, i32_w]
      rfl
     refine pure_ (i := 16) (N := some 39) (v := ?_) (a' := ?_) #[true, true, false, true, true, false, false, false, true, true, false, false, false, true, false, false, true, false, false, false, false, false, false, false, false, false, false, false] rfl rfl (any_of HT_.out (by kernel_rfl)) (fun _ _ _ h => h) (Or.inl ⟨by rfl, ?_⟩) ?_ ?_
     rotate_left
     ·intro w'
      go_simp
      with_reducible rfl
     rotate_left
     ·simp only [Act.put, List.setIfInBounds_toArray, List.set_cons_zero, List.set_cons_succ, i64_w, i32_w]
      rfl
     refine pure_ (i := 19) (N := some 42) (v := ?_) (a' := ?_) #[true, true, false, true, true, false, false, false, true, true, false, false, false, true, false, false, true, false, false, true, false, false, false, false, false, false, false, false] rfl rfl (any_of HT_.out (by kernel_rfl)) (fun _ _ _ h => h) (Or.inl ⟨by rfl, ?_⟩) ?_ ?_
     rotate_left
     ·intro w'
      go_simp
      with_reducible rfl
     rotate_left
     ·simp only [Act.put, List.setIfInBounds_toArray, List.set_cons_zero, List.set_cons_succ, i64_w, i32_w]
      rfl
     refine pure_ (i := 20) (N := some 43) (v := ?_) (a' := ?_) #[true, true, false, true, true, false, false, false, true, true, false, false, false, true, false, false, true, false, false, true, true, false, false, false, false, false, false, false] rfl rfl (any_of HT_.out (by kernel_rfl)) (fun _ _ _ h => h) (Or.inl ⟨by rfl, ?_⟩) ?_ ?_
     rotate_left
     ·intro w'
      go_simp
      with_reducible rfl
     rotate_left
     ·simp only [Act.put, List.setIfInBounds_toArray, List.set_cons_zero, List.set_cons_succ, i64_w, i32_w]
      rfl
     refine take_ (i := 2) (N := some 25) (v := ?_) (a' := ?_) #[true, true, true, true, true, false, false, false, true, true, false, false, false, true, false, false, true, false, false, true, true, false, false, false, false, false, false, false] rfl rfl (take_ofW HT_.out HW_.out (by kernel_rfl)) (fun _ _ _ h => h) (Or.inl ⟨by rfl, ?_⟩) hHeld ?_ ?_
     rotate_left
     ·rintro w' ⟨s0, s1, s2, s3, s4, s5, s6, s7, s8, s9, s10, s11, s12, s13⟩
      go_simp
      with_reducible rfl
     rotate_left
     ·simp only [Act.put, List.setIfInBounds_toArray, List.set_cons_zero, List.set_cons_succ, i64_w, i32_w]
      rfl
     refine take_ (i := 5) (N := some 28) (v := ?_) (a' := ?_) #[true, true, true, true, true, true, false, false, true, true, false, false, false, true, false, false, true, false, false, true, true, false, false, false, false, false, false, false] rfl rfl (take_ofW HT_.out HW_.out (by kernel_rfl)) (fun _ _ _ h => h) (Or.inl ⟨by rfl, ?_⟩) hHeld ?_ ?_
     rotate_left
     ·rintro w' ⟨s0, s1, s2, s3, s4, s5, s6, s7, s8, s9, s10, s11, s12, s13⟩
      go_simp
      with_reducible rfl
     rotate_left
     ·simp only [Act.put, List.setIfInBounds_toArray, List.set_cons_zero, List.set_cons_succ, i64_w, i32_w]
      rfl
     refine pure_ (i := 6) (N := some 29) (v := ?_) (a' := ?_) #[true, true, true, true, true, true, true, false, true, true, false, false, false, true, false, false, true, false, false, true, true, false, false, false, false, false, false, false] rfl rfl (any_of HT_.out (by kernel_rfl)) (fun _ _ _ h => h) (Or.inl ⟨by rfl, ?_⟩) ?_ ?_
     rotate_left
     ·intro w'
      go_simp
      with_reducible rfl
     rotate_left
     ·simp only [Act.put, List.setIfInBounds_toArray, List.set_cons_zero, List.set_cons_succ, i64_w, i32_w]
      rfl
     refine take_ (i := 7) (N := some 30) (v := ?_) (a' := ?_) #[true, true, true, true, true, true, true, true, true, true, false, false, false, true, false, false, true, false, false, true, true, false, false, false, false, false, false, false] rfl rfl (take_ofW HT_.out HW_.out (by kernel_rfl)) (fun _ _ _ h => h) (Or.inl ⟨by rfl, ?_⟩) hHeld ?_ ?_
     rotate_left
     ·rintro w' ⟨s0, s1, s2, s3, s4, s5, s6, s7, s8, s9, s10, s11, s12, s13⟩
      go_simp
      with_reducible rfl
     rotate_left
     ·simp only [Act.put, List.setIfInBounds_toArray, List.set_cons_zero, List.set_cons_succ, i64_w, i32_w]
      rfl
     refine take_ (i := 10) (N := some 33) (v := ?_) (a' := ?_) #[true, true, true, true, true, true, true, true, true, true, true, false, false, true, false, false, true, false, false, true, true, false, false, false, false, false, false, false] rfl rfl (take_ofW HT_.out HW_.out (by kernel_rfl)) (fun _ _ _ h => h) (Or.inl ⟨by rfl, ?_⟩) hHeld ?_ ?_
     rotate_left
     ·rintro w' ⟨s0, s1, s2, s3, s4, s5, s6, s7, s8, s9, s10, s11, s12, s13⟩
      go_simp
      with_reducible rfl
     rotate_left
     ·simp only [Act.put, List.setIfInBounds_toArray, List.set_cons_zero, List.set_cons_succ, i64_w, i32_w]
      rfl
     refine pure_ (i := 11) (N := some 34) (v := ?_) (a' := ?_) #[true, true, true, true, true, true, true, true, true, true, true, true, false, true, false, false, true, false, false, true, true, false, false, false, false, false, false, false] rfl rfl (any_of HT_.out (by kernel_rfl)) (fun _ _ _ h => h) (Or.inl ⟨by rfl, ?_⟩) ?_ ?_
     rotate_left
     ·intro w'
      go_simp
      with_reducible rfl
     rotate_left
     ·simp only [Act.put, List.setIfInBounds_toArray, List.set_cons_zero, List.set_cons_succ, i64_w, i32_w]
      rfl
     refine take_ (i := 12) (N := some 35) (v := ?_) (a' := ?_) #[true, true, true, true, true, true, true, true, true, true, true, true, true, true, false, false, true, false, false, true, true, false, false, false, false, false, false, false] rfl rfl (take_ofW HT_.out HW_.out (by kernel_rfl)) (fun _ _ _ h => h) (Or.inl ⟨by rfl, ?_⟩) hHeld ?_ ?_
     rotate_left
     ·rintro w' ⟨s0, s1, s2, s3, s4, s5, s6, s7, s8, s9, s10, s11, s12, s13⟩
      go_simp
      with_reducible rfl
     rotate_left
     ·simp only [Act.put, List.setIfInBounds_toArray, List.set_cons_zero, List.set_cons_succ, i64_w, i32_w]
      rfl
     refine take_ (i := 14) (N := some 37) (v := ?_) (a' := ?_) #[true, true, true, true, true, true, true, true, true, true, true, true, true, true, true, false, true, false, false, true, true, false, false, false, false, false, false, false] rfl rfl (take_ofW HT_.out HW_.out (by kernel_rfl)) (fun _ _ _ h => h) (Or.inl ⟨by rfl, ?_⟩) hHeld ?_ ?_
     rotate_left
     ·rintro w' ⟨s0, s1, s2, s3, s4, s5, s6, s7, s8, s9, s10, s11, s12, s13⟩
      go_simp
      with_reducible rfl
     rotate_left
     ·simp only [Act.put, List.setIfInBounds_toArray, List.set_cons_zero, List.set_cons_succ, i64_w, i32_w]
      rfl
     refine pure_ (i := 15) (N := some 38) (v := ?_) (a' := ?_) #[true, true, true, true, true, true, true, true, true, true, true, true, true, true, true, true, true, false, false, true, true, false, false, false, false, false, false, false] rfl rfl (any_of HT_.out (by kernel_rfl)) (fun _ _ _ h => h) (Or.inl ⟨by rfl, ?_⟩) ?_ ?_
     rotate_left
     ·intro w'
      go_simp
      with_reducible rfl
     rotate_left
     ·simp only [Act.put, List.setIfInBounds_toArray, List.set_cons_zero, List.set_cons_succ, i64_w, i32_w]
      rfl
     refine take_ (i := 17) (N := some 40) (v := ?_) (a' := ?_) #[true, true, true, true, true, true, true, true, true, true, true, true, true, true, true, true, true, true, false, true, true, false, false, false, false, false, false, false] rfl rfl (take_ofW HT_.out HW_.out (by kernel_rfl)) (fun _ _ _ h => h) (Or.inl ⟨by rfl, ?_⟩) hHeld ?_ ?_
     rotate_left
     ·rintro w' ⟨s0, s1, s2, s3, s4, s5, s6, s7, s8, s9, s10, s11, s12, s13⟩
      go_simp
      with_reducible rfl
     rotate_left
     ·simp only [Act.put, List.setIfInBounds_toArray, List.set_cons_zero, List.set_cons_succ, i64_w, i32_w]
      rfl
     refine pure_ (i := 18) (N := some 41) (v := ?_) (a' := ?_) #[true, true, true, true, true, true, true, true, true, true, true, true, true, true, true, true, true, true, true, true, true, false, false, false, false, false, false, false] rfl rfl (any_of HT_.out (by kernel_rfl)) (fun _ _ _ h => h) (Or.inl ⟨by rfl, ?_⟩) ?_ ?_
     rotate_left
     ·intro w'
      go_simp
      with_reducible rfl
     rotate_left
     ·simp only [Act.put, List.setIfInBounds_toArray, List.set_cons_zero, List.set_cons_succ, i64_w, i32_w]
      rfl
     refine take_ (i := 21) (N := some 44) (v := ?_) (a' := ?_) #[true, true, true, true, true, true, true, true, true, true, true, true, true, true, true, true, true, true, true, true, true, true, false, false, false, false, false, false] rfl rfl (take_ofW HT_.out HW_.out (by kernel_rfl)) (fun _ _ _ h => h) (Or.inl ⟨by rfl, ?_⟩) hHeld ?_ ?_
     rotate_left
     ·rintro w' ⟨s0, s1, s2, s3, s4, s5, s6, s7, s8, s9, s10, s11, s12, s13⟩
      go_simp
      with_reducible rfl
     rotate_left
     ·simp only [Act.put, List.setIfInBounds_toArray, List.set_cons_zero, List.set_cons_succ, i64_w, i32_w]
      rfl
     refine pure_ (i := 22) (N := some 45) (v := ?_) (a' := ?_) #[true, true, true, true, true, true, true, true, true, true, true, true, true, true, true, true, true, true, true, true, true, true, true, false, false, false, false, false] rfl rfl (any_of HT_.out (by kernel_rfl)) (fun _ _ _ h => h) (Or.inl ⟨by rfl, ?_⟩) ?_ ?_
     rotate_left
     ·intro w'
      go_simp
      with_reducible rfl
     rotate_left
     ·simp only [Act.put, List.setIfInBounds_toArray, List.set_cons_zero, List.set_cons_succ, i64_w, i32_w]
      rfl
     refine take_ (i := 23) (N := some 46) (v := ?_) (a' := ?_) #[true, true, true, true, true, true, true, true, true, true, true, true, true, true, true, true, true, true, true, true, true, true, true, true, false, false, false, false] rfl rfl (take_ofW HT_.out HW_.out (by kernel_rfl)) (fun _ _ _ h => h) (Or.inl ⟨by rfl, ?_⟩) hHeld ?_ ?_
     rotate_left
     ·rintro w' ⟨s0, s1, s2, s3, s4, s5, s6, s7, s8, s9, s10, s11, s12, s13⟩
      go_simp
      with_reducible rfl
     rotate_left
     ·simp only [Act.put, List.setIfInBounds_toArray, List.set_cons_zero, List.set_cons_succ, i64_w, i32_w]
      rfl
     refine pure_ (i := 24) (N := some 47) (v := ?_) (a' := ?_) #[true, true, true, true, true, true, true, true, true, true, true, true, true, true, true, true, true, true, true, true, true, true, true, true, true, false, false, false] rfl rfl (any_of HT_.out (by kernel_rfl)) (fun _ _ _ h => h) (Or.inl ⟨by rfl, ?_⟩) ?_ ?_
     rotate_left
     ·intro w'
      go_simp
      with_reducible rfl
     rotate_left
     ·simp only [Act.put, List.setIfInBounds_toArray, List.set_cons_zero, List.set_cons_succ, i64_w, i32_w]
      rfl
     refine pure_ (i := 25) (N := some 48) (v := ?_) (a' := ?_) #[true, true, true, true, true, true, true, true, true, true, true, true, true, true, true, true, true, true, true, true, true, true, true, true, true, true, false, false] rfl rfl (any_of HT_.out (by kernel_rfl)) (fun _ _ _ h => h) (Or.inl ⟨by rfl, ?_⟩) ?_ ?_
     rotate_left
     ·intro w'
      go_simp
      with_reducible rfl
     rotate_left
     ·simp only [Act.put, List.setIfInBounds_toArray, List.set_cons_zero, List.set_cons_succ, i64_w, i32_w]
      rfl
     refine pure_ (i := 26) (N := some 49) (v := ?_) (a' := ?_) #[true, true, true, true, true, true, true, true, true, true, true, true, true, true, true, true, true, true, true, true, true, true, true, true, true, true, true, false] rfl rfl (any_of HT_.out (by kernel_rfl)) (fun _ _ _ h => h) (Or.inl ⟨by rfl, ?_⟩) ?_ ?_
     rotate_left
     ·intro w'
      go_simp
      with_reducible rfl
     rotate_left
     ·simp only [Act.put, List.setIfInBounds_toArray, List.set_cons_zero, List.set_cons_succ, i64_w, i32_w]
      rfl
     refine last_ (i := 27) (N := none) #[true, true, true, true, true, true, true, true, true, true, true, true, true, true, true, true, true, true, true, true, true, true, true, true, true, true, true, true] rfl rfl (one_of HT_.out (by kernel_rfl)) (by decide) (fun K hK => ?_)
     refine skip_ (w1 := ?_) (by rfl) rfl ?_ ?_
     rotate_left
     ·go_simp
      rfl
     refine hK.out _ _ ?_
     clear hK K
     refine done_ (done_of HT_.out (by kernel_rfl)) ?_
     try go_wp2
     go_roundg k1
     case measure => have := HK1.out; omega
     case rel => exact ⟨(y496), (wrap64 (x19_1 + 1)), (by first | rfl | (simp; done) | (simp [*]; done)), H', ⟨by have := HK1.out; omega⟩, ⟨by (with_reducible repeat (first | apply Kd.R_alloc | apply Kd.R_drewN | apply Kd.R_drew)); exact HQ33.out⟩, ⟨by (with_reducible repeat (first | apply Kd.R_alloc | apply Kd.R_drewN | apply Kd.R_drew)); exact Kd.R_mono (Kd.R_far (p := ⟨go26, (((rd_T77 t488 x19_1).f1) : Int).toNat, none⟩) (Kd.R_types HO_17.out GG26.out (by decide)) (fun _ hk => hk.2) (.int .i64 ji25)) (fun _ hk => trivial)⟩, ⟨by (with_reducible repeat (first | refine blk_drewN ?_ _ | refine blk_drew ?_ | refine blk_alloc ?_ _)); refine blk_far ?_ (by have h_ := Kd.R_ne HO_6.out BK483.out (by decide); intro e_; exact h_ (by rw [e_]; rfl)) _; (with_reducible repeat (first | refine blk_drewN ?_ _ | refine blk_drew ?_ | refine blk_alloc ?_ _)); exact BK483.out⟩, ⟨by with_reducible repeat (first | exact HB.out | apply below_alloc | apply pw_below_drewN | apply below_drew1 | refine below_set ?_ GB26.out | refine below_set ?_ GE483.out | refine below_set ?_ GE492.out)⟩⟩
    ·rw [if_neg c17] at H
     have c17b0 : decide (x19_1 < (t488.length : Int)) = false := decide_eq_false c17
     clear c17
     simp only [Option.some.injEq, Prod.mk.injEq] at H
     obtain ⟨rfl, rfl⟩ := H
     go_wp2
     go_ret2
     exact ⟨_, by first | rfl | (simp [errW_none, errW_some] <;> rfl) | (simp [*, errW_none, errW_some] <;> rfl), by (with_reducible repeat (first | apply Kd.R_alloc | apply Kd.R_drewN | apply Kd.R_drew)); exact HO_6.out, by with_reducible repeat (first | exact HB.out | apply below_alloc | apply pw_below_drewN | apply below_drew1 | refine below_set ?_ GE483.out)⟩
 ·replace c4 := Bool.eq_false_iff.mpr c4
  subst c4
  rw [if_neg (by decide)] at H
  simp only [Option.some.injEq, Prod.mk.injEq] at H
  obtain ⟨rfl, rfl⟩ := H
  go_enter Try.func21, Try.ntmps21
  go_wp2_with (first | ((with_reducible refine gate_dst (N := 2) rfl ?_); refine box_event ?hg (N := 2) ?hd (cs := #[.int .i64 a0_0, .slice A0_1 l0_1.length c0_1, .slice A0_2 l0_2.length c0_2, .int .i64 a0_3, .int .i64 a0_4, .int .i64 a0_5, .int .i64 a0_6]) (t := 45) ?hr ?_; (case hd => rfl); (case hg => rfl); (case hr => first | (go_simp; done) | (go_simp; rfl)); intro gb483 hg w34 hbox hb; have n0_ := Aside0.mk (below_step (by with_reducible repeat (first | exact HB.out | apply below_alloc | apply pw_below_drewN | apply below_drew1)) hb); have n1_ := Aside0.mk (hbox); have n2_ := Aside0.mk ((by rw [hg]; exact (below_size (by with_reducible repeat (first | exact HB.out | apply below_alloc | apply pw_below_drewN | apply below_drew1))) : w.heap.size ≤ gb483)); have n3_ := Aside0.mk ((by rw [hg]; exact (below_size (by with_reducible repeat (first | exact HB.out | apply below_alloc | apply pw_below_drewN | apply below_drew1))) : w.heap.size ≤ gb483)); clear HB; have HB := n0_; have BK483 := n1_; have GW483 := n2_; have GE483 := n3_; clear n0_ n1_ n2_ n3_; clear hb hbox hg; have hcz35_0 : w34.cell? ⟨gb483, 0, none⟩ = some (.int .i64 a0_0) := (blk_cell BK483.out 0).trans rfl; have hcz35_1 : w34.cell? ⟨gb483, 1, none⟩ = some (.slice A0_1 l0_1.length c0_1) := (blk_cell BK483.out 1).trans rfl; have hcz35_2 : w34.cell? ⟨gb483, 2, none⟩ = some (.slice A0_2 l0_2.length c0_2) := (blk_cell BK483.out 2).trans rfl; have hcz35_3 : w34.cell? ⟨gb483, 3, none⟩ = some (.int .i64 a0_3) := (blk_cell BK483.out 3).trans rfl; have hcz35_4 : w34.cell? ⟨gb483, 4, none⟩ = some (.int .i64 a0_4) := (blk_cell BK483.out 4).trans rfl; have hcz35_5 : w34.cell? ⟨gb483, 5, none⟩ = some (.int .i64 a0_5) := (blk_cell BK483.out 5).trans rfl; have hcz35_6 : w34.cell? ⟨gb483, 6, none⟩ = some (.int .i64 a0_6) := (blk_cell BK483.out 6).trans rfl; have hfz35_0 := blk_frozen BK483.out 0; have hfz35_1 := blk_frozen BK483.out 1; have hfz35_2 := blk_frozen BK483.out 2; have hfz35_3 := blk_frozen BK483.out 3; have hfz35_4 := blk_frozen BK483.out 4; have hfz35_5 := blk_frozen BK483.out 5; have hfz35_6 := blk_frozen BK483.out 6) | ((with_reducible refine gate_callee (f := 48) rfl ?_); refine goesL_ (some 11) rfl rfl Try.func48 (by kernel_rfl) rfl #[.agg #[.int .i64 a0_0, .slice A0_1 l0_1.length c0_1, .slice A0_2 l0_2.length c0_2, .int .i64 a0_3, .int .i64 a0_4, .int .i64 a0_5, .int .i64 a0_6], .slice A1 l1.length c1] rfl (by (try simp only [List.map_toArray, List.map_cons, List.map_nil]); first | done | rfl | (simp only [List.length_drop, List.length_take]; rfl)) ?_; (with_reducible refine (impl_areSkews.calls a0_0 _ _ l0_1 _ _ l0_2 a0_3 a0_4 a0_5 a0_6 _ _ l1 false _ ?side1 ?side2 ?side3 ?side4 ?side5 ?side6 A3.out).mono ?_); (case side1 => repeat (first | exact (Kd.C_below HR0_1.out HB.out) | (with_reducible refine Kd.C_alloc ?_ _) | (with_reducible refine Kd.C_drewN ?_ _) | (with_reducible refine Kd.C_drew ?_))); (case side2 => exact HC0_1.out); (case side3 => repeat (first | exact (Kd.C_below HR0_2.out HB.out) | (with_reducible refine Kd.C_alloc ?_ _) | (with_reducible refine Kd.C_drewN ?_ _) | (with_reducible refine Kd.C_drew ?_))); (case side4 => exact HC0_2.out); (case side5 => repeat (first | exact (Kd.C_below HR1.out HB.out) | (with_reducible refine Kd.C_alloc ?_ _) | (with_reducible refine Kd.C_drewN ?_ _) | (with_reducible refine Kd.C_drew ?_))); (case side6 => exact HC1.out); rintro e w36 ⟨rfl, hb⟩; refine ⟨_, rfl, ?_⟩; have n0_ := Aside0.mk (blk_below (g := gb483) (by (with_reducible repeat (first | refine blk_drewN ?_ _ | refine blk_drew ?_ | refine blk_alloc ?_ _)); exact BK483.out) hb); have n1_ := Aside0.mk (below_step (by with_reducible repeat (first | exact HB.out | apply below_alloc | apply pw_below_drewN | apply below_drew1 | refine below_set ?_ GE483.out)) hb); clear BK483; clear HB; have BK483 := n0_; have HB := n1_; clear n0_ n1_; (try clear hb); (try clear hb2); (try clear hk); (try clear hi)))
  go_ret2
  exact ⟨_, by first | rfl | (simp [errW_none, errW_some] <;> rfl) | (simp [*, errW_none, errW_some] <;> rfl), by first | exact Kd.R_nil _ _ _ _ _ | exact Kd.N_nil _ _ _ _ _ | exact Kd.V_nil _ _ _ _ _ | exact Kd.Q_nil _ _ _ _ _ | exact Kd.S_nil _ _ _ _ _, by with_reducible repeat (first | exact HB.out | apply below_alloc | apply pw_below_drewN | apply below_drew1 | refine below_set ?_ GE483.out)⟩

end Go.Proofs.Ytahjcmmgdcedpaa.Pa

/- The pads that the program tells. -/
namespace Go.Proofs.Ytahjcmmgdcedpaa.Pure
open Go.RowKit Go.Proofs.Ytahjcmmgdcedpaa.Pa Go.Proofs.YtahjcmmgdcedpaaW.PrintWords Go.Proofs.YtahjcmmgdcedpaaW.PrintLast
set_option linter.unusedVariables false
set_option linter.unusedSimpArgs false

/-- What a way from a to b asks for. -/
def padV (hold : Int) (skews : List Int) (a b m : Int) : Int := wrap64 (wrap64 (wrap64 (rd skews b + hold) - rd skews a) - m)
def padS (hold : Int) (skews : List Int) (P : Int → Int → Way) (b x a : Int) : Int := match P a b with
 | none => x
 | some p => mx x (padV hold skews a b p.1)
/-- The pad of b, over the registers from a on. -/
def padF (hold : Int) (skews : List Int) (P : Int → Int → Way) (b : Int) : Nat → Nat → Int → Int
 | _, 0, x => x
 | a, d + 1, x => padF hold skews P b (a + 1) d (padS hold skews P b x (a : Int))
def padsL (hold : Int) (skews : List Int) (P : Int → Int → Way) (n : Nat) : Nat → Nat → List Int
 | _, 0 => []
 | j, d + 1 => padF hold skews P (j : Int) 0 n 0 :: padsL hold skews P n (j + 1) d
theorem padsL_len (hold : Int) (skews : List Int) (P : Int → Int → Way) (n d : Nat) : ∀ j, (padsL hold skews P n j d).length = d := by
 induction d with
 | zero => intro j; rfl
 | succ d ih => intro j; simp [padsL, ih]
theorem padsL_get (hold : Int) (skews : List Int) (P : Int → Int → Way) (n d : Nat) : ∀ j i, i < d → (padsL hold skews P n j d).getD i 0 = padF hold skews P ((j + i : Nat) : Int) 0 n 0 := by
 induction d with
 | zero => intro j i h; omega
 | succ d ih =>
  intro j i h
  cases i with
  | zero => rfl
  | succ i =>
   have := ih (j + 1) i (by omega)
   rw [show j + (i + 1) = j + 1 + i by omega, ← this]
   rfl
def linkV (hold : Int) (skews : List Int) (l : S77) : Int := wrap64 (wrap64 (wrap64 (rd skews l.f1 + hold) - l.f2) - rd skews l.f0)
def padU (hold : Int) (skews : List Int) (x6 : List Int) (l : S77) : List Int := x6.set l.f1.toNat (mx (rd x6 l.f1) (linkV hold skews l))
theorem linkV_padV (hold : Int) (skews : List Int) (a b m M : Int) : linkV hold skews ⟨a, b, m, M⟩ = padV hold skews a b m := by
 unfold linkV padV
 dsimp only
 generalize rd skews b + hold = s
 generalize rd skews a = q
 unfold wrap64
 omega
theorem padU_len (hold : Int) (skews : List Int) (ls : List S77) : ∀ x6 : List Int, (ls.foldl (padU hold skews) x6).length = x6.length := by
 induction ls with
 | nil => intro x6; rfl
 | cons l ls ih => intro x6; rw [List.foldl_cons, ih]; simp [padU]
def stepJ (hold : Int) (skews : List Int) (j : Nat) (x : Int) (l : S77) : Int := if l.f1 = (j : Int) then mx x (linkV hold skews l) else x
theorem padU_get (hold : Int) (skews : List Int) (j : Nat) (ls : List S77) : ∀ x6 : List Int, (∀ l ∈ ls, 0 ≤ l.f1) → j < x6.length → (ls.foldl (padU hold skews) x6).getD j 0 = ls.foldl (stepJ hold skews j) (x6.getD j 0) := by
 induction ls with
 | nil => intro x6 _ _; rfl
 | cons l ls ih =>
  intro x6 h hj
  have h0 := h l (by simp)
  rw [List.foldl_cons, List.foldl_cons, ih _ (fun y hy => h y (by simp [hy])) (by simpa [padU] using hj)]
  congr 1
  unfold padU stepJ
  rw [List.getD_eq_getElem?_getD, List.getElem?_set]
  by_cases c : l.f1 = (j : Int)
  ·rw [if_pos c, if_pos (by omega), if_pos (by omega)]
   unfold rd
   rw [c, Int.toNat_natCast]
   rfl
  ·rw [if_neg c, if_neg (by omega), List.getD_eq_getElem?_getD]
theorem fold_to (hold : Int) (skews : List Int) (P : Int → Int → Way) (a : Int) (j : Nat) (d : Nat) : ∀ (b : Nat) (x : Int), (linksTo P a b d).foldl (stepJ hold skews j) x = if b ≤ j ∧ j < b + d then padS hold skews P (j : Int) x a else x := by
 induction d with
 | zero => intro b x; rw [if_neg (by omega)]; rfl
 | succ d ih =>
  intro b x
  simp only [linksTo]
  rw [List.foldl_append, ih]
  by_cases c : b = j
  ·subst c
   rw [if_neg (by omega), if_pos (by omega)]
   unfold padS
   cases hp : P a (b : Int) with
   | none => rfl
   | some p =>
    simp only [linkO, List.foldl_cons, List.foldl_nil, stepJ, if_true]
    rw [linkV_padV]
  ·have e : (linkO a (b : Int) (P a (b : Int))).foldl (stepJ hold skews j) x = x := by
    cases P a (b : Int) with
    | none => rfl
    | some p =>
     simp only [linkO, List.foldl_cons, List.foldl_nil, stepJ]
     rw [if_neg (by omega)]
   rw [e]
   by_cases c2 : b + 1 ≤ j ∧ j < b + 1 + d
   ·rw [if_pos c2, if_pos (by omega)]
   ·rw [if_neg c2, if_neg (by omega)]
theorem fold_from (hold : Int) (skews : List Int) (P : Int → Int → Way) (n : Nat) (j : Nat) (hj : j < n) (d : Nat) : ∀ (a : Nat) (x : Int), (linksFrom P n a d).foldl (stepJ hold skews j) x = padF hold skews P (j : Int) a d x := by
 induction d with
 | zero => intro a x; rfl
 | succ d ih =>
  intro a x
  simp only [linksFrom, padF]
  rw [List.foldl_append, ih, fold_to, if_pos (by omega)]
theorem pads_eq (hold : Int) (skews : List Int) (P : Int → Int → Way) (n : Nat) : (linksOf P n).foldl (padU hold skews) (List.replicate n 0) = padsL hold skews P n 0 n := by
 refine List.ext_getElem (by rw [padU_len, padsL_len, List.length_replicate]) fun i h1 h2 => ?_
 have hi : i < n := by simpa [padsL_len] using h2
 have e1 := padU_get hold skews i (linksOf P n) (List.replicate n 0) (fun l hl => (linksOf_mem P n l hl).2.2.1) (by simpa using hi)
 have e2 := padsL_get hold skews P n n 0 i hi
 rw [List.getD_eq_getElem?_getD, List.getElem?_eq_getElem h1, Option.getD_some] at e1
 rw [List.getD_eq_getElem?_getD, List.getElem?_eq_getElem h2, Option.getD_some] at e2
 rw [e1, e2]
 unfold linksOf
 rw [fold_from hold skews P n i hi n 0]
 simp [List.getD_eq_getElem?_getD, hi]
theorem padU_loop (hold : Int) (skews : List Int) (ls : List S77) (hl : ls.length ≤ 1000) (hin : ∀ l ∈ ls, 0 ≤ l.f0 ∧ l.f0 < skews.length ∧ 0 ≤ l.f1 ∧ l.f1 < skews.length) (n a3 a5 a6 : Int) (gates : List S56) (data : List Int) (d : Nat) :
  ∀ (k i : Nat) (x6 : List Int), i + d = ls.length → d < k → x6.length = skews.length → impl_PadsOf.l0 k skews x6 ls (ls.length : Int) (i : Int) n gates data a3 hold a5 a6 = some ((ls.drop i).foldl (padU hold skews) x6, true) := by
 induction d with
 | zero =>
  intro k i x6 h hk hx
  obtain ⟨k, rfl⟩ : ∃ m, k = m + 1 := ⟨k - 1, by omega⟩
  simp only [impl_PadsOf.l0]
  rw [if_neg (by omega), List.drop_of_length_le (by omega)]
  rfl
 | succ d ih =>
  intro k i x6 h hk hx
  obtain ⟨k, rfl⟩ : ∃ m, k = m + 1 := ⟨k - 1, by omega⟩
  have hi : i < ls.length := by omega
  have hr : rd_T77 ls (i : Int) = ls[i] := by
   unfold rd_T77
   rw [List.getD_eq_getElem?_getD, Int.toNat_natCast, List.getElem?_eq_getElem hi]
   rfl
  have hm := hin ls[i] (List.getElem_mem hi)
  simp only [impl_PadsOf.l0]
  rw [hr, if_pos (by omega), if_pos (by omega), if_pos (by omega), if_pos (by omega), if_pos (by omega), if_pos (by omega), if_pos (by omega), if_pos (by omega), List.drop_eq_getElem_cons hi, wrap_id (x := (i : Int) + 1) (by omega) (by omega)]
  have := ih k (i + 1) (padU hold skews x6 ls[i]) (by omega) (by omega) (by simpa [padU] using hx)
  push_cast at this
  rw [List.foldl_cons, ← this]
  rfl
theorem padsFrom_len (P : Int → Int → Way) (n : Nat) (d : Nat) : ∀ a, (linksFrom P n a d).length ≤ d * n := by
 induction d with
 | zero => intro a; simp [linksFrom]
 | succ d ih =>
  intro a
  have := ih (a + 1)
  have h2 := linksTo_len P (a : Int) n 0
  simp only [linksFrom, List.length_append]
  rw [Nat.succ_mul]
  omega
/-- What both answer. -/
def padsR (n : Int) (gates : List S56) (data : List Int) (a3 a4 a5 a6 : Int) (skews : List Int) : List Int × Bool :=
 if skewsB n gates data a3 a4 a5 a6 skews = true then (padsL a4 skews (pathO n gates data a5 a6) n.toNat 0 n.toNat, true) else ([], false)
theorem implPads (n : Int) (gates : List S56) (data : List Int) (a3 a4 a5 a6 : Int) (skews : List Int) (hw : ∀ g ∈ gates, g.f2.length ≤ 1048576) : Ev (fun k => impl_PadsOf.f k n gates data a3 a4 a5 a6 skews) (padsR n gates data a3 a4 a5 a6 skews) := by
 unfold padsR
 cases h : skewsB n gates data a3 a4 a5 a6 skews with
 | false =>
  refine ⟨0, fun k hk => ?_⟩
  show impl_PadsOf.f k n gates data a3 a4 a5 a6 skews = _
  unfold impl_PadsOf.f
  rw [implSkews n gates data a3 a4 a5 a6 skews, h]
  simp
 | true =>
  obtain ⟨R, hl, _⟩ := skews_ready hw h
  have hn := R.gs.n0
  have hn1 := R.gs.n1
  obtain ⟨K, hK⟩ := links_tells n a3 a4 a5 a6 gates data R
  have hlen : (linksOf (pathO n gates data a5 a6) n.toNat).length ≤ 36 := by
   have h1 := padsFrom_len (pathO n gates data a5 a6) n.toNat n.toNat 0
   have h2 : n.toNat * n.toNat ≤ 6 * 6 := Nat.mul_le_mul (by omega) (by omega)
   unfold linksOf
   omega
  refine ⟨K + 1000, fun k hk => ?_⟩
  have k1 : impl_Circuit_links.f k n gates data a3 a4 a5 a6 = _ := hK k (by omega)
  have k2 := padU_loop a4 skews (linksOf (pathO n gates data a5 a6) n.toNat) (by omega) (fun l hm => by have := linksOf_mem _ _ l hm; omega) n a3 a5 a6 gates data _ k 0 (List.replicate n.toNat 0) (Nat.zero_add _) (by omega) (by simp; omega)
  show impl_PadsOf.f k n gates data a3 a4 a5 a6 skews = _
  unfold impl_PadsOf.f
  rw [implSkews n gates data a3 a4 a5 a6 skews, h]
  simp only [Option.bind_some, if_true]
  rw [if_pos (by omega), if_pos (by omega), k1]
  simp only [Option.bind_some]
  rw [List.drop_zero, pads_eq] at k2
  exact k2
end Go.Proofs.Ytahjcmmgdcedpaa.Pure

namespace Go.Proofs.Ytahjcmmgdcedpaa.Pa
open Go.RowKit Go.Proofs.YtahjcmmgdcedpaaW.PrintWords Go.Proofs.YtahjcmmgdcedpaaW.PrintLast Go.Proofs.YtahjcmmgdcedpaaW.PrintMore
attribute [local go_sem] max2_int min2_int max_two min_two max_three min_three max_four min_four   -- for this text's walks alone
set_option linter.unusedVariables false
set_option linter.unusedSimpArgs false

/-! ### impl_setupRoom: function 63 -/
/-- The room of a path for setup. -/
def setupP (period setup : Int) (skews : List Int) (x : S77) : Int := wrap64 (wrap64 (wrap64 (wrap64 (period + rd skews x.f1) - rd skews x.f0) - x.f3) - setup)
def impl_setupRoom.f (k : Nat) (a0_0 : Int) (l0_1 : List (S56)) (l0_2 : List Int) (a0_3 a0_4 a0_5 a0_6 : Int) (a1 : Int) (l2 : List Int) : Option Int :=
 (impl_Circuit_links.f k a0_0 l0_1 l0_2 a0_3 a0_4 a0_5 a0_6).bind fun ls => if 0 < ls.length ∧ ls.all (linkIn l2) = true then some (leastL (setupP a1 a0_3 l2) ls) else none
end Go.Proofs.Ytahjcmmgdcedpaa.Pa

namespace Go.Proofs.Ytahjcmmgdcedpaa.Pa
open Go.RowKit Go.Proofs.YtahjcmmgdcedpaaW.PrintWords Go.Proofs.YtahjcmmgdcedpaaW.PrintLast Go.Proofs.YtahjcmmgdcedpaaW.PrintMore
attribute [local go_sem] max2_int min2_int max_two min_two max_three min_three max_four min_four   -- for this text's walks alone
set_option linter.unusedVariables false
set_option linter.unusedSimpArgs false

/-! ### impl_holdRoom: function 59 -/
/-- The room of a path for hold. -/
def holdP (hold : Int) (skews : List Int) (x : S77) : Int := wrap64 (wrap64 (wrap64 (x.f2 + rd skews x.f0) - rd skews x.f1) - hold)
def impl_holdRoom.f (k : Nat) (a0_0 : Int) (l0_1 : List (S56)) (l0_2 : List Int) (a0_3 a0_4 a0_5 a0_6 : Int) (l1 : List Int) : Option Int :=
 (impl_Circuit_links.f k a0_0 l0_1 l0_2 a0_3 a0_4 a0_5 a0_6).bind fun ls => if 0 < ls.length ∧ ls.all (linkIn l1) = true then some (leastL (holdP a0_4 l1) ls) else none
set_option maxHeartbeats 4000000 in
set_option maxRecDepth 100000 in
theorem impl_holdRoom.test (hold : Int) (skews : List Int) (A : Option Addr) (c bs bc : Nat) (w : World) (hs : w.cell? ⟨bs, 0, none⟩ = some (.slice A skews.length c)) (hc : w.cell? ⟨bc, 4, none⟩ = some (.int .i64 hold))
  (hr : Kd.C (Kd.int .i64) w A skews.length skews) (W : World) (x : S77) (hx : linkIn skews x = true) (hb : Below w.heap.size w W) :
  Calls Try.prog 79 (#[.agg #[.int .i64 x.f0, .int .i64 x.f1, .int .i64 x.f2, .int .i64 x.f3]] ++ #[.pointer (some ⟨bs, 0, none⟩), .pointer (some ⟨bc, 0, none⟩)]) W fun e w' => e = .returned (.int .i64 (holdP hold skews x)) ∧ Below W.heap.size W w' := by
 have hu := Try.underlying77
 have hu2 := Try.underlying45
 have HB := Aside0.mk hb
 have HS := Aside0.mk (pw_cell_below hb hs)
 have HC := Aside0.mk (pw_cell_below hb hc)
 have HR := Aside0.mk (Kd.C_below hr hb)
 clear hb hs hc hr
 unfold linkIn at hx
 simp only [Bool.and_eq_true, decide_eq_true_eq] at hx
 have HX := Aside0.mk hx
 clear hx
 have HQ := Aside0.mk (show holdP hold skews x = wrap64 (wrap64 (wrap64 (x.f2 + rd skews x.f0) - rd skews x.f1) - hold) from rfl)
 generalize holdP hold skews x = q at HQ ⊢
 show Calls Try.prog 79 #[.agg #[.int .i64 x.f0, .int .i64 x.f1, .int .i64 x.f2, .int .i64 x.f3], .pointer (some ⟨bs, 0, none⟩), .pointer (some ⟨bc, 0, none⟩)] W _
 go_enter Try.func79, Try.ntmps79
 go_wp2_with ((with_reducible refine gate_dst (N := 3) rfl ?_); refine box_event ?hg (N := 3) ?hd (cs := #[.int .i64 x.f0, .int .i64 x.f1, .int .i64 x.f2, .int .i64 x.f3]) (t := 77) ?hr ?_; (case hd => rfl); (case hg => rfl); (case hr => first | (go_simp; done) | (go_simp; rfl)); intro gb hg_ w6 hbox_ hb_; have HX_gb := Aside0.mk hbox_; have HB_w6 := Aside0.mk hb_; have HG_gb := Aside0.mk hg_; clear hbox_ hb_ hg_)
 have b0 : w6.cell? ⟨gb, 0, none⟩ = some (.int .i64 x.f0) := (blk_cell HX_gb.out 0).trans rfl
 have b1 : w6.cell? ⟨gb, 1, none⟩ = some (.int .i64 x.f1) := (blk_cell HX_gb.out 1).trans rfl
 have b3 : w6.cell? ⟨gb, 2, none⟩ = some (.int .i64 x.f2) := (blk_cell HX_gb.out 2).trans rfl
 have t1 := pw_cell_below HB_w6.out HS.out
 have t2 := pw_cell_below HB_w6.out HC.out
 obtain ⟨ad, e, e0⟩ := Kd.at_int HR.out x.f0 HX.out.1.1.1 HX.out.1.1.2
 cases e
 obtain ⟨ad', e', e1⟩ := Kd.at_int HR.out x.f1 HX.out.1.2 HX.out.2
 cases e'
 replace e0 := pw_cell_below HB_w6.out e0
 replace e1 := pw_cell_below HB_w6.out e1
 have p0 := eq_true HX.out.1.1.1
 have p1 := eq_true HX.out.1.1.2
 have p2 := eq_true HX.out.1.2
 have p3 := eq_true HX.out.2
 go_quiet (fail)
 go_wp2
 go_ret
 refine ⟨by rw [HQ.out]; first | rfl | simp only [i64_w], ?_⟩
 repeat (first | exact HB_w6.out | apply pw_below_drewN | apply below_drew)
set_option maxHeartbeats 4000000 in
set_option maxRecDepth 100000 in
theorem impl_holdRoom.calls (k : Nat) (a0_0 : Int) (A0_1 : Option Addr) (c0_1 : Nat) (l0_1 : List (S56)) (A0_2 : Option Addr) (c0_2 : Nat) (l0_2 : List Int) (a0_3 : Int) (a0_4 : Int) (a0_5 : Int) (a0_6 : Int) (A1 : Option Addr) (c1 : Nat) (l1 : List Int) (r : Int) (w : World) (hr0_1 : Kd.C k56 w A0_1 l0_1.length l0_1) (hc0_1 : l0_1.length ≤ c0_1) (hr0_2 : Kd.C (Kd.int .i64) w A0_2 l0_2.length l0_2) (hc0_2 : l0_2.length ≤ c0_2) (hr1 : Kd.C (Kd.int .i64) w A1 l1.length l1) (hc1 : l1.length ≤ c1) (h : impl_holdRoom.f k a0_0 l0_1 l0_2 a0_3 a0_4 a0_5 a0_6 l1 = some r) :
  Calls Try.prog 59 #[.agg #[.int .i64 a0_0, .slice A0_1 l0_1.length c0_1, .slice A0_2 l0_2.length c0_2, .int .i64 a0_3, .int .i64 a0_4, .int .i64 a0_5, .int .i64 a0_6], .slice A1 l1.length c1] w fun e w' => e = .returned (.int .i64 r) ∧ Below w.heap.size w w' := by
 have hu := Try.underlying45
 obtain ⟨ls, hl, h⟩ := Option.bind_eq_some_iff.mp h
 by_cases hh : 0 < ls.length ∧ ls.all (linkIn l1) = true
 ·replace h : (if 0 < ls.length ∧ ls.all (linkIn l1) = true then some (leastL (holdP a0_4 l1) ls) else none) = some r := h
  rw [if_pos hh] at h
  obtain rfl := Option.some.inj h
  clear h
  have HL := Aside0.mk hl
  have HH := Aside0.mk hh
  have HR1 := Aside0.mk hr0_1
  have HC1 := Aside0.mk hc0_1
  have HR2 := Aside0.mk hr0_2
  have HC2 := Aside0.mk hc0_2
  have HR3 := Aside0.mk hr1
  clear hl hh hr0_1 hc0_1 hr0_2 hc0_2 hr1 hc1
  generalize hq : leastL (holdP a0_4 l1) ls = q
  have HQ := Aside0.mk hq
  clear hq
  go_enter Try.func59, Try.ntmps59
  go_wp2_with (first | ((with_reducible refine gate_dst (N := 2) rfl ?_); refine box_event ?hg (N := 2) ?hd (cs := #[.int .i64 a0_0, .slice A0_1 l0_1.length c0_1, .slice A0_2 l0_2.length c0_2, .int .i64 a0_3, .int .i64 a0_4, .int .i64 a0_5, .int .i64 a0_6]) (t := 45) ?hr ?_; (case hd => rfl); (case hg => rfl); (case hr => first | (go_simp; done) | (go_simp; rfl)); intro gb hg_ w6 hbox_ hb_; have HX_gb := Aside0.mk hbox_; have HB_w6 := Aside0.mk hb_; have HG_gb := Aside0.mk hg_; clear hbox_ hb_ hg_) | ((with_reducible refine gate_dst (N := 3) rfl ?_); refine box_event ?hg (N := 3) ?hd (cs := #[.slice A1 l1.length c1]) (t := 28) ?hr ?_; (case hd => rfl); (case hg => rfl); (case hr => first | (go_simp; done) | (go_simp; rfl)); intro gs hg_ w8 hbox_ hb_; have HX_gs := Aside0.mk hbox_; have HB_w8 := Aside0.mk hb_; have HG_gs := Aside0.mk hg_; clear hbox_ hb_ hg_; have b0 := pw_cell_below HB_w8.out ((blk_cell HX_gb.out 0).trans rfl : w6.cell? ⟨gb, 0, none⟩ = some (.int .i64 a0_0)); have b1 := pw_cell_below HB_w8.out ((blk_cell HX_gb.out 1).trans rfl : w6.cell? ⟨gb, 1, none⟩ = some (.slice A0_1 l0_1.length c0_1)); have b2 := pw_cell_below HB_w8.out ((blk_cell HX_gb.out 2).trans rfl : w6.cell? ⟨gb, 2, none⟩ = some (.slice A0_2 l0_2.length c0_2)); have b3 := pw_cell_below HB_w8.out ((blk_cell HX_gb.out 3).trans rfl : w6.cell? ⟨gb, 3, none⟩ = some (.int .i64 a0_3)); have b4 := pw_cell_below HB_w8.out ((blk_cell HX_gb.out 4).trans rfl : w6.cell? ⟨gb, 4, none⟩ = some (.int .i64 a0_4)); have b5 := pw_cell_below HB_w8.out ((blk_cell HX_gb.out 5).trans rfl : w6.cell? ⟨gb, 5, none⟩ = some (.int .i64 a0_5)); have b6 := pw_cell_below HB_w8.out ((blk_cell HX_gb.out 6).trans rfl : w6.cell? ⟨gb, 6, none⟩ = some (.int .i64 a0_6)); have HF := Aside0.mk b4; have HBB := Aside0.mk (below_step HB_w6.out HB_w8.out)) | (go_at_call 78; refine (leastOf.calls k a0_0 A0_1 c0_1 l0_1 A0_2 c0_2 l0_2 a0_3 a0_4 a0_5 a0_6 79 #[.pointer (some ⟨gs, 0, none⟩), .pointer (some ⟨gb, 0, none⟩)] (holdP a0_4 l1) ls _ (Kd.C_below HR1.out HBB.out) HC1.out (Kd.C_below HR2.out HBB.out) HC2.out HL.out HH.out.1 (enters_of Try.func79 (by kernel_rfl) rfl) (fun W x hx hb => impl_holdRoom.test a0_4 l1 A1 c1 gs gb w8 ((blk_cell HX_gs.out 0).trans rfl) HF.out (Kd.C_below HR3.out HBB.out) W x (List.all_eq_true.mp HH.out.2 x hx) hb)).mono ?_; rintro e w9 ⟨rfl, hb9⟩; have HB9 := Aside0.mk hb9; clear hb9))
  go_ret
  exact ⟨by first | rfl | (rw [HQ.out]; rfl), below_step HBB.out HB9.out⟩
 ·replace h : (if 0 < ls.length ∧ ls.all (linkIn l1) = true then some (leastL (holdP a0_4 l1) ls) else none) = some r := h
  rw [if_neg hh] at h
  exact absurd h (by simp)

end Go.Proofs.Ytahjcmmgdcedpaa.Pa

/- The least rooms of all paths: the program's and the reference's. -/
namespace Go.Proofs.Ytahjcmmgdcedpaa.Pure
open Go.RowKit Go.Proofs.Ytahjcmmgdcedpaa.Pa Go.Proofs.YtahjcmmgdcedpaaW.PrintWords Go.Proofs.YtahjcmmgdcedpaaW.PrintLast
set_option linter.unusedVariables false
set_option linter.unusedSimpArgs false

abbrev su : Option (Int × Int) → Int
 | none => 0
 | some q => q.1
abbrev sv : Option (Int × Int) → Int
 | none => 0
 | some q => q.2
/-- The least rooms of all links. -/
def setupL (per n a3 a5 a6 : Int) (gates : List S56) (data skews : List Int) : Int := leastL (setupP per a3 skews) (linksOf (pathO n gates data a5 a6) n.toNat)
def holdL (n a4 a5 a6 : Int) (gates : List S56) (data skews : List Int) : Int := leastL (holdP a4 skews) (linksOf (pathO n gates data a5 a6) n.toNat)
theorem links_in (n a5 a6 : Int) (gates : List S56) (data skews : List Int) (hs : (skews.length : Int) = n) : (linksOf (pathO n gates data a5 a6) n.toNat).all (linkIn skews) = true := by
 rw [List.all_eq_true]
 intro x hx
 have := linksOf_mem _ _ x hx
 unfold linkIn
 simp only [Bool.and_eq_true, decide_eq_true_eq]
 omega
theorem hold_tells (n a3 a4 a5 a6 : Int) (gates : List S56) (data skews : List Int) (C : Ready n gates data) (hs : (skews.length : Int) = n) :
  Ev (fun k => impl_holdRoom.f k n gates data a3 a4 a5 a6 skews) (holdL n a4 a5 a6 gates data skews) := by
 obtain ⟨K, hK⟩ := links_tells n a3 a4 a5 a6 gates data C
 refine ⟨K, fun k hk => ?_⟩
 have hk2 : impl_Circuit_links.f k n gates data a3 a4 a5 a6 = _ := hK k hk
 show impl_holdRoom.f k n gates data a3 a4 a5 a6 skews = _
 unfold impl_holdRoom.f
 rw [hk2]
 simp only [Option.bind_some]
 rw [if_pos ⟨links_some n a5 a6 gates data C, links_in n a5 a6 gates data skews hs⟩]
 rfl
end Go.Proofs.Ytahjcmmgdcedpaa.Pure

namespace Go.Proofs.Ytahjcmmgdcedpaa.Pa
open Go.RowKit Go.Proofs.YtahjcmmgdcedpaaW.PrintWords Go.Proofs.YtahjcmmgdcedpaaW.PrintLast Go.Proofs.YtahjcmmgdcedpaaW.PrintMore
attribute [local go_sem] max2_int min2_int max_two min_two max_three min_three max_four min_four   -- for this text's walks alone
set_option linter.unusedVariables false
set_option linter.unusedSimpArgs false

/-! ### impl_HoldRoom: function 25 -/
def impl_HoldRoom.f (k : Nat) (a0_0 : Int) (l0_1 : List (S56)) (l0_2 : List Int) (a0_3 : Int) (a0_4 : Int) (a0_5 : Int) (a0_6 : Int) (l1 : List Int) : Option (Int × Bool) := (impl_areSkews.f a0_0 l0_1 l0_2 a0_3 a0_4 a0_5 a0_6 l1).bind fun t586 => (if t586 = true then ((impl_holdRoom.f k a0_0 l0_1 l0_2 a0_3 a0_4 a0_5 a0_6 l1).bind fun t587 => (some (t587, true))) else (some (0, false)))
set_option maxHeartbeats 8000000 in
set_option maxRecDepth 100000 in
theorem impl_HoldRoom.calls (k : Nat) (a0_0 : Int) (A0_1 : Option Addr) (c0_1 : Nat) (l0_1 : List (S56)) (A0_2 : Option Addr) (c0_2 : Nat) (l0_2 : List Int) (a0_3 : Int) (a0_4 : Int) (a0_5 : Int) (a0_6 : Int) (A1 : Option Addr) (c1 : Nat) (l1 : List Int) (r1 : Int) (r2 : Bool) (w : World) (hr0_1 : Kd.C k56 w A0_1 l0_1.length l0_1) (hc0_1 : l0_1.length ≤ c0_1) (hr0_2 : Kd.C (Kd.int .i64) w A0_2 l0_2.length l0_2) (hc0_2 : l0_2.length ≤ c0_2) (hr1 : Kd.C (Kd.int .i64) w A1 l1.length l1) (hc1 : l1.length ≤ c1) (h : impl_HoldRoom.f k a0_0 l0_1 l0_2 a0_3 a0_4 a0_5 a0_6 l1 = some (r1, r2)) :
  Calls Try.prog 25 #[.agg #[.int .i64 a0_0, .slice A0_1 l0_1.length c0_1, .slice A0_2 l0_2.length c0_2, .int .i64 a0_3, .int .i64 a0_4, .int .i64 a0_5, .int .i64 a0_6], .slice A1 l1.length c1] w fun e w' => e = .returned (.tuple #[.int .i64 r1, .bool r2]) ∧ Below w.heap.size w w' := by
 have hu45 := Try.underlying45
 have HR0_1 := Aside0.mk hr0_1
 have HC0_1 := Aside0.mk hc0_1
 clear hr0_1 hc0_1
 have HR0_2 := Aside0.mk hr0_2
 have HC0_2 := Aside0.mk hc0_2
 clear hr0_2 hc0_2
 have HR1 := Aside0.mk hr1
 have HC1 := Aside0.mk hc1
 clear hr1 hc1
 have HB := Aside0.mk (Below.refl w.heap.size w)
 have H : ((impl_areSkews.f a0_0 l0_1 l0_2 a0_3 a0_4 a0_5 a0_6 l1).bind fun t586 => (if t586 = true then ((impl_holdRoom.f k a0_0 l0_1 l0_2 a0_3 a0_4 a0_5 a0_6 l1).bind fun t587 => (some (t587, true))) else (some (0, false)))) = some (r1, r2) := h
 clear h
 replace H := Option.bind_eq_some_iff.mp H
 obtain ⟨t586, A30, H⟩ := H
 replace H : (if t586 = true then ((impl_holdRoom.f k a0_0 l0_1 l0_2 a0_3 a0_4 a0_5 a0_6 l1).bind fun t587 => (some (t587, true))) else (some (0, false))) = some (r1, r2) := H
 have A3 := Aside0.mk A30
 clear A30
 by_cases c4 : t586 = true
 ·subst c4
  have H1 : ((impl_holdRoom.f k a0_0 l0_1 l0_2 a0_3 a0_4 a0_5 a0_6 l1).bind fun t587 => (some (t587, true))) = some (r1, r2) := by rw [if_pos rfl] at H; exact H
  clear H
  have H := H1
  clear H1
  replace H := Option.bind_eq_some_iff.mp H
  obtain ⟨t587, A50, H⟩ := H
  replace H : (some (t587, true)) = some (r1, r2) := H
  have A5 := Aside0.mk A50
  clear A50
  simp only [Option.some.injEq, Prod.mk.injEq] at H
  obtain ⟨rfl, rfl⟩ := H
  go_enter Try.func25, Try.ntmps25
  go_wp2_with (first | ((with_reducible refine gate_dst (N := 2) rfl ?_); refine box_event ?hg (N := 2) ?hd (cs := #[.int .i64 a0_0, .slice A0_1 l0_1.length c0_1, .slice A0_2 l0_2.length c0_2, .int .i64 a0_3, .int .i64 a0_4, .int .i64 a0_5, .int .i64 a0_6]) (t := 45) ?hr ?_; (case hd => rfl); (case hg => rfl); (case hr => first | (go_simp; done) | (go_simp; rfl)); intro gb585 hg w6 hbox hb; have n0_ := Aside0.mk (below_step (by repeat (first | (with_reducible first | exact HB.out | apply below_alloc | apply pw_below_drewN | apply below_drew1) | exact HB.out)) hb); have n1_ := Aside0.mk (hbox); have n2_ := Aside0.mk ((by rw [hg]; exact (below_size (by repeat (first | (with_reducible first | exact HB.out | apply below_alloc | apply pw_below_drewN | apply below_drew1) | exact HB.out))) : w.heap.size ≤ gb585)); have n3_ := Aside0.mk ((by rw [hg]; exact (below_size (by repeat (first | (with_reducible first | exact HB.out | apply below_alloc | apply pw_below_drewN | apply below_drew1) | exact HB.out))) : w.heap.size ≤ gb585)); clear HB; have HB := n0_; have BK585 := n1_; have GW585 := n2_; have GE585 := n3_; clear n0_ n1_ n2_ n3_; clear hb hbox hg; have hcz7_0 : w6.cell? ⟨gb585, 0, none⟩ = some (.int .i64 a0_0) := (blk_cell BK585.out 0).trans rfl; have hcz7_1 : w6.cell? ⟨gb585, 1, none⟩ = some (.slice A0_1 l0_1.length c0_1) := (blk_cell BK585.out 1).trans rfl; have hcz7_2 : w6.cell? ⟨gb585, 2, none⟩ = some (.slice A0_2 l0_2.length c0_2) := (blk_cell BK585.out 2).trans rfl; have hcz7_3 : w6.cell? ⟨gb585, 3, none⟩ = some (.int .i64 a0_3) := (blk_cell BK585.out 3).trans rfl; have hcz7_4 : w6.cell? ⟨gb585, 4, none⟩ = some (.int .i64 a0_4) := (blk_cell BK585.out 4).trans rfl; have hcz7_5 : w6.cell? ⟨gb585, 5, none⟩ = some (.int .i64 a0_5) := (blk_cell BK585.out 5).trans rfl; have hcz7_6 : w6.cell? ⟨gb585, 6, none⟩ = some (.int .i64 a0_6) := (blk_cell BK585.out 6).trans rfl; have hfz7_0 := blk_frozen BK585.out 0; have hfz7_1 := blk_frozen BK585.out 1; have hfz7_2 := blk_frozen BK585.out 2; have hfz7_3 := blk_frozen BK585.out 3; have hfz7_4 := blk_frozen BK585.out 4; have hfz7_5 := blk_frozen BK585.out 5; have hfz7_6 := blk_frozen BK585.out 6) | ((with_reducible refine gate_callee (f := 48) rfl ?_); refine goesL_ (some 8) rfl rfl Try.func48 (by kernel_rfl) rfl #[.agg #[.int .i64 a0_0, .slice A0_1 l0_1.length c0_1, .slice A0_2 l0_2.length c0_2, .int .i64 a0_3, .int .i64 a0_4, .int .i64 a0_5, .int .i64 a0_6], .slice A1 l1.length c1] rfl (by (try simp only [List.map_toArray, List.map_cons, List.map_nil]); first | done | rfl | (simp only [List.length_drop, List.length_take]; rfl)) ?_; (with_reducible refine (impl_areSkews.calls a0_0 _ _ l0_1 _ _ l0_2 a0_3 a0_4 a0_5 a0_6 _ _ l1 true _ ?side1 ?side2 ?side3 ?side4 ?side5 ?side6 A3.out).mono ?_); (case side1 => repeat (first | exact (Kd.C_below HR0_1.out HB.out) | (with_reducible refine Kd.C_alloc ?_ _) | (with_reducible refine Kd.C_drewN ?_ _) | (with_reducible refine Kd.C_drew ?_))); (case side2 => exact HC0_1.out); (case side3 => repeat (first | exact (Kd.C_below HR0_2.out HB.out) | (with_reducible refine Kd.C_alloc ?_ _) | (with_reducible refine Kd.C_drewN ?_ _) | (with_reducible refine Kd.C_drew ?_))); (case side4 => exact HC0_2.out); (case side5 => repeat (first | exact (Kd.C_below HR1.out HB.out) | (with_reducible refine Kd.C_alloc ?_ _) | (with_reducible refine Kd.C_drewN ?_ _) | (with_reducible refine Kd.C_drew ?_))); (case side6 => exact HC1.out); rintro e w8 ⟨rfl, hb⟩; refine ⟨_, rfl, ?_⟩; have n0_ := Aside0.mk (blk_below (g := gb585) (o := .cells #[.int .i64 a0_0, .slice A0_1 l0_1.length c0_1, .slice A0_2 l0_2.length c0_2, .int .i64 a0_3, .int .i64 a0_4, .int .i64 a0_5, .int .i64 a0_6] 45 (0, 0)) (by (with_reducible repeat (first | refine blk_drewN ?_ _ | refine blk_drew ?_ | refine blk_alloc ?_ _)); exact BK585.out) hb); have n1_ := Aside0.mk (below_step (by repeat (first | (with_reducible first | exact HB.out | apply below_alloc | apply pw_below_drewN | apply below_drew1 | refine below_set ?_ GE585.out) | exact HB.out)) hb); clear BK585; clear HB; have BK585 := n0_; have HB := n1_; clear n0_ n1_; (try clear hb); (try clear hb2); (try clear hk); (try clear hi); have hcz9_0 : w8.cell? ⟨gb585, 0, none⟩ = some (.int .i64 a0_0) := (blk_cell BK585.out 0).trans rfl; have hcz9_1 : w8.cell? ⟨gb585, 1, none⟩ = some (.slice A0_1 l0_1.length c0_1) := (blk_cell BK585.out 1).trans rfl; have hcz9_2 : w8.cell? ⟨gb585, 2, none⟩ = some (.slice A0_2 l0_2.length c0_2) := (blk_cell BK585.out 2).trans rfl; have hcz9_3 : w8.cell? ⟨gb585, 3, none⟩ = some (.int .i64 a0_3) := (blk_cell BK585.out 3).trans rfl; have hcz9_4 : w8.cell? ⟨gb585, 4, none⟩ = some (.int .i64 a0_4) := (blk_cell BK585.out 4).trans rfl; have hcz9_5 : w8.cell? ⟨gb585, 5, none⟩ = some (.int .i64 a0_5) := (blk_cell BK585.out 5).trans rfl; have hcz9_6 : w8.cell? ⟨gb585, 6, none⟩ = some (.int .i64 a0_6) := (blk_cell BK585.out 6).trans rfl; have hfz9_0 := blk_frozen BK585.out 0; have hfz9_1 := blk_frozen BK585.out 1; have hfz9_2 := blk_frozen BK585.out 2; have hfz9_3 := blk_frozen BK585.out 3; have hfz9_4 := blk_frozen BK585.out 4; have hfz9_5 := blk_frozen BK585.out 5; have hfz9_6 := blk_frozen BK585.out 6) | ((with_reducible refine gate_callee (f := 59) rfl ?_); refine goesL_ (some 12) rfl rfl Try.func59 (by kernel_rfl) rfl #[.agg #[.int .i64 a0_0, .slice A0_1 l0_1.length c0_1, .slice A0_2 l0_2.length c0_2, .int .i64 a0_3, .int .i64 a0_4, .int .i64 a0_5, .int .i64 a0_6], .slice A1 l1.length c1] rfl (by (try simp only [List.map_toArray, List.map_cons, List.map_nil]); first | done | rfl | (simp only [List.length_drop, List.length_take]; rfl)) ?_; (with_reducible refine (impl_holdRoom.calls k a0_0 _ _ l0_1 _ _ l0_2 a0_3 a0_4 a0_5 a0_6 _ _ l1 t587 _ ?side1 ?side2 ?side3 ?side4 ?side5 ?side6 A5.out).mono ?_); (case side1 => repeat (first | exact (Kd.C_below HR0_1.out HB.out) | (with_reducible refine Kd.C_alloc ?_ _) | (with_reducible refine Kd.C_drewN ?_ _) | (with_reducible refine Kd.C_drew ?_))); (case side2 => exact HC0_1.out); (case side3 => repeat (first | exact (Kd.C_below HR0_2.out HB.out) | (with_reducible refine Kd.C_alloc ?_ _) | (with_reducible refine Kd.C_drewN ?_ _) | (with_reducible refine Kd.C_drew ?_))); (case side4 => exact HC0_2.out); (case side5 => repeat (first | exact (Kd.C_below HR1.out HB.out) | (with_reducible refine Kd.C_alloc ?_ _) | (with_reducible refine Kd.C_drewN ?_ _) | (with_reducible refine Kd.C_drew ?_))); (case side6 => exact HC1.out); rintro e w10 ⟨rfl, hb⟩; refine ⟨_, rfl, ?_⟩; have n0_ := Aside0.mk (blk_below (g := gb585) (o := .cells #[.int .i64 a0_0, .slice A0_1 l0_1.length c0_1, .slice A0_2 l0_2.length c0_2, .int .i64 a0_3, .int .i64 a0_4, .int .i64 a0_5, .int .i64 a0_6] 45 (0, 0)) (by (with_reducible repeat (first | refine blk_drewN ?_ _ | refine blk_drew ?_ | refine blk_alloc ?_ _)); exact BK585.out) hb); have n1_ := Aside0.mk (below_step (by repeat (first | (with_reducible first | exact HB.out | apply below_alloc | apply pw_below_drewN | apply below_drew1 | refine below_set ?_ GE585.out) | exact HB.out)) hb); clear BK585; clear HB; have BK585 := n0_; have HB := n1_; clear n0_ n1_; (try clear hb); (try clear hb2); (try clear hk); (try clear hi)))
  go_ret2
  exact ⟨by first | rfl | (simp [errW_none, errW_some] <;> rfl) | (simp [*, errW_none, errW_some] <;> rfl), by repeat (first | (with_reducible first | exact HB.out | apply below_alloc | apply pw_below_drewN | apply below_drew1 | refine below_set ?_ GE585.out) | exact HB.out)⟩
 ·replace c4 := Bool.eq_false_iff.mpr c4
  subst c4
  have H1 : (some (0, false)) = some (r1, r2) := by rw [if_neg (show ¬ (false = true) by decide)] at H; exact H
  clear H
  have H := H1
  clear H1
  simp only [Option.some.injEq, Prod.mk.injEq] at H
  obtain ⟨rfl, rfl⟩ := H
  go_enter Try.func25, Try.ntmps25
  go_wp2_with (first | ((with_reducible refine gate_dst (N := 2) rfl ?_); refine box_event ?hg (N := 2) ?hd (cs := #[.int .i64 a0_0, .slice A0_1 l0_1.length c0_1, .slice A0_2 l0_2.length c0_2, .int .i64 a0_3, .int .i64 a0_4, .int .i64 a0_5, .int .i64 a0_6]) (t := 45) ?hr ?_; (case hd => rfl); (case hg => rfl); (case hr => first | (go_simp; done) | (go_simp; rfl)); intro gb585 hg w11 hbox hb; have n0_ := Aside0.mk (below_step (by repeat (first | (with_reducible first | exact HB.out | apply below_alloc | apply pw_below_drewN | apply below_drew1) | exact HB.out)) hb); have n1_ := Aside0.mk (hbox); have n2_ := Aside0.mk ((by rw [hg]; exact (below_size (by repeat (first | (with_reducible first | exact HB.out | apply below_alloc | apply pw_below_drewN | apply below_drew1) | exact HB.out))) : w.heap.size ≤ gb585)); have n3_ := Aside0.mk ((by rw [hg]; exact (below_size (by repeat (first | (with_reducible first | exact HB.out | apply below_alloc | apply pw_below_drewN | apply below_drew1) | exact HB.out))) : w.heap.size ≤ gb585)); clear HB; have HB := n0_; have BK585 := n1_; have GW585 := n2_; have GE585 := n3_; clear n0_ n1_ n2_ n3_; clear hb hbox hg; have hcz12_0 : w11.cell? ⟨gb585, 0, none⟩ = some (.int .i64 a0_0) := (blk_cell BK585.out 0).trans rfl; have hcz12_1 : w11.cell? ⟨gb585, 1, none⟩ = some (.slice A0_1 l0_1.length c0_1) := (blk_cell BK585.out 1).trans rfl; have hcz12_2 : w11.cell? ⟨gb585, 2, none⟩ = some (.slice A0_2 l0_2.length c0_2) := (blk_cell BK585.out 2).trans rfl; have hcz12_3 : w11.cell? ⟨gb585, 3, none⟩ = some (.int .i64 a0_3) := (blk_cell BK585.out 3).trans rfl; have hcz12_4 : w11.cell? ⟨gb585, 4, none⟩ = some (.int .i64 a0_4) := (blk_cell BK585.out 4).trans rfl; have hcz12_5 : w11.cell? ⟨gb585, 5, none⟩ = some (.int .i64 a0_5) := (blk_cell BK585.out 5).trans rfl; have hcz12_6 : w11.cell? ⟨gb585, 6, none⟩ = some (.int .i64 a0_6) := (blk_cell BK585.out 6).trans rfl; have hfz12_0 := blk_frozen BK585.out 0; have hfz12_1 := blk_frozen BK585.out 1; have hfz12_2 := blk_frozen BK585.out 2; have hfz12_3 := blk_frozen BK585.out 3; have hfz12_4 := blk_frozen BK585.out 4; have hfz12_5 := blk_frozen BK585.out 5; have hfz12_6 := blk_frozen BK585.out 6) | ((with_reducible refine gate_callee (f := 48) rfl ?_); refine goesL_ (some 8) rfl rfl Try.func48 (by kernel_rfl) rfl #[.agg #[.int .i64 a0_0, .slice A0_1 l0_1.length c0_1, .slice A0_2 l0_2.length c0_2, .int .i64 a0_3, .int .i64 a0_4, .int .i64 a0_5, .int .i64 a0_6], .slice A1 l1.length c1] rfl (by (try simp only [List.map_toArray, List.map_cons, List.map_nil]); first | done | rfl | (simp only [List.length_drop, List.length_take]; rfl)) ?_; (with_reducible refine (impl_areSkews.calls a0_0 _ _ l0_1 _ _ l0_2 a0_3 a0_4 a0_5 a0_6 _ _ l1 false _ ?side1 ?side2 ?side3 ?side4 ?side5 ?side6 A3.out).mono ?_); (case side1 => repeat (first | exact (Kd.C_below HR0_1.out HB.out) | (with_reducible refine Kd.C_alloc ?_ _) | (with_reducible refine Kd.C_drewN ?_ _) | (with_reducible refine Kd.C_drew ?_))); (case side2 => exact HC0_1.out); (case side3 => repeat (first | exact (Kd.C_below HR0_2.out HB.out) | (with_reducible refine Kd.C_alloc ?_ _) | (with_reducible refine Kd.C_drewN ?_ _) | (with_reducible refine Kd.C_drew ?_))); (case side4 => exact HC0_2.out); (case side5 => repeat (first | exact (Kd.C_below HR1.out HB.out) | (with_reducible refine Kd.C_alloc ?_ _) | (with_reducible refine Kd.C_drewN ?_ _) | (with_reducible refine Kd.C_drew ?_))); (case side6 => exact HC1.out); rintro e w13 ⟨rfl, hb⟩; refine ⟨_, rfl, ?_⟩; have n0_ := Aside0.mk (blk_below (g := gb585) (o := .cells #[.int .i64 a0_0, .slice A0_1 l0_1.length c0_1, .slice A0_2 l0_2.length c0_2, .int .i64 a0_3, .int .i64 a0_4, .int .i64 a0_5, .int .i64 a0_6] 45 (0, 0)) (by (with_reducible repeat (first | refine blk_drewN ?_ _ | refine blk_drew ?_ | refine blk_alloc ?_ _)); exact BK585.out) hb); have n1_ := Aside0.mk (below_step (by repeat (first | (with_reducible first | exact HB.out | apply below_alloc | apply pw_below_drewN | apply below_drew1 | refine below_set ?_ GE585.out) | exact HB.out)) hb); clear BK585; clear HB; have BK585 := n0_; have HB := n1_; clear n0_ n1_; (try clear hb); (try clear hb2); (try clear hk); (try clear hi)))
  go_ret2
  exact ⟨by first | rfl | (simp [errW_none, errW_some] <;> rfl) | (simp [*, errW_none, errW_some] <;> rfl), by repeat (first | (with_reducible first | exact HB.out | apply below_alloc | apply pw_below_drewN | apply below_drew1 | refine below_set ?_ GE585.out) | exact HB.out)⟩

end Go.Proofs.Ytahjcmmgdcedpaa.Pa

/- What HoldRoom answers. -/
namespace Go.Proofs.Ytahjcmmgdcedpaa.Pure
open Go.RowKit Go.Proofs.Ytahjcmmgdcedpaa.Pa Go.Proofs.YtahjcmmgdcedpaaW.PrintWords Go.Proofs.YtahjcmmgdcedpaaW.PrintLast
set_option linter.unusedVariables false
set_option linter.unusedSimpArgs false

section
variable (n : Int) (gates : List S56) (data : List Int) (a3 a4 a5 a6 : Int) (per : Int) (skews : List Int) (hw : ∀ g ∈ gates, g.f2.length ≤ 1048576) (hd : data.length ≤ 1048576) (hs : skews.length ≤ 1048576)
def holdR : Int × Bool := if skewsB n gates data a3 a4 a5 a6 skews = true then (holdL n a4 a5 a6 gates data skews, true) else (0, false)
include hw
theorem implHold : Ev (fun k => impl_HoldRoom.f k n gates data a3 a4 a5 a6 skews) (holdR n gates data a3 a4 a5 a6 skews) := by
 unfold holdR
 cases h : skewsB n gates data a3 a4 a5 a6 skews with
 | false =>
  refine ⟨2500000, fun k hk => ?_⟩
  show impl_HoldRoom.f k n gates data a3 a4 a5 a6 skews = _
  unfold impl_HoldRoom.f
  rw [implSkews n gates data a3 a4 a5 a6 skews, h]
  simp
 | true =>
  obtain ⟨R, hl, _⟩ := skews_ready hw h
  obtain ⟨K, hK⟩ := hold_tells n a3 a4 a5 a6 gates data skews R hl
  refine ⟨K + 2500000, fun k hk => ?_⟩
  have k1 : impl_holdRoom.f k n gates data a3 a4 a5 a6 skews = _ := hK k (by omega)
  show impl_HoldRoom.f k n gates data a3 a4 a5 a6 skews = _
  unfold impl_HoldRoom.f
  rw [implSkews n gates data a3 a4 a5 a6 skews, h]
  simp only [Option.bind_some, if_true]
  rw [k1]
  rfl
include hd hs
end
end Go.Proofs.Ytahjcmmgdcedpaa.Pure

namespace Go.Proofs.Ytahjcmmgdcedpaa.Pa
open Go.RowKit Go.Proofs.YtahjcmmgdcedpaaW.PrintWords Go.Proofs.YtahjcmmgdcedpaaW.PrintLast Go.Proofs.YtahjcmmgdcedpaaW.PrintMore
attribute [local go_sem] max2_int min2_int max_two min_two max_three min_three max_four min_four   -- for this text's walks alone
set_option linter.unusedVariables false
set_option linter.unusedSimpArgs false

/-! ### slices_Clone_int64_int64: function 75 -/
/-- Clone: the same numbers, in memory of its own. -/
def slices_Clone_int64_int64.f (l0 : List Int) : Option (List Int) := if l0.length < 17592186044416 then some l0 else none
set_option maxHeartbeats 4000000 in
set_option maxRecDepth 100000 in
theorem slices_Clone_int64_int64.calls (A0 : Option Addr) (c0 : Nat) (l0 : List Int) (r : List Int) (w : World) (hr0 : Kd.C (Kd.int .i64) w A0 l0.length l0) (hc0 : l0.length ≤ c0) (h : slices_Clone_int64_int64.f l0 = some r) :
  Calls Try.prog 75 #[.slice A0 l0.length c0] w fun e w' => ∃ v0_ : Value, e = .returned (v0_) ∧ Kd.R (Kd.int .i64) 2 w' w.heap.size (fun _ => True) v0_ r ∧ Below w.heap.size w w' := by
 unfold slices_Clone_int64_int64.f at h
 by_cases hc : l0.length < 17592186044416
 case neg => rw [if_neg hc] at h; exact absurd h (by simp)
 rw [if_pos hc] at h
 obtain rfl := Option.some.inj h
 have hu := Try.underlying28
 have hnil := fun (w : World) (a : Option Addr) (n c : Nat) => Lib.run_eql_slice_nil (P := Try.prog) w 28 2 a n c 0 0 hu
 have HR := Aside0.mk hr0
 have HC := Aside0.mk hc
 clear hr0 hc hc0 h
 cases A0 with
 | none =>
  have hl : l0 = [] := by
   cases l0 with
   | nil => rfl
   | cons x l =>
    obtain ⟨ad, e, _⟩ := HR.out.2.2 (by simp)
    cases e
  subst hl
  go_enter Try.func75, Try.ntmps75
  go_wp2
  go_ret
  exact ⟨_, rfl, Kd.R_nil _ _ _ _ _, by repeat (first | exact Below.refl _ _ | apply pw_below_drewN)⟩
 | some ad =>
  go_enter Try.func75, Try.ntmps75
  go_wp2_with (first | ((with_reducible refine gate_dst (N := 5) rfl ?_); refine Kd.R_lit (Kd.int .i64) _ 2 ?hg (N := 5) ?hd (xs := ([] : List Int)) (inner := []) (ok := fun _ => True) (okp := fun _ => True) ?hr ?hp (fun _ hk => hk) trivial (Below.refl _ _) (Nat.le_refl _) (by simp) ?_; (case hd => rfl); (case hg => rfl); (case hr => first | (go_simp; done) | (go_simp; rfl)); (case hp => exact (Reps.none _ _)); intro v5 w5 ho hb hg_ hnew_; have HO := Aside0.mk ho; have HB := Aside0.mk hb; clear hg_ hnew_ ho hb) | ((with_reducible refine gate_builtin (b := .append) (xs := #[.tmp 5, .tmp 6]) rfl ?_); at_builtin; refine Kd.R_append_rows (Kd.int .i64) (w0 := w) w.heap.size rfl (.tmp 5) (.tmp 6) 28 2 (.int .i64 0) 8 rfl Try.underlying28 info2 rfl (by decide) (by omega) v5 [] l0 _ _ _ (fun _ => True) (fun _ => False) rfl rfl HO.out (Kd.C_below HR.out HB.out) (fun _ _ h => h) (fun _ h => h.elim) (fun _ _ => trivial) HB.out (below_size HB.out) (by have := HC.out; simp; omega) ?_; intro v6 w6 ho hb hg hat; have HO2 := Aside0.mk ho; have HB2 := Aside0.mk hb; clear ho hb hg hat))
  go_ret
  exact ⟨_, rfl, by have h_ := HO2.out; rw [List.nil_append] at h_; exact h_, HB2.out⟩

end Go.Proofs.Ytahjcmmgdcedpaa.Pa

namespace Go.Proofs.Ytahjcmmgdcedpaa.Pa
open Go.RowKit Go.Proofs.YtahjcmmgdcedpaaW.PrintWords Go.Proofs.YtahjcmmgdcedpaaW.PrintLast Go.Proofs.YtahjcmmgdcedpaaW.PrintMore
attribute [local go_sem] max2_int min2_int max_two min_two max_three min_three max_four min_four   -- for this text's walks alone
set_option linter.unusedVariables false
set_option linter.unusedSimpArgs false

/-! ### impl_copyCircuit: function 52 -/
def impl_copyCircuit.l0 : Nat → List (S56) → List (S56) → Int → Int → Int → List (S56) → List Int → Int → Int → Int → Int → Option (Int × (List (S56)) × List Int × Int × Int × Int × Int)
 | 0, _, _, _, _, _, _, _, _, _, _, _ => none
 | k + 1, x3, x8, x9, x10, x498000, x498001, x498002, x498003, x498004, x498005, x498006 => if x10 < x9 then (if 0 ≤ x10 then (if x10 < (x8.length : Int) then ((slices_Clone_int64_int64.f ((rd_T56 x8 x10).f2)).bind fun t504 => (if x3.length < 3518437208883 then (impl_copyCircuit.l0 k (x3 ++ [(⟨(rd_T56 x8 x10).f0, (rd_T56 x8 x10).f1, t504⟩ : S56)]) x8 x9 (wrap64 (x10 + 1)) x498000 x498001 x498002 x498003 x498004 x498005 x498006) else (none))) else (none)) else (none)) else ((slices_Clone_int64_int64.f x498002).bind fun t510 => (some (x498000, x3, t510, x498003, x498004, x498005, x498006)))
def impl_copyCircuit.f (k : Nat) (a0_0 : Int) (l0_1 : List (S56)) (l0_2 : List Int) (a0_3 : Int) (a0_4 : Int) (a0_5 : Int) (a0_6 : Int) : Option (Int × (List (S56)) × List Int × Int × Int × Int × Int) := impl_copyCircuit.l0 k (([] : List (S56))) l0_1 (l0_1.length : Int) 0 a0_0 l0_1 l0_2 a0_3 a0_4 a0_5 a0_6
def impl_copyCircuit.T5 : Bool × List (List Nat × List Nat) := (true, [([], []), ([], []), ([1], [1]), ([], []), ([3], [3]), ([], []), ([5], [5]), ([6], [6]), ([2, 4, 7], [2, 4, 7]), ([8], [8]), ([0, 9, 7], [0, 9]), ([10, 10, 0, 1, 2, 3, 4, 5, 6, 7, 8, 9, 10], [0, 10])])
def impl_copyCircuit.B5 : List Nat := [0, 0, 2, 0, 8, 0, 32, 96, 254, 510, 1023, 2047]
theorem impl_copyCircuit.tab5 : rtab .any (opsOf Try.f52 5) = impl_copyCircuit.T5 := by kernel_rfl
theorem impl_copyCircuit.bits5 : waitsOk impl_copyCircuit.T5.2 impl_copyCircuit.B5 = true := by kernel_rfl
set_option maxHeartbeats 8000000 in
set_option maxRecDepth 100000 in
theorem impl_copyCircuit.calls (k : Nat) (a0_0 : Int) (A0_1 : Option Addr) (c0_1 : Nat) (l0_1 : List (S56)) (A0_2 : Option Addr) (c0_2 : Nat) (l0_2 : List Int) (a0_3 : Int) (a0_4 : Int) (a0_5 : Int) (a0_6 : Int) (r1 : Int) (r2 : List (S56)) (r3 : List Int) (r4 : Int) (r5 : Int) (r6 : Int) (r7 : Int) (w : World) (hr0_1 : Kd.C k56 w A0_1 l0_1.length l0_1) (hc0_1 : l0_1.length ≤ c0_1) (hr0_2 : Kd.C (Kd.int .i64) w A0_2 l0_2.length l0_2) (hc0_2 : l0_2.length ≤ c0_2) (h : impl_copyCircuit.f k a0_0 l0_1 l0_2 a0_3 a0_4 a0_5 a0_6 = some (r1, r2, r3, r4, r5, r6, r7)) :
  Calls Try.prog 52 #[.agg #[.int .i64 a0_0, .slice A0_1 l0_1.length c0_1, .slice A0_2 l0_2.length c0_2, .int .i64 a0_3, .int .i64 a0_4, .int .i64 a0_5, .int .i64 a0_6]] w fun e w' => ∃ v1_ v2_ : Value, e = .returned (.agg #[.int .i64 r1, v1_, v2_, .int .i64 r4, .int .i64 r5, .int .i64 r6, .int .i64 r7]) ∧ Kd.S k56 56 w' w.heap.size (fun k_ => some k_ ≠ (v2_ : Value).ownBlock) v1_ r2 ∧ Kd.R (Kd.int .i64) 2 w' w.heap.size (fun _ => True) v2_ r3 ∧ Below w.heap.size w w' := by
 have hu45 := Try.underlying45
 have hu56 := Try.underlying56
 have HR0_1 := Aside0.mk hr0_1
 have HC0_1 := Aside0.mk hc0_1
 clear hr0_1 hc0_1
 have HR0_2 := Aside0.mk hr0_2
 have HC0_2 := Aside0.mk hc0_2
 clear hr0_2 hc0_2
 have HB := Aside0.mk (Below.refl w.heap.size w)
 have H : (impl_copyCircuit.l0 k (([] : List (S56))) l0_1 (l0_1.length : Int) 0 a0_0 l0_1 l0_2 a0_3 a0_4 a0_5 a0_6) = some (r1, r2, r3, r4, r5, r6, r7) := h
 clear h
 obtain ⟨y499, hy499⟩ : ∃ y_ : List (S56), y_ = (([] : List (S56))) := ⟨_, rfl⟩
 (try rw [Option.bind_some] at H); try rw [← hy499] at H
 have Ny499 := Aside0.mk hy499
 clear hy499
 have H' := Aside0.mk H
 clear H
 go_enter Try.func52, Try.ntmps52
 go_wp2_with (first | ((with_reducible refine gate_dst (N := 1) rfl ?_); refine box_event ?hg (N := 1) ?hd (cs := #[.int .i64 a0_0, .slice A0_1 l0_1.length c0_1, .slice A0_2 l0_2.length c0_2, .int .i64 a0_3, .int .i64 a0_4, .int .i64 a0_5, .int .i64 a0_6]) (t := 45) ?hr ?_; (case hd => rfl); (case hg => rfl); (case hr => first | (go_simp; done) | (go_simp; rfl)); intro gb497 hg w2 hbox hb; have n0_ := Aside0.mk (below_step (by with_reducible repeat (first | exact HB.out | apply below_alloc | apply pw_below_drewN | apply below_drew1)) hb); have n1_ := Aside0.mk (hbox); have n2_ := Aside0.mk ((by rw [hg]; exact (below_size (by with_reducible repeat (first | exact HB.out | apply below_alloc | apply pw_below_drewN | apply below_drew1))) : w.heap.size ≤ gb497)); have n3_ := Aside0.mk ((by rw [hg]; exact (below_size (by with_reducible repeat (first | exact HB.out | apply below_alloc | apply pw_below_drewN | apply below_drew1))) : w.heap.size ≤ gb497)); clear HB; have HB := n0_; have BK497 := n1_; have GW497 := n2_; have GE497 := n3_; clear n0_ n1_ n2_ n3_; clear hb hbox hg) | ((with_reducible refine gate_dst (N := 2) rfl ?_); refine box_event ?hg (N := 2) ?hd (cs := #[.int .i64 0, .slice none 0 0, .slice none 0 0, .int .i64 0, .int .i64 0, .int .i64 0, .int .i64 0]) (t := 45) ?hr ?_; (case hd => rfl); (case hg => rfl); (case hr => first | (go_simp; done) | (go_simp; rfl)); intro gb498 hg w3 hbox hb; have n0_ := Aside0.mk (blk_below (g := gb497) (by (with_reducible repeat (first | refine blk_drewN ?_ _ | refine blk_drew ?_ | refine blk_alloc ?_ _)); exact BK497.out) hb); have n1_ := Aside0.mk (below_step (by with_reducible repeat (first | exact HB.out | apply below_alloc | apply pw_below_drewN | apply below_drew1 | refine below_set ?_ GE497.out)) hb); have n2_ := Aside0.mk (hbox); have n3_ := Aside0.mk ((by rw [hg]; exact (below_size (by with_reducible repeat (first | exact HB.out | apply below_alloc | apply pw_below_drewN | apply below_drew1 | refine below_set ?_ GE497.out))) : w.heap.size ≤ gb498)); have n4_ := Aside0.mk ((by rw [hg]; exact (below_size (by with_reducible repeat (first | exact HB.out | apply below_alloc | apply pw_below_drewN | apply below_drew1 | refine below_set ?_ GE497.out))) : w.heap.size ≤ gb498)); have n5_ := Aside0.mk ((by rw [hg]; exact Nat.ne_of_lt (blk_lt (g := gb497) (by (with_reducible repeat (first | refine blk_drewN ?_ _ | refine blk_drew ?_ | refine blk_alloc ?_ _)); exact BK497.out)) : gb497 ≠ gb498)); have n6_ := Aside0.mk ((by rw [hg]; exact Nat.ne_of_gt (blk_lt (g := gb497) (by (with_reducible repeat (first | refine blk_drewN ?_ _ | refine blk_drew ?_ | refine blk_alloc ?_ _)); exact BK497.out)) : gb498 ≠ gb497)); clear BK497; clear HB; have BK497 := n0_; have HB := n1_; have BK498 := n2_; have GW498 := n3_; have GE498 := n4_; have NB497_498 := n5_; have NB498_497 := n6_; clear n0_ n1_ n2_ n3_ n4_ n5_ n6_; clear hb hbox hg) | ((with_reducible refine gate_dst (N := 6) rfl ?_); refine Kd.S_lit k56 _ 56 ?hg (N := 6) ?hd (xs := ([] : List (S56))) (inner := []) (ok := fun _ => True) (okp := fun _ => True) ?hr ?hp (fun _ hk => hk) trivial (Below.refl _ _) (Nat.le_refl _) (by simp) ?_; (case hd => rfl); (case hg => rfl); (case hr => first | (go_simp; done) | (go_simp; rfl)); (case hp => exact (Reps.none _ _)); intro v500 w4 ho5 hb hg_ hnew_; clear hg_ hnew_; (first | rw [← Ny499.out] at ho5 | (simp only [Int.reduceToNat] at ho5; rw [← Ny499.out] at ho5)); have n0_ := Aside0.mk (Kd.S_lower ho5 (below_size (by with_reducible repeat (first | exact HB.out | apply below_alloc | apply pw_below_drewN | apply below_drew1 | refine below_set ?_ GE497.out | refine below_set ?_ GE498.out)))); have n1_ := Aside0.mk (blk_below (g := gb497) (by (with_reducible repeat (first | refine blk_drewN ?_ _ | refine blk_drew ?_ | refine blk_alloc ?_ _)); exact BK497.out) hb); have n2_ := Aside0.mk (blk_below (g := gb498) (by (with_reducible repeat (first | refine blk_drewN ?_ _ | refine blk_drew ?_ | refine blk_alloc ?_ _)); exact BK498.out) hb); have n3_ := Aside0.mk (below_step (by with_reducible repeat (first | exact HB.out | apply below_alloc | apply pw_below_drewN | apply below_drew1 | refine below_set ?_ GE497.out | refine below_set ?_ GE498.out)) hb); clear BK497; clear BK498; clear HB; have HO501 := n0_; have BK497 := n1_; have BK498 := n2_; have HB := n3_; clear n0_ n1_ n2_ n3_; clear hb ho5; have hnb6 := NB497_498.out; have hnc6 := NB498_497.out; have hcz7_0 : w4.cell? ⟨gb497, 0, none⟩ = some (.int .i64 a0_0) := (blk_cell BK497.out 0).trans rfl; have hcz7_1 : w4.cell? ⟨gb497, 1, none⟩ = some (.slice A0_1 l0_1.length c0_1) := (blk_cell BK497.out 1).trans rfl; have hcz7_2 : w4.cell? ⟨gb497, 2, none⟩ = some (.slice A0_2 l0_2.length c0_2) := (blk_cell BK497.out 2).trans rfl; have hcz7_3 : w4.cell? ⟨gb497, 3, none⟩ = some (.int .i64 a0_3) := (blk_cell BK497.out 3).trans rfl; have hcz7_4 : w4.cell? ⟨gb497, 4, none⟩ = some (.int .i64 a0_4) := (blk_cell BK497.out 4).trans rfl; have hcz7_5 : w4.cell? ⟨gb497, 5, none⟩ = some (.int .i64 a0_5) := (blk_cell BK497.out 5).trans rfl; have hcz7_6 : w4.cell? ⟨gb497, 6, none⟩ = some (.int .i64 a0_6) := (blk_cell BK497.out 6).trans rfl; have hfz7_0 := blk_frozen BK497.out 0; have hfz7_1 := blk_frozen BK497.out 1; have hfz7_2 := blk_frozen BK497.out 2; have hfz7_3 := blk_frozen BK497.out 3; have hfz7_4 := blk_frozen BK497.out 4; have hfz7_5 := blk_frozen BK497.out 5; have hfz7_6 := blk_frozen BK497.out 6))
 go_loopg [3, 10] k (fun kq v3 v10 w' => ∃ (x3_1 : List (S56)) (x10_1 : Int), v10 = .int .i64 x10_1 ∧ Aside0 (impl_copyCircuit.l0 kq x3_1 l0_1 (l0_1.length : Int) x10_1 a0_0 l0_1 l0_2 a0_3 a0_4 a0_5 a0_6 = some (r1, r2, r3, r4, r5, r6, r7)) ∧ Aside0 (kq ≤ k) ∧ Aside0 (Kd.S k56 56 w' w.heap.size (fun _ => True) v3 x3_1) ∧ Aside0 (w'.heap[gb497]? = some (.cells #[.int .i64 a0_0, (.slice A0_1 l0_1.length c0_1), (.slice A0_2 l0_2.length c0_2), .int .i64 a0_3, .int .i64 a0_4, .int .i64 a0_5, .int .i64 a0_6] 45 (0, 0))) ∧ Aside0 (w'.heap[gb498]? = some (.cells #[.int .i64 0, (.slice none 0 0), (.slice none 0 0), .int .i64 0, .int .i64 0, .int .i64 0, .int .i64 0] 45 (0, 0))) ∧ Aside0 (Below w.heap.size w w'))
 case atStart => exact ⟨(y499), (0), (by first | rfl | (simp; done) | (simp [*]; done)), H', ⟨Nat.le_refl _⟩, ⟨by (with_reducible repeat (first | apply Kd.S_alloc | apply Kd.S_drewN | apply Kd.S_drew)); exact HO501.out⟩, ⟨by (with_reducible repeat (first | refine blk_drewN ?_ _ | refine blk_drew ?_ | refine blk_alloc ?_ _)); exact BK497.out⟩, ⟨by (with_reducible repeat (first | refine blk_drewN ?_ _ | refine blk_drew ?_ | refine blk_alloc ?_ _)); exact BK498.out⟩, ⟨by with_reducible repeat (first | exact HB.out | apply below_alloc | apply pw_below_drewN | apply below_drew1 | refine below_set ?_ GE497.out | refine below_set ?_ GE498.out)⟩⟩
 case round =>
  clear H'
  try clear p2
  try clear c5
  try clear c6
  try clear hcz7_0
  try clear hcz7_1
  try clear hcz7_2
  try clear hcz7_3
  try clear hcz7_4
  try clear hcz7_5
  try clear hcz7_6
  try clear hfz7_0
  try clear hfz7_1
  try clear hfz7_2
  try clear hfz7_3
  try clear hfz7_4
  try clear hfz7_5
  try clear hfz7_6
  obtain ⟨x3_1, x10_1, rfl, HA, HK1, HO_3, BK497, BK498, HB⟩ := hrel
  cases gk with
  | zero => exact absurd HA.out (by simp [impl_copyCircuit.l0])
  | succ k1 =>
   have H := HA.out
   clear HA
   simp only [impl_copyCircuit.l0] at H
   by_cases c8 : x10_1 < (l0_1.length : Int)
   ·rw [if_pos c8] at H
    have c8b0 : decide (x10_1 < (l0_1.length : Int)) = true := decide_eq_true c8
    clear c8
    by_cases c9 : 0 ≤ x10_1
    case neg => rw [if_neg c9] at H; exact absurd H (by simp)
    rw [if_pos c9] at H
    have c9b0 : decide (0 ≤ x10_1) = true := decide_eq_true c9
    clear c9
    by_cases c10 : x10_1 < (l0_1.length : Int)
    case neg => rw [if_neg c10] at H; exact absurd H (by simp)
    rw [if_pos c10] at H
    have c10b0 : decide (x10_1 < (l0_1.length : Int)) = true := decide_eq_true c10
    clear c10
    replace H := Option.bind_eq_some_iff.mp H
    obtain ⟨t504, A110, H⟩ := H
    try dsimp only at H
    have A11 := Aside0.mk A110
    clear A110
    by_cases c12 : x3_1.length < 3518437208883
    case neg => rw [if_neg c12] at H; exact absurd H (by simp)
    rw [if_pos c12] at H
    have LMc12 := Aside0.mk c12
    clear c12
    obtain ⟨y507, hy507⟩ : ∃ y_ : List (S56), y_ = (x3_1 ++ [(⟨(rd_T56 l0_1 x10_1).f0, (rd_T56 l0_1 x10_1).f1, t504⟩ : S56)]) := ⟨_, rfl⟩
    (try rw [Option.bind_some] at H); try rw [← hy507] at H
    have Ny507 := Aside0.mk hy507
    clear hy507
    have H' := Aside0.mk H
    clear H
    have p502 : 0 ≤ (x10_1 : Int) := of_decide_eq_true (by with_reducible assumption)
    have q502 : x10_1 < (l0_1.length : Int) := of_decide_eq_true (by with_reducible assumption)
    obtain ⟨ad502, A502_2, c502_2, e502, hx502_0, hx502_1, hx502_2, hl502_2, hi502_2⟩ := at_T56 HR0_1.out x10_1 p502 q502
    cases e502
    replace hx502_0 := (HB.out.cell (World.block_lt_of_cell? w _ hx502_0)).trans hx502_0
    replace hx502_1 := (HB.out.cell (World.block_lt_of_cell? w _ hx502_1)).trans hx502_1
    replace hx502_2 := (HB.out.cell (World.block_lt_of_cell? w _ hx502_2)).trans hx502_2
    have HR502_2 := Aside0.mk hi502_2
    have HC502_2 := Aside0.mk hl502_2
    clear hi502_2 hl502_2
    replace p502 := eq_true p502
    replace q502 := eq_true q502
    try go_wp2_with (first | ((with_reducible refine gate_dst (N := 5) rfl ?_); refine box_event ?hg (N := 5) ?hd (cs := #[.int .i64 0, .int .i64 0, .slice none 0 0]) (t := 56) ?hr ?_; (case hd => rfl); (case hg => rfl); (case hr => first | (go_simp; done) | (go_simp; rfl)); intro gb503 hg w13 hbox hb; have n0_ := Aside0.mk (Kd.S_below (Kd.S_elderB (by (with_reducible repeat (first | apply Kd.S_alloc | apply Kd.S_drewN | apply Kd.S_drew)); exact HO_3.out) gb503 (Nat.le_of_eq hg.symm)) hb); have n1_ := Aside0.mk (blk_below (g := gb497) (by (with_reducible repeat (first | refine blk_drewN ?_ _ | refine blk_drew ?_ | refine blk_alloc ?_ _)); exact BK497.out) hb); have n2_ := Aside0.mk (blk_below (g := gb498) (by (with_reducible repeat (first | refine blk_drewN ?_ _ | refine blk_drew ?_ | refine blk_alloc ?_ _)); exact BK498.out) hb); have n3_ := Aside0.mk (below_step (by with_reducible repeat (first | exact HB.out | apply below_alloc | apply pw_below_drewN | apply below_drew1 | refine below_set ?_ GE497.out | refine below_set ?_ GE498.out)) hb); have n4_ := Aside0.mk (hbox); have n5_ := Aside0.mk ((by rw [hg]; exact (below_size (by with_reducible repeat (first | exact HB.out | apply below_alloc | apply pw_below_drewN | apply below_drew1 | refine below_set ?_ GE497.out | refine below_set ?_ GE498.out))) : w.heap.size ≤ gb503)); have n6_ := Aside0.mk ((by rw [hg]; exact (below_size (by with_reducible repeat (first | exact HB.out | apply below_alloc | apply pw_below_drewN | apply below_drew1 | refine below_set ?_ GE497.out | refine below_set ?_ GE498.out))) : w.heap.size ≤ gb503)); have n7_ := Aside0.mk ((by rw [hg]; exact Nat.ne_of_lt (blk_lt (g := gb497) (by (with_reducible repeat (first | refine blk_drewN ?_ _ | refine blk_drew ?_ | refine blk_alloc ?_ _)); exact BK497.out)) : gb497 ≠ gb503)); have n8_ := Aside0.mk ((by rw [hg]; exact Nat.ne_of_gt (blk_lt (g := gb497) (by (with_reducible repeat (first | refine blk_drewN ?_ _ | refine blk_drew ?_ | refine blk_alloc ?_ _)); exact BK497.out)) : gb503 ≠ gb497)); have n9_ := Aside0.mk ((by rw [hg]; exact Nat.ne_of_lt (blk_lt (g := gb498) (by (with_reducible repeat (first | refine blk_drewN ?_ _ | refine blk_drew ?_ | refine blk_alloc ?_ _)); exact BK498.out)) : gb498 ≠ gb503)); have n10_ := Aside0.mk ((by rw [hg]; exact Nat.ne_of_gt (blk_lt (g := gb498) (by (with_reducible repeat (first | refine blk_drewN ?_ _ | refine blk_drew ?_ | refine blk_alloc ?_ _)); exact BK498.out)) : gb503 ≠ gb498)); clear HO_3; clear BK497; clear BK498; clear HB; have HO_3 := n0_; have BK497 := n1_; have BK498 := n2_; have HB := n3_; have BK503 := n4_; have GW503 := n5_; have GE503 := n6_; have NB497_503 := n7_; have NB503_497 := n8_; have NB498_503 := n9_; have NB503_498 := n10_; clear n0_ n1_ n2_ n3_ n4_ n5_ n6_ n7_ n8_ n9_ n10_; clear hb hbox hg; have hnb14 := NB503_497.out; have hnc14 := NB497_503.out; have hnb15 := NB503_498.out; have hnc15 := NB498_503.out; have hcz16_0 : w13.cell? ⟨gb503, 0, none⟩ = some (.int .i64 0) := (blk_cell BK503.out 0).trans rfl; have hcz16_1 : w13.cell? ⟨gb503, 1, none⟩ = some (.int .i64 0) := (blk_cell BK503.out 1).trans rfl; have hcz16_2 : w13.cell? ⟨gb503, 2, none⟩ = some (.slice none 0 0) := (blk_cell BK503.out 2).trans rfl; have hfz16_0 := blk_frozen BK503.out 0; have hfz16_1 := blk_frozen BK503.out 1; have hfz16_2 := blk_frozen BK503.out 2))
    have n0_ : Aside0 (Kd.S k56 56 (((w13.setCell ⟨gb503, 0, none⟩ (.int .i64 ((rd_T56 l0_1 x10_1).f0))).setCell ⟨gb503, 1, none⟩ (.int .i64 ((rd_T56 l0_1 x10_1).f1))).setCell ⟨gb503, 2, none⟩ (.slice A502_2 ((rd_T56 l0_1 x10_1).f2).length c502_2)) w.heap.size (fun k_ => k_ ≠ gb503) u3 x3_1) := ⟨by (with_reducible repeat (first | apply Kd.S_alloc | apply Kd.S_drewN | apply Kd.S_drew)); exact Kd.S_mono (Kd.S_far (p := ⟨gb503, 2, none⟩) (Kd.S_far (p := ⟨gb503, 1, none⟩) (Kd.S_far (p := ⟨gb503, 0, none⟩) (Kd.S_mono HO_3.out (fun k_ hk => (⟨hk, hk.2⟩ : _ ∧ k_ ≠ gb503))) (fun _ hk => hk.2) (.int .i64 ((rd_T56 l0_1 x10_1).f0))) (fun _ hk => hk.2) (.int .i64 ((rd_T56 l0_1 x10_1).f1))) (fun _ hk => hk.2) (.slice A502_2 ((rd_T56 l0_1 x10_1).f2).length c502_2)) (fun _ hk => hk.1.2)⟩
    have n1_ : Aside0 ((((w13.setCell ⟨gb503, 0, none⟩ (.int .i64 ((rd_T56 l0_1 x10_1).f0))).setCell ⟨gb503, 1, none⟩ (.int .i64 ((rd_T56 l0_1 x10_1).f1))).setCell ⟨gb503, 2, none⟩ (.slice A502_2 ((rd_T56 l0_1 x10_1).f2).length c502_2)).heap[gb497]? = some (.cells #[.int .i64 a0_0, .slice (some ad502) l0_1.length c0_1, .slice A0_2 l0_2.length c0_2, .int .i64 a0_3, .int .i64 a0_4, .int .i64 a0_5, .int .i64 a0_6] 45 (0, 0))) := ⟨by (with_reducible repeat (first | refine blk_drewN ?_ _ | refine blk_drew ?_ | refine blk_alloc ?_ _)); refine blk_far ?_ NB497_503.out _; (with_reducible repeat (first | refine blk_drewN ?_ _ | refine blk_drew ?_ | refine blk_alloc ?_ _)); refine blk_far ?_ NB497_503.out _; (with_reducible repeat (first | refine blk_drewN ?_ _ | refine blk_drew ?_ | refine blk_alloc ?_ _)); refine blk_far ?_ NB497_503.out _; (with_reducible repeat (first | refine blk_drewN ?_ _ | refine blk_drew ?_ | refine blk_alloc ?_ _)); exact BK497.out⟩
    have n2_ : Aside0 ((((w13.setCell ⟨gb503, 0, none⟩ (.int .i64 ((rd_T56 l0_1 x10_1).f0))).setCell ⟨gb503, 1, none⟩ (.int .i64 ((rd_T56 l0_1 x10_1).f1))).setCell ⟨gb503, 2, none⟩ (.slice A502_2 ((rd_T56 l0_1 x10_1).f2).length c502_2)).heap[gb498]? = some (.cells #[.int .i64 0, .slice none 0 0, .slice none 0 0, .int .i64 0, .int .i64 0, .int .i64 0, .int .i64 0] 45 (0, 0))) := ⟨by (with_reducible repeat (first | refine blk_drewN ?_ _ | refine blk_drew ?_ | refine blk_alloc ?_ _)); refine blk_far ?_ NB498_503.out _; (with_reducible repeat (first | refine blk_drewN ?_ _ | refine blk_drew ?_ | refine blk_alloc ?_ _)); refine blk_far ?_ NB498_503.out _; (with_reducible repeat (first | refine blk_drewN ?_ _ | refine blk_drew ?_ | refine blk_alloc ?_ _)); refine blk_far ?_ NB498_503.out _; (with_reducible repeat (first | refine blk_drewN ?_ _ | refine blk_drew ?_ | refine blk_alloc ?_ _)); exact BK498.out⟩
    have n3_ : Aside0 ((((w13.setCell ⟨gb503, 0, none⟩ (.int .i64 ((rd_T56 l0_1 x10_1).f0))).setCell ⟨gb503, 1, none⟩ (.int .i64 ((rd_T56 l0_1 x10_1).f1))).setCell ⟨gb503, 2, none⟩ (.slice A502_2 ((rd_T56 l0_1 x10_1).f2).length c502_2)).heap[gb503]? = some (.cells #[.int .i64 ((rd_T56 l0_1 x10_1).f0), .int .i64 ((rd_T56 l0_1 x10_1).f1), .slice A502_2 ((rd_T56 l0_1 x10_1).f2).length c502_2] 56 (0, 0))) := ⟨by (with_reducible repeat (first | refine blk_drewN ?_ _ | refine blk_drew ?_ | refine blk_alloc ?_ _)); refine blk_put (cs := #[.int .i64 ((rd_T56 l0_1 x10_1).f0), .int .i64 ((rd_T56 l0_1 x10_1).f1), .slice none 0 0]) ?_ 2 _ rfl; (with_reducible repeat (first | refine blk_drewN ?_ _ | refine blk_drew ?_ | refine blk_alloc ?_ _)); refine blk_put (cs := #[.int .i64 ((rd_T56 l0_1 x10_1).f0), .int .i64 0, .slice none 0 0]) ?_ 1 _ rfl; (with_reducible repeat (first | refine blk_drewN ?_ _ | refine blk_drew ?_ | refine blk_alloc ?_ _)); refine blk_put (cs := #[.int .i64 0, .int .i64 0, .slice none 0 0]) ?_ 0 _ rfl; (with_reducible repeat (first | refine blk_drewN ?_ _ | refine blk_drew ?_ | refine blk_alloc ?_ _)); exact BK503.out⟩
    have n4_ : Aside0 (Below w.heap.size w (((w13.setCell ⟨gb503, 0, none⟩ (.int .i64 ((rd_T56 l0_1 x10_1).f0))).setCell ⟨gb503, 1, none⟩ (.int .i64 ((rd_T56 l0_1 x10_1).f1))).setCell ⟨gb503, 2, none⟩ (.slice A502_2 ((rd_T56 l0_1 x10_1).f2).length c502_2))) := ⟨by with_reducible repeat (first | exact HB.out | apply below_alloc | apply pw_below_drewN | apply below_drew1 | refine below_set ?_ GE497.out | refine below_set ?_ GE498.out | refine below_set ?_ GE503.out)⟩
    (try clear HO_3)
    (try clear BK497)
    (try clear BK498)
    (try clear BK503)
    (try clear HB)
    generalize (((w13.setCell ⟨gb503, 0, none⟩ (.int .i64 ((rd_T56 l0_1 x10_1).f0))).setCell ⟨gb503, 1, none⟩ (.int .i64 ((rd_T56 l0_1 x10_1).f1))).setCell ⟨gb503, 2, none⟩ (.slice A502_2 ((rd_T56 l0_1 x10_1).f2).length c502_2)) = w17 at n0_ n1_ n2_ n3_ n4_ ⊢
    have HO_3 := n0_
    have BK497 := n1_
    have BK498 := n2_
    have BK503 := n3_
    have HB := n4_
    clear n0_ n1_ n2_ n3_ n4_
    have n0_ := Aside0.mk (Kd.S_drew HO_3.out)
    have n1_ := Aside0.mk (blk_drew BK497.out)
    have n2_ := Aside0.mk (blk_drew BK498.out)
    have n3_ := Aside0.mk (blk_drew BK503.out)
    have n4_ := Aside0.mk (below_drew1 HB.out)
    clear HO_3
    clear BK497
    clear BK498
    clear BK503
    clear HB
    have HO_3 := n0_
    have BK497 := n1_
    have BK498 := n2_
    have BK503 := n3_
    have HB := n4_
    clear n0_ n1_ n2_ n3_ n4_
    refine start_ (n := 12) (S := fun w' => w'.cell? ⟨gb503, 0, none⟩ = some (.int .i64 ((rd_T56 l0_1 x10_1).f0)) ∧ w'.cell? ⟨gb503, 1, none⟩ = some (.int .i64 ((rd_T56 l0_1 x10_1).f1)) ∧ w'.cell? ⟨gb503, 2, none⟩ = some (.slice A502_2 ((rd_T56 l0_1 x10_1).f2).length c502_2)) (ds := []) #[false, false, false, false, false, false, false, false, false, false, false, false] (by kernel_rfl) rfl rfl ⟨(blk_cell BK503.out 0).trans rfl, (blk_cell BK503.out 1).trans rfl, (blk_cell BK503.out 2).trans rfl⟩ (fun hHeld => ?_); refine with_tabW impl_copyCircuit.tab5 impl_copyCircuit.bits5 (fun HT_ HW_ => ?_)
    generalize w17.drew = w18 at HO_3 BK497 BK498 BK503 HB hHeld ⊢
    refine pure_ (i := 0) (N := some 14) (v := ?_) (a' := ?_) #[true, false, false, false, false, false, false, false, false, false, false, false] rfl rfl (any_of HT_.out (by kernel_rfl)) (fun _ _ _ h => h) (Or.inl ⟨by rfl, ?_⟩) ?_ ?_
    rotate_left
    ·intro w'
     go_simp
     with_reducible rfl
    rotate_left
    ·simp only [Act.put, List.setIfInBounds_toArray, List.set_cons_zero, List.set_cons_succ, i64_w, i32_w]
     rfl
    refine pure_ (i := 1) (N := some 15) (v := ?_) (a' := ?_) #[true, true, false, false, false, false, false, false, false, false, false, false] rfl rfl (any_of HT_.out (by kernel_rfl)) (fun _ _ _ h => h) (Or.inl ⟨by rfl, ?_⟩) ?_ ?_
    rotate_left
    ·intro w'
     go_simp
     with_reducible rfl
    rotate_left
    ·simp only [Act.put, List.setIfInBounds_toArray, List.set_cons_zero, List.set_cons_succ, i64_w, i32_w]
     rfl
    refine pure_ (i := 3) (N := some 17) (v := ?_) (a' := ?_) #[true, true, false, true, false, false, false, false, false, false, false, false] rfl rfl (any_of HT_.out (by kernel_rfl)) (fun _ _ _ h => h) (Or.inl ⟨by rfl, ?_⟩) ?_ ?_
    rotate_left
    ·intro w'
     go_simp
     with_reducible rfl
    rotate_left
    ·simp only [Act.put, List.setIfInBounds_toArray, List.set_cons_zero, List.set_cons_succ, i64_w, i32_w]
     rfl
    refine pure_ (i := 5) (N := some 19) (v := ?_) (a' := ?_) #[true, true, false, true, false, true, false, false, false, false, false, false] rfl rfl (any_of HT_.out (by kernel_rfl)) (fun _ _ _ h => h) (Or.inl ⟨by rfl, ?_⟩) ?_ ?_
    rotate_left
    ·intro w'
     go_simp
     with_reducible rfl
    rotate_left
    ·simp only [Act.put, List.setIfInBounds_toArray, List.set_cons_zero, List.set_cons_succ, i64_w, i32_w]
     rfl
    refine take_ (i := 2) (N := some 16) (v := ?_) (a' := ?_) #[true, true, true, true, false, true, false, false, false, false, false, false] rfl rfl (take_ofW HT_.out HW_.out (by kernel_rfl)) (fun _ _ _ h => h) (Or.inl ⟨by rfl, ?_⟩) hHeld ?_ ?_
    rotate_left
    ·rintro w' ⟨s0, s1, s2⟩
     go_simp
     with_reducible rfl
    rotate_left
    ·simp only [Act.put, List.setIfInBounds_toArray, List.set_cons_zero, List.set_cons_succ, i64_w, i32_w]
     rfl
    refine take_ (i := 4) (N := some 18) (v := ?_) (a' := ?_) #[true, true, true, true, true, true, false, false, false, false, false, false] rfl rfl (take_ofW HT_.out HW_.out (by kernel_rfl)) (fun _ _ _ h => h) (Or.inl ⟨by rfl, ?_⟩) hHeld ?_ ?_
    rotate_left
    ·rintro w' ⟨s0, s1, s2⟩
     go_simp
     with_reducible rfl
    rotate_left
    ·simp only [Act.put, List.setIfInBounds_toArray, List.set_cons_zero, List.set_cons_succ, i64_w, i32_w]
     rfl
    refine take_ (i := 6) (N := some 20) (v := ?_) (a' := ?_) #[true, true, true, true, true, true, true, false, false, false, false, false] rfl rfl (take_ofW HT_.out HW_.out (by kernel_rfl)) (fun _ _ _ h => h) (Or.inl ⟨by rfl, ?_⟩) hHeld ?_ ?_
    rotate_left
    ·rintro w' ⟨s0, s1, s2⟩
     go_simp
     with_reducible rfl
    rotate_left
    ·simp only [Act.put, List.setIfInBounds_toArray, List.set_cons_zero, List.set_cons_succ, i64_w, i32_w]
     rfl
    refine one_ (i := 7) (N := some 21) #[true, true, true, true, true, true, true, true, false, false, false, false] rfl rfl (one_of HT_.out (by kernel_rfl)) (by decide) (fun K hK => ?_)
    refine goes_ Try.func75 (by kernel_rfl) rfl #[.slice A502_2 ((rd_T56 l0_1 x10_1).f2).length c502_2] (by rfl) rfl rfl (by (try simp only [List.map_toArray, List.map_cons, List.map_nil]); first | done | rfl | (simp only [List.length_drop, List.length_take]; rfl)) ?_
    with_reducible refine (slices_Clone_int64_int64.calls _ _ ((rd_T56 l0_1 x10_1).f2) t504 _ ?side1 ?side2 A11.out).mono ?_
    (case side1 => repeat (first | exact (Kd.C_below HR502_2.out HB.out) | (with_reducible refine Kd.C_alloc ?_ _) | (with_reducible refine Kd.C_drewN ?_ _) | (with_reducible refine Kd.C_drew ?_)))
    (case side2 => exact HC502_2.out)
    rintro e w19 ⟨v505, rfl, ho0, hb⟩
    refine ⟨_, rfl, ?_⟩
    have n0_ := Aside0.mk (Kd.S_elder' (by (with_reducible repeat (first | apply Kd.S_alloc | apply Kd.S_drewN | apply Kd.S_drew)); exact HO_3.out) (Kd.R_base ho0) hb)
    have n1_ := Aside0.mk (Kd.R_lower ho0 (below_size (by with_reducible repeat (first | exact HB.out | apply below_alloc | apply pw_below_drewN | apply below_drew1 | refine below_set ?_ GE497.out | refine below_set ?_ GE498.out | refine below_set ?_ GE503.out))))
    have n2_ := Aside0.mk (blk_below (g := gb497) (by (with_reducible repeat (first | refine blk_drewN ?_ _ | refine blk_drew ?_ | refine blk_alloc ?_ _)); exact BK497.out) hb)
    have n3_ := Aside0.mk (blk_below (g := gb498) (by (with_reducible repeat (first | refine blk_drewN ?_ _ | refine blk_drew ?_ | refine blk_alloc ?_ _)); exact BK498.out) hb)
    have n4_ := Aside0.mk (blk_below (g := gb503) (by (with_reducible repeat (first | refine blk_drewN ?_ _ | refine blk_drew ?_ | refine blk_alloc ?_ _)); exact BK503.out) hb)
    have n5_ := Aside0.mk (below_step (by with_reducible repeat (first | exact HB.out | apply below_alloc | apply pw_below_drewN | apply below_drew1 | refine below_set ?_ GE497.out | refine below_set ?_ GE498.out | refine below_set ?_ GE503.out)) hb)
    clear HO_3
    clear BK497
    clear BK498
    clear BK503
    clear HB
    have HO_3 := n0_
    have HO506 := n1_
    have BK497 := n2_
    have BK498 := n3_
    have BK503 := n4_
    have HB := n5_
    clear n0_ n1_ n2_ n3_ n4_ n5_
    (try clear hb)
    (try clear hb2)
    (try clear hk)
    (try clear hi)
    (try clear ho0)
    obtain ⟨Ao20, co20, eo20⟩ := Kd.R_slice HO506.out
    (first | subst eo20 | (injection eo20 with f1_ f2_ f3_; have f4_ := f1_.symm; have f5_ := f3_.symm; clear f1_ f2_ f3_; subst f4_; subst f5_))
    refine hK.out _ _ ⟨(blk_cell BK503.out 0).trans rfl, (blk_cell BK503.out 1).trans rfl, (blk_cell BK503.out 2).trans rfl⟩ (fun hHeld => ?_)
    clear hK K
    refine norm_ (a' := ?_) ?_ ?_
    rotate_left
    ·show Act.put _ (some 21) _ = _
     simp only [Act.put, List.setIfInBounds_toArray, List.set_cons_zero, List.set_cons_succ, i64_w, i32_w]
     rfl
    refine pure_ (i := 8) (N := some 22) (v := ?_) (a' := ?_) #[true, true, true, true, true, true, true, true, true, false, false, false] rfl rfl (any_of HT_.out (by kernel_rfl)) (fun _ _ _ h => h) (Or.inl ⟨by rfl, ?_⟩) ?_ ?_
    rotate_left
    ·intro w'
     go_simp
     with_reducible rfl
    rotate_left
    ·simp only [Act.put, List.setIfInBounds_toArray, List.set_cons_zero, List.set_cons_succ, i64_w, i32_w]
     rfl
    refine one_ (i := 9) (N := some 23) #[true, true, true, true, true, true, true, true, true, true, false, false] rfl rfl (one_of HT_.out (by kernel_rfl)) (by decide) (fun K hK => ?_)
    refine value_ (w1 := ?_) (v := ?_) (by rfl) rfl ?_ ?_
    rotate_left 2
    ·go_simp
     constructor
     ·rfl
     ·rfl
    refine hK.out _ _ ⟨(blk_cell (blk_alloc BK503.out _) 0).trans rfl, (blk_cell (blk_alloc BK503.out _) 1).trans rfl, (blk_cell (blk_alloc BK503.out _) 2).trans rfl⟩ (fun hHeld => ?_)
    clear hK K
    refine norm_ (a' := ?_) ?_ ?_
    rotate_left
    ·show Act.put _ (some 23) _ = _
     simp only [Act.put, List.setIfInBounds_toArray, List.set_cons_zero, List.set_cons_succ, i64_w, i32_w]
     rfl
    refine one_ (i := 10) (N := some 24) #[true, true, true, true, true, true, true, true, true, true, true, false] rfl rfl (one_of HT_.out (by kernel_rfl)) (by decide) (fun K hK => ?_)
    refine Kd.S_append_step k56 (w0 := w) w.heap.size (by rfl) (.tmp 14) (.tmp 23) 43 56 (.agg #[(.int .i64 0), (.int .i64 0), (.slice none 0 0)]) 40 rfl Try.underlying43 info56 rfl (by decide) (by omega) u3 x3_1 (⟨(rd_T56 l0_1 x10_1).f0, (rd_T56 l0_1 x10_1).f1, t504⟩ : S56) [.int .i64 ((rd_T56 l0_1 x10_1).f0), .int .i64 ((rd_T56 l0_1 x10_1).f1), .slice Ao20 t504.length co20] (fun k_ => k_ ≠ gb503) (fun k_ => some k_ = (.slice Ao20 t504.length co20 : Value).ownBlock) rfl rfl ?aP (fun k_ hk_ => ((Kd.R_mono (ok' := fun k_ => ((fun k_ => k_ ≠ gb503)) k_ ∧ some k_ ≠ (u3 : Value).ownBlock) (Kd.R_types (Kd.R_apart' (HO506.out) (Kd.S_typed HO_3.out) (by decide)) BK503.out (by decide)) (fun k_ hk => ⟨hk.2, hk.1.2⟩))).1 k_ hk_.symm) ?aF ?aO ?aB ?aS ?aL ?_
    (case aP => exact k56_mkM _ _ _ (⟨(rd_T56 l0_1 x10_1).f0, (rd_T56 l0_1 x10_1).f1, t504⟩ : S56) (Kd.R_mono (Kd.R_tight rfl (Kd.R_mono (ok' := fun k_ => ((fun k_ => k_ ≠ gb503)) k_ ∧ some k_ ≠ (u3 : Value).ownBlock) (Kd.R_types (Kd.R_apart' (HO506.out) (Kd.S_typed HO_3.out) (by decide)) BK503.out (by decide)) (fun k_ hk => ⟨hk.2, hk.1.2⟩))) (fun _ h_ => h_)))
    (case aB => exact (by with_reducible repeat (first | exact HB.out | apply below_alloc | apply pw_below_drewN | apply below_drew1 | refine below_set ?_ GE497.out | refine below_set ?_ GE498.out | refine below_set ?_ GE503.out)))
    (case aF => exact (fun k_ hk => Kd.freshB (g := gb503) (by (with_reducible repeat (first | refine blk_drewN ?_ _ | refine blk_drew ?_ | refine blk_alloc ?_ _)); exact BK503.out) k_ hk))
    (case aO => exact (by (with_reducible repeat (first | apply Kd.S_alloc | apply Kd.S_drewN | apply Kd.S_drew)); exact Kd.S_mono HO_3.out (fun k_ hk => ⟨hk.1, fun e_ => hk.2 e_⟩)))
    (case aS => exact (below_size (by with_reducible repeat (first | exact HB.out | apply below_alloc | apply pw_below_drewN | apply below_drew1 | refine below_set ?_ GE497.out | refine below_set ?_ GE498.out | refine below_set ?_ GE503.out))))
    (case aL => have := LMc12.out; omega)
    intro v508 w21 ho hb hg hat
    rw [← Ny507.out] at ho
    have n0_ := Aside0.mk (blk_grown (g := gb497) (by (with_reducible repeat (first | refine blk_drewN ?_ _ | refine blk_drew ?_ | refine blk_alloc ?_ _)); exact BK497.out) hg (Kd.S_ne HO_3.out BK497.out (by decide)))
    have n1_ := Aside0.mk (blk_grown (g := gb498) (by (with_reducible repeat (first | refine blk_drewN ?_ _ | refine blk_drew ?_ | refine blk_alloc ?_ _)); exact BK498.out) hg (Kd.S_ne HO_3.out BK498.out (by decide)))
    have n2_ := Aside0.mk (blk_grown (g := gb503) (by (with_reducible repeat (first | refine blk_drewN ?_ _ | refine blk_drew ?_ | refine blk_alloc ?_ _)); exact BK503.out) hg (Kd.S_away HO_3.out (fun _ hk => hk.1)))
    have n3_ := Aside0.mk (hb)
    have n4_ := Aside0.mk (ho)
    clear BK497
    clear BK498
    clear BK503
    clear HB
    clear HO_3
    clear HO506
    have BK497 := n0_
    have BK498 := n1_
    have BK503 := n2_
    have HB := n3_
    have HO509 := n4_
    clear n0_ n1_ n2_ n3_ n4_
    clear ho hb hg hat
    refine hK.out _ _ ⟨(blk_cell BK503.out 0).trans rfl, (blk_cell BK503.out 1).trans rfl, (blk_cell BK503.out 2).trans rfl⟩ (fun hHeld => ?_)
    clear hK K
    refine norm_ (a' := ?_) ?_ ?_
    rotate_left
    ·show Act.put _ (some 24) _ = _
     simp only [Act.put, List.setIfInBounds_toArray, List.set_cons_zero, List.set_cons_succ, i64_w, i32_w]
     rfl
    refine pure_ (i := 11) (N := some 3) (v := ?_) (a' := ?_) #[true, true, true, true, true, true, true, true, true, true, true, true] rfl rfl (any_of HT_.out (by kernel_rfl)) (fun _ _ _ h => h) (Or.inl ⟨by rfl, ?_⟩) ?_ ?_
    rotate_left
    ·intro w'
     go_simp
     with_reducible rfl
    rotate_left
    ·simp only [Act.put, List.setIfInBounds_toArray, List.set_cons_zero, List.set_cons_succ, i64_w, i32_w]
     rfl
    refine done_ (done_of HT_.out (by kernel_rfl)) ?_
    try go_wp2
    go_roundg k1
    case measure => have := HK1.out; omega
    case rel => exact ⟨(y507), (wrap64 (x10_1 + 1)), (by first | rfl | (simp; done) | (simp [*]; done)), H', ⟨by have := HK1.out; omega⟩, ⟨by (with_reducible repeat (first | apply Kd.S_alloc | apply Kd.S_drewN | apply Kd.S_drew)); exact Kd.S_mono HO509.out (fun _ hk => trivial)⟩, ⟨by (with_reducible repeat (first | refine blk_drewN ?_ _ | refine blk_drew ?_ | refine blk_alloc ?_ _)); exact BK497.out⟩, ⟨by (with_reducible repeat (first | refine blk_drewN ?_ _ | refine blk_drew ?_ | refine blk_alloc ?_ _)); exact BK498.out⟩, ⟨by with_reducible repeat (first | exact HB.out | apply below_alloc | apply pw_below_drewN | apply below_drew1 | refine below_set ?_ GE497.out | refine below_set ?_ GE498.out | refine below_set ?_ GE503.out)⟩⟩
   ·rw [if_neg c8] at H
    have c8b0 : decide (x10_1 < (l0_1.length : Int)) = false := decide_eq_false c8
    clear c8
    replace H := Option.bind_eq_some_iff.mp H
    obtain ⟨t510, A220, H⟩ := H
    try dsimp only at H
    have A22 := Aside0.mk A220
    clear A220
    simp only [Option.some.injEq, Prod.mk.injEq] at H
    obtain ⟨rfl, rfl, rfl, rfl, rfl, rfl, rfl⟩ := H
    have hnb23 := NB497_498.out
    have hnc23 := NB498_497.out
    have hcz24_0 : wr.cell? ⟨gb497, 0, none⟩ = some (.int .i64 a0_0) := (blk_cell BK497.out 0).trans rfl
    have hcz24_1 : wr.cell? ⟨gb497, 1, none⟩ = some (.slice A0_1 l0_1.length c0_1) := (blk_cell BK497.out 1).trans rfl
    have hcz24_2 : wr.cell? ⟨gb497, 2, none⟩ = some (.slice A0_2 l0_2.length c0_2) := (blk_cell BK497.out 2).trans rfl
    have hcz24_3 : wr.cell? ⟨gb497, 3, none⟩ = some (.int .i64 a0_3) := (blk_cell BK497.out 3).trans rfl
    have hcz24_4 : wr.cell? ⟨gb497, 4, none⟩ = some (.int .i64 a0_4) := (blk_cell BK497.out 4).trans rfl
    have hcz24_5 : wr.cell? ⟨gb497, 5, none⟩ = some (.int .i64 a0_5) := (blk_cell BK497.out 5).trans rfl
    have hcz24_6 : wr.cell? ⟨gb497, 6, none⟩ = some (.int .i64 a0_6) := (blk_cell BK497.out 6).trans rfl
    have hfz24_0 := blk_frozen BK497.out 0
    have hfz24_1 := blk_frozen BK497.out 1
    have hfz24_2 := blk_frozen BK497.out 2
    have hfz24_3 := blk_frozen BK497.out 3
    have hfz24_4 := blk_frozen BK497.out 4
    have hfz24_5 := blk_frozen BK497.out 5
    have hfz24_6 := blk_frozen BK497.out 6
    go_wp2_with (first | ((with_reducible refine gate_callee (f := 75) rfl ?_); refine goesL_ (some 29) rfl rfl Try.func75 (by kernel_rfl) rfl #[.slice A0_2 l0_2.length c0_2] rfl (by (try simp only [List.map_toArray, List.map_cons, List.map_nil]); first | done | rfl | (simp only [List.length_drop, List.length_take]; rfl)) ?_; (with_reducible refine (slices_Clone_int64_int64.calls _ _ l0_2 t510 _ ?side1 ?side2 A22.out).mono ?_); (case side1 => repeat (first | exact (Kd.C_below HR0_2.out HB.out) | (with_reducible refine Kd.C_alloc ?_ _) | (with_reducible refine Kd.C_drewN ?_ _) | (with_reducible refine Kd.C_drew ?_))); (case side2 => exact HC0_2.out); rintro e w25 ⟨v511, rfl, ho0, hb⟩; refine ⟨_, rfl, ?_⟩; have n0_ := Aside0.mk (Kd.S_elder' (by (with_reducible repeat (first | apply Kd.S_alloc | apply Kd.S_drewN | apply Kd.S_drew)); exact HO_3.out) (Kd.R_base ho0) hb); have n1_ := Aside0.mk (Kd.R_lower ho0 (below_size (by with_reducible repeat (first | exact HB.out | apply below_alloc | apply pw_below_drewN | apply below_drew1 | refine below_set ?_ GE497.out | refine below_set ?_ GE498.out)))); have n2_ := Aside0.mk (blk_below (g := gb497) (by (with_reducible repeat (first | refine blk_drewN ?_ _ | refine blk_drew ?_ | refine blk_alloc ?_ _)); exact BK497.out) hb); have n3_ := Aside0.mk (blk_below (g := gb498) (by (with_reducible repeat (first | refine blk_drewN ?_ _ | refine blk_drew ?_ | refine blk_alloc ?_ _)); exact BK498.out) hb); have n4_ := Aside0.mk (below_step (by with_reducible repeat (first | exact HB.out | apply below_alloc | apply pw_below_drewN | apply below_drew1 | refine below_set ?_ GE497.out | refine below_set ?_ GE498.out)) hb); clear HO_3; clear BK497; clear BK498; clear HB; have HO_3 := n0_; have HO512 := n1_; have BK497 := n2_; have BK498 := n3_; have HB := n4_; clear n0_ n1_ n2_ n3_ n4_; (try clear hb); (try clear hb2); (try clear hk); (try clear hi); (try clear ho0); obtain ⟨Ao26, co26, eo26⟩ := Kd.S_slice HO_3.out; subst eo26; have hcz27_0 : w25.cell? ⟨gb497, 0, none⟩ = some (.int .i64 a0_0) := (blk_cell BK497.out 0).trans rfl; have hcz27_1 : w25.cell? ⟨gb497, 1, none⟩ = some (.slice A0_1 l0_1.length c0_1) := (blk_cell BK497.out 1).trans rfl; have hcz27_2 : w25.cell? ⟨gb497, 2, none⟩ = some (.slice A0_2 l0_2.length c0_2) := (blk_cell BK497.out 2).trans rfl; have hcz27_3 : w25.cell? ⟨gb497, 3, none⟩ = some (.int .i64 a0_3) := (blk_cell BK497.out 3).trans rfl; have hcz27_4 : w25.cell? ⟨gb497, 4, none⟩ = some (.int .i64 a0_4) := (blk_cell BK497.out 4).trans rfl; have hcz27_5 : w25.cell? ⟨gb497, 5, none⟩ = some (.int .i64 a0_5) := (blk_cell BK497.out 5).trans rfl; have hcz27_6 : w25.cell? ⟨gb497, 6, none⟩ = some (.int .i64 a0_6) := (blk_cell BK497.out 6).trans rfl; have hfz27_0 := blk_frozen BK497.out 0; have hfz27_1 := blk_frozen BK497.out 1; have hfz27_2 := blk_frozen BK497.out 2; have hfz27_3 := blk_frozen BK497.out 3; have hfz27_4 := blk_frozen BK497.out 4; have hfz27_5 := blk_frozen BK497.out 5; have hfz27_6 := blk_frozen BK497.out 6; obtain ⟨Ao28, co28, eo28⟩ := Kd.R_slice HO512.out; subst eo28; have hcz29_0 : w25.cell? ⟨gb498, 0, none⟩ = some (.int .i64 0) := (blk_cell BK498.out 0).trans rfl; have hcz29_1 : w25.cell? ⟨gb498, 1, none⟩ = some (.slice none 0 0) := (blk_cell BK498.out 1).trans rfl; have hcz29_2 : w25.cell? ⟨gb498, 2, none⟩ = some (.slice none 0 0) := (blk_cell BK498.out 2).trans rfl; have hcz29_3 : w25.cell? ⟨gb498, 3, none⟩ = some (.int .i64 0) := (blk_cell BK498.out 3).trans rfl; have hcz29_4 : w25.cell? ⟨gb498, 4, none⟩ = some (.int .i64 0) := (blk_cell BK498.out 4).trans rfl; have hcz29_5 : w25.cell? ⟨gb498, 5, none⟩ = some (.int .i64 0) := (blk_cell BK498.out 5).trans rfl; have hcz29_6 : w25.cell? ⟨gb498, 6, none⟩ = some (.int .i64 0) := (blk_cell BK498.out 6).trans rfl; have hfz29_0 := blk_frozen BK498.out 0; have hfz29_1 := blk_frozen BK498.out 1; have hfz29_2 := blk_frozen BK498.out 2; have hfz29_3 := blk_frozen BK498.out 3; have hfz29_4 := blk_frozen BK498.out 4; have hfz29_5 := blk_frozen BK498.out 5; have hfz29_6 := blk_frozen BK498.out 6))
    refine bodyPost_ret (results_cell_row rfl _ _ gb498 45 #[.int .i64 a0_0, .slice Ao26 x3_1.length co26, .slice Ao28 t510.length co28, .int .i64 a0_3, .int .i64 a0_4, .int .i64 a0_5, .int .i64 a0_6] (0, 0) _ rfl (by (with_reducible repeat (first | refine blk_drewN ?_ _ | refine blk_drew ?_ | refine blk_alloc ?_ _)); refine blk_put (cs := #[.int .i64 a0_0, .slice Ao26 x3_1.length co26, .slice Ao28 t510.length co28, .int .i64 a0_3, .int .i64 a0_4, .int .i64 a0_5, .int .i64 0]) ?_ 6 _ rfl; (with_reducible repeat (first | refine blk_drewN ?_ _ | refine blk_drew ?_ | refine blk_alloc ?_ _)); refine blk_put (cs := #[.int .i64 a0_0, .slice Ao26 x3_1.length co26, .slice Ao28 t510.length co28, .int .i64 a0_3, .int .i64 a0_4, .int .i64 0, .int .i64 0]) ?_ 5 _ rfl; (with_reducible repeat (first | refine blk_drewN ?_ _ | refine blk_drew ?_ | refine blk_alloc ?_ _)); refine blk_put (cs := #[.int .i64 a0_0, .slice Ao26 x3_1.length co26, .slice Ao28 t510.length co28, .int .i64 a0_3, .int .i64 0, .int .i64 0, .int .i64 0]) ?_ 4 _ rfl; (with_reducible repeat (first | refine blk_drewN ?_ _ | refine blk_drew ?_ | refine blk_alloc ?_ _)); refine blk_put (cs := #[.int .i64 a0_0, .slice Ao26 x3_1.length co26, .slice Ao28 t510.length co28, .int .i64 0, .int .i64 0, .int .i64 0, .int .i64 0]) ?_ 3 _ rfl; (with_reducible repeat (first | refine blk_drewN ?_ _ | refine blk_drew ?_ | refine blk_alloc ?_ _)); refine blk_put (cs := #[.int .i64 a0_0, .slice Ao26 x3_1.length co26, .slice none 0 0, .int .i64 0, .int .i64 0, .int .i64 0, .int .i64 0]) ?_ 2 _ rfl; (with_reducible repeat (first | refine blk_drewN ?_ _ | refine blk_drew ?_ | refine blk_alloc ?_ _)); refine blk_put (cs := #[.int .i64 a0_0, .slice none 0 0, .slice none 0 0, .int .i64 0, .int .i64 0, .int .i64 0, .int .i64 0]) ?_ 1 _ rfl; (with_reducible repeat (first | refine blk_drewN ?_ _ | refine blk_drew ?_ | refine blk_alloc ?_ _)); refine blk_put (cs := #[.int .i64 0, .slice none 0 0, .slice none 0 0, .int .i64 0, .int .i64 0, .int .i64 0, .int .i64 0]) ?_ 0 _ rfl; (with_reducible repeat (first | refine blk_drewN ?_ _ | refine blk_drew ?_ | refine blk_alloc ?_ _)); refine blk_far ?_ NB498_497.out _; (with_reducible repeat (first | refine blk_drewN ?_ _ | refine blk_drew ?_ | refine blk_alloc ?_ _)); refine blk_far ?_ NB498_497.out _; (with_reducible repeat (first | refine blk_drewN ?_ _ | refine blk_drew ?_ | refine blk_alloc ?_ _)); exact BK498.out) Try.underlying45 rfl (by kernel_rfl)) rfl ?_
    exact ⟨_, _, by first | rfl | (simp [errW_none, errW_some] <;> rfl) | (simp [*, errW_none, errW_some] <;> rfl), by (with_reducible repeat (first | apply Kd.S_alloc | apply Kd.S_drewN | apply Kd.S_drew)); exact Kd.S_mono (Kd.S_far (p := ⟨gb498, 6, none⟩) (Kd.S_far (p := ⟨gb498, 5, none⟩) (Kd.S_far (p := ⟨gb498, 4, none⟩) (Kd.S_far (p := ⟨gb498, 3, none⟩) (Kd.S_far (p := ⟨gb498, 2, none⟩) (Kd.S_far (p := ⟨gb498, 1, none⟩) (Kd.S_far (p := ⟨gb498, 0, none⟩) (Kd.S_far (p := ⟨gb497, 2, none⟩) (Kd.S_far (p := ⟨gb497, 1, none⟩) (Kd.S_types (Kd.S_types HO_3.out BK497.out (by decide)) BK498.out (by decide)) (fun _ hk => hk.1.2) (.slice Ao26 x3_1.length co26)) (fun _ hk => hk.1.2) (.slice Ao28 t510.length co28)) (fun _ hk => hk.2) (.int .i64 a0_0)) (fun _ hk => hk.2) (.slice Ao26 x3_1.length co26)) (fun _ hk => hk.2) (.slice Ao28 t510.length co28)) (fun _ hk => hk.2) (.int .i64 a0_3)) (fun _ hk => hk.2) (.int .i64 a0_4)) (fun _ hk => hk.2) (.int .i64 a0_5)) (fun _ hk => hk.2) (.int .i64 a0_6)) (fun _ hk => hk.1.1.2), by (with_reducible repeat (first | apply Kd.R_alloc | apply Kd.R_drewN | apply Kd.R_drew)); exact Kd.R_mono (Kd.R_far (p := ⟨gb498, 6, none⟩) (Kd.R_far (p := ⟨gb498, 5, none⟩) (Kd.R_far (p := ⟨gb498, 4, none⟩) (Kd.R_far (p := ⟨gb498, 3, none⟩) (Kd.R_far (p := ⟨gb498, 2, none⟩) (Kd.R_far (p := ⟨gb498, 1, none⟩) (Kd.R_far (p := ⟨gb498, 0, none⟩) (Kd.R_far (p := ⟨gb497, 2, none⟩) (Kd.R_far (p := ⟨gb497, 1, none⟩) (Kd.R_types (Kd.R_types HO512.out BK497.out (by decide)) BK498.out (by decide)) (fun _ hk => hk.1.2) (.slice Ao26 x3_1.length co26)) (fun _ hk => hk.1.2) (.slice Ao28 t510.length co28)) (fun _ hk => hk.2) (.int .i64 a0_0)) (fun _ hk => hk.2) (.slice Ao26 x3_1.length co26)) (fun _ hk => hk.2) (.slice Ao28 t510.length co28)) (fun _ hk => hk.2) (.int .i64 a0_3)) (fun _ hk => hk.2) (.int .i64 a0_4)) (fun _ hk => hk.2) (.int .i64 a0_5)) (fun _ hk => hk.2) (.int .i64 a0_6)) (fun _ hk => trivial), by with_reducible repeat (first | exact HB.out | apply below_alloc | apply pw_below_drewN | apply below_drew1 | refine below_set ?_ GE497.out | refine below_set ?_ GE498.out)⟩

end Go.Proofs.Ytahjcmmgdcedpaa.Pa

namespace Go.Proofs.Ytahjcmmgdcedpaa.Pa
open Go.RowKit Go.Proofs.YtahjcmmgdcedpaaW.PrintWords Go.Proofs.YtahjcmmgdcedpaaW.PrintLast Go.Proofs.YtahjcmmgdcedpaaW.PrintMore
attribute [local go_sem] max2_int min2_int max_two min_two max_three min_three max_four min_four   -- for this text's walks alone
set_option linter.unusedVariables false
set_option linter.unusedSimpArgs false

/-! ### impl_PadCircuit_1: function 100050 -/
/-- The test that PadCircuit hands on: a number that is no delay. -/
def badPad (x : Int) : Bool := !(decide (0 ≤ x) && decide (x ≤ 100))
def impl_PadCircuit_1.f (l : List Int) : Option Bool := some (l.any badPad)
set_option maxHeartbeats 4000000 in
set_option maxRecDepth 100000 in
theorem impl_PadCircuit_1.test (w W : World) (x : Int) (hb : Below w.heap.size w W) :
  Calls Try.prog 50 (#[.int .i64 x] ++ #[]) W fun e w' => e = .returned (.bool (badPad x)) ∧ Below w.heap.size w w' := by
 have HB := Aside0.mk hb
 clear hb
 have hq : impl_isDelay.f x = some (decide (0 ≤ x) && decide (x ≤ 100)) := by
  unfold impl_isDelay.f impl_within.f
  by_cases h : 0 ≤ x <;> simp [h]
 have HQ := Aside0.mk hq
 clear hq
 unfold badPad
 generalize (decide (0 ≤ x) && decide (x ≤ 100)) = q at HQ ⊢
 show Calls Try.prog 50 #[.int .i64 x] W _
 go_enter Try.func50, Try.ntmps50
 go_wp2_with (go_at_call 51; refine (impl_isDelay.calls _ q _ HQ.out).mono ?_; rintro e w' ⟨rfl, ⟨nd, rfl⟩⟩)
 go_ret
 exact ⟨rfl, pw_below_drewN HB.out nd⟩
theorem impl_PadCircuit_1.calls (A : Option Addr) (c : Nat) (l : List Int) (r : Bool) (w : World) (hr : Kd.C (Kd.int .i64) w A l.length l) (hc : l.length ≤ c) (h : impl_PadCircuit_1.f l = some r) :
  Calls Try.prog 36 #[.slice A l.length c, .func (.func 50) #[] #[]] w fun e w' => e = .returned (.bool r) ∧ Below w.heap.size w w' := by
 obtain rfl := Option.some.inj h
 exact containsI.calls A c l 50 #[] badPad w hr (enters_of Try.func50 (by kernel_rfl) rfl) (fun W x _ hb => impl_PadCircuit_1.test w W x hb)

end Go.Proofs.Ytahjcmmgdcedpaa.Pa

