-- Written for this claim by a program of this session.
import Derived.Test.YtahjcmmgdcedpaaXPax0
import Derived.Test.YtahjcmmgdcedpaaXCoreP4
namespace Go.Proofs.Ytahjcmmgdcedpaa.Pa
open Go.RowKit Go.Proofs.YtahjcmmgdcedpaaW.PrintWords Go.Proofs.YtahjcmmgdcedpaaW.PrintLast Go.Proofs.YtahjcmmgdcedpaaW.PrintMore
attribute [local go_sem] max2_int min2_int max_two min_two max_three min_three max_four min_four   -- for this text's walks alone
set_option linter.unusedVariables false
set_option linter.unusedSimpArgs false

/-! ### impl_Circuit_delays: function 74 -/
mutual
def impl_Circuit_delays.l0 : Nat → List Int → List Int → List Bool → List (S56) → Int → Int → Int → List (S56) → List Int → Int → Int → Int → Int → Option (List Int × List Int × List Bool)
 | 0, _, _, _, _, _, _, _, _, _, _, _, _, _ => none
 | k + 1, x8, x9, x10, x30, x31, x32, x434000, x434001, x434002, x434003, x434004, x434005, x434006 => if x32 < x31 then (if 0 ≤ x32 then (if x32 < (x30.length : Int) then (impl_Circuit_delays.l1 k x8 x9 x10 (wrap64 (x434000 + x32)) x30 x31 x32 ((rd_T56 x30 x32).f2) (((rd_T56 x30 x32).f2).length : Int) 0 x434000 x434001 x434002 x434003 x434004 x434005 x434006 ((rd_T56 x30 x32).f0) ((rd_T56 x30 x32).f1) ((rd_T56 x30 x32).f2)) else (none)) else (none)) else (some (x8, x9, x10))
def impl_Circuit_delays.l1 : Nat → List Int → List Int → List Bool → Int → List (S56) → Int → Int → List Int → Int → Int → Int → List (S56) → List Int → Int → Int → Int → Int → Int → Int → List Int → Option (List Int × List Int × List Bool)
 | 0, _, _, _, _, _, _, _, _, _, _, _, _, _, _, _, _, _, _, _, _ => none
 | k + 1, x8, x9, x10, x13, x30, x31, x32, x42, x43, x44, x434000, x434001, x434002, x434003, x434004, x434005, x434006, x447000, x447001, x447002 => if x44 < x43 then (if 0 ≤ x44 then (if x44 < (x42.length : Int) then (if 0 ≤ (rd x42 x44) then (if (rd x42 x44) < (x10.length : Int) then (if (rdOf false x10 (rd x42 x44) = true) then (if (rd x42 x44) < (x8.length : Int) then (if (rd x42 x44) < (x9.length : Int) then (if 0 ≤ x13 then (if x13 < (x10.length : Int) then (if rdOf false x10 x13 = true then (if x13 < (x8.length : Int) then (if x13 < (x9.length : Int) then (impl_Circuit_delays.l1 k (x8.set (x13 : Int).toNat (mn (rd x8 x13) (wrap64 ((rd x8 (rd x42 x44)) + x447000)))) (x9.set (x13 : Int).toNat (mx (rd x9 x13) (wrap64 ((rd x9 (rd x42 x44)) + x447001)))) x10 x13 x30 x31 x32 x42 x43 (wrap64 (x44 + 1)) x434000 x434001 x434002 x434003 x434004 x434005 x434006 x447000 x447001 x447002) else (none)) else (none)) else (if x13 < (x8.length : Int) then ((some (x8.set (x13 : Int).toNat (wrap64 ((rd x8 (rd x42 x44)) + x447000)) : List Int)).bind fun y456 => (if x13 < (x9.length : Int) then ((some (x9.set (x13 : Int).toNat (wrap64 ((rd x9 (rd x42 x44)) + x447001)) : List Int)).bind fun y457 => (impl_Circuit_delays.l1 k (y456.set (x13 : Int).toNat (mn (rd y456 x13) (wrap64 ((rd x8 (rd x42 x44)) + x447000)))) (y457.set (x13 : Int).toNat (mx (rd y457 x13) (wrap64 ((rd x9 (rd x42 x44)) + x447001)))) (x10.set (x13 : Int).toNat true) x13 x30 x31 x32 x42 x43 (wrap64 (x44 + 1)) x434000 x434001 x434002 x434003 x434004 x434005 x434006 x447000 x447001 x447002)) else (none))) else (none))) else (none)) else (none)) else (none)) else (none)) else (impl_Circuit_delays.l1 k x8 x9 x10 x13 x30 x31 x32 x42 x43 (wrap64 (x44 + 1)) x434000 x434001 x434002 x434003 x434004 x434005 x434006 x447000 x447001 x447002)) else (none)) else (none)) else (none)) else (none)) else (impl_Circuit_delays.l0 k x8 x9 x10 x30 x31 (wrap64 (x32 + 1)) x434000 x434001 x434002 x434003 x434004 x434005 x434006)
end
def impl_Circuit_delays.f (k : Nat) (a0_0 : Int) (l0_1 : List (S56)) (l0_2 : List Int) (a0_3 : Int) (a0_4 : Int) (a0_5 : Int) (a0_6 : Int) (a1 : Int) : Option (List Int × List Int × List Bool) := (impl_Circuit_nodes.f a0_0 l0_1 l0_2 a0_3 a0_4 a0_5 a0_6).bind fun t434 => (if 0 ≤ t434 then (if (t434 : Int).toNat ≤ 35184372088832 then (if (t434 : Int).toNat ≤ 281474976710656 then ((some (List.replicate (t434 : Int).toNat false : List Bool)).bind fun y441 => (if 0 ≤ a1 then (if a1 < (y441.length : Int) then (impl_Circuit_delays.l0 k (List.replicate (t434 : Int).toNat 0) (List.replicate (t434 : Int).toNat 0) (y441.set (a1 : Int).toNat true) l0_1 (l0_1.length : Int) 0 a0_0 l0_1 l0_2 a0_3 a0_4 a0_5 a0_6) else (none)) else (none))) else (none)) else (none)) else (none))
def impl_Circuit_delays.T2 : Bool × List (List Nat × List Nat) := (true, [([], []), ([0, 0], [0]), ([], []), ([2, 2], [2]), ([], []), ([4, 4], [4]), ([1, 0, 1], [1]), ([3, 6, 0, 1, 2, 3, 6], [3]), ([5, 7, 0, 1, 2, 3, 4, 5, 6, 7], [5])])
def impl_Circuit_delays.B2 : List Nat := [0, 1, 0, 4, 0, 16, 3, 79, 255]
theorem impl_Circuit_delays.tab2 : rtab .any (opsOf Try.f74 2) = impl_Circuit_delays.T2 := by kernel_rfl
theorem impl_Circuit_delays.bits2 : waitsOk impl_Circuit_delays.T2.2 impl_Circuit_delays.B2 = true := by kernel_rfl
def impl_Circuit_delays.T12 : Bool × List (List Nat × List Nat) := (true, [([], []), ([], []), ([0, 1], [0, 1]), ([2], [2]), ([], []), ([4], [4]), ([3, 5], [3, 5]), ([], []), ([], []), ([7, 8], [7, 8]), ([9], [9]), ([], []), ([11], [11]), ([10, 12], [10, 12]), ([6, 0, 1, 2, 3, 4, 5, 6], [6]), ([13, 14, 0, 1, 2, 3, 4, 5, 6, 7, 8, 9, 10, 11, 12, 13, 14], [13])])
def impl_Circuit_delays.B12 : List Nat := [0, 0, 3, 7, 0, 16, 63, 0, 0, 384, 896, 0, 2048, 8064, 127, 32767]
theorem impl_Circuit_delays.tab12 : rtab .any (opsOf Try.f74 12) = impl_Circuit_delays.T12 := by kernel_rfl
theorem impl_Circuit_delays.bits12 : waitsOk impl_Circuit_delays.T12.2 impl_Circuit_delays.B12 = true := by kernel_rfl
def impl_Circuit_delays.T15 : Bool × List (List Nat × List Nat) := (true, [([], []), ([], []), ([], []), ([], []), ([], []), ([], []), ([4, 5], [4, 5]), ([6], [6]), ([], []), ([7, 8], [7, 8]), ([], []), ([], []), ([10, 11], [10, 11]), ([12], [12]), ([], []), ([13, 14], [13, 14]), ([0, 1, 0, 1, 4, 5, 6, 7, 8, 9, 13], [0, 1]), ([16, 9, 0, 1, 4, 5, 6, 7, 8, 9, 13], [9, 16]), ([2, 3, 0, 1, 2, 3, 4, 5, 6, 7, 8, 9, 10, 11, 12, 13, 14, 15, 16, 17], [2, 3]), ([18, 15, 17, 0, 1, 2, 3, 4, 5, 6, 7, 8, 9, 10, 11, 12, 13, 14, 15, 16, 17], [15, 18])])
def impl_Circuit_delays.B15 : List Nat := [0, 0, 0, 0, 0, 0, 48, 112, 0, 496, 0, 0, 3072, 7168, 0, 31744, 16371, 81907, 262143, 524287]
theorem impl_Circuit_delays.tab15 : rtab .any (opsOf Try.f74 15) = impl_Circuit_delays.T15 := by kernel_rfl
theorem impl_Circuit_delays.bits15 : waitsOk impl_Circuit_delays.T15.2 impl_Circuit_delays.B15 = true := by kernel_rfl
set_option maxHeartbeats 8000000 in
set_option maxRecDepth 100000 in
theorem impl_Circuit_delays.calls (k : Nat) (a0_0 : Int) (A0_1 : Option Addr) (c0_1 : Nat) (l0_1 : List (S56)) (A0_2 : Option Addr) (c0_2 : Nat) (l0_2 : List Int) (a0_3 : Int) (a0_4 : Int) (a0_5 : Int) (a0_6 : Int) (a1 : Int) (r1 : List Int) (r2 : List Int) (r3 : List Bool) (w : World) (hr0_1 : Kd.C k56 w A0_1 l0_1.length l0_1) (hc0_1 : l0_1.length ≤ c0_1) (hr0_2 : Kd.C (Kd.int .i64) w A0_2 l0_2.length l0_2) (hc0_2 : l0_2.length ≤ c0_2) (h : impl_Circuit_delays.f k a0_0 l0_1 l0_2 a0_3 a0_4 a0_5 a0_6 a1 = some (r1, r2, r3)) :
  Calls Try.prog 74 #[.agg #[.int .i64 a0_0, .slice A0_1 l0_1.length c0_1, .slice A0_2 l0_2.length c0_2, .int .i64 a0_3, .int .i64 a0_4, .int .i64 a0_5, .int .i64 a0_6], .int .i64 a1] w fun e w' => ∃ v0_ v1_ v2_ : Value, e = .returned (.tuple #[v0_, v1_, v2_]) ∧ Kd.R (Kd.int .i64) 2 w' w.heap.size (fun k_ => some k_ ≠ (v1_ : Value).ownBlock) v0_ r1 ∧ Kd.R (Kd.int .i64) 2 w' w.heap.size (fun k_ => some k_ ≠ (v0_ : Value).ownBlock) v1_ r2 ∧ Kd.R Kd.bool 4 w' w.heap.size (fun _ => True) v2_ r3 ∧ Below w.heap.size w w' := by
 have hu45 := Try.underlying45
 have hu56 := Try.underlying56
 have HR0_1 := Aside0.mk hr0_1
 have HC0_1 := Aside0.mk hc0_1
 clear hr0_1 hc0_1
 have HR0_2 := Aside0.mk hr0_2
 have HC0_2 := Aside0.mk hc0_2
 clear hr0_2 hc0_2
 have HB := Aside0.mk (Below.refl w.heap.size w)
 have H : ((impl_Circuit_nodes.f a0_0 l0_1 l0_2 a0_3 a0_4 a0_5 a0_6).bind fun t434 => (if 0 ≤ t434 then (if (t434 : Int).toNat ≤ 35184372088832 then (if (t434 : Int).toNat ≤ 281474976710656 then ((some (List.replicate (t434 : Int).toNat false : List Bool)).bind fun y441 => (if 0 ≤ a1 then (if a1 < (y441.length : Int) then (impl_Circuit_delays.l0 k (List.replicate (t434 : Int).toNat 0) (List.replicate (t434 : Int).toNat 0) (y441.set (a1 : Int).toNat true) l0_1 (l0_1.length : Int) 0 a0_0 l0_1 l0_2 a0_3 a0_4 a0_5 a0_6) else (none)) else (none))) else (none)) else (none)) else (none))) = some (r1, r2, r3) := h
 clear h
 replace H := Option.bind_eq_some_iff.mp H
 obtain ⟨t434, A30, H⟩ := H
 replace H : (if 0 ≤ t434 then (if (t434 : Int).toNat ≤ 35184372088832 then (if (t434 : Int).toNat ≤ 281474976710656 then ((some (List.replicate (t434 : Int).toNat false : List Bool)).bind fun y441 => (if 0 ≤ a1 then (if a1 < (y441.length : Int) then (impl_Circuit_delays.l0 k (List.replicate (t434 : Int).toNat 0) (List.replicate (t434 : Int).toNat 0) (y441.set (a1 : Int).toNat true) l0_1 (l0_1.length : Int) 0 a0_0 l0_1 l0_2 a0_3 a0_4 a0_5 a0_6) else (none)) else (none))) else (none)) else (none)) else (none)) = some (r1, r2, r3) := H
 have A3 := Aside0.mk A30
 clear A30
 by_cases c4 : 0 ≤ t434
 case neg => rw [if_neg c4] at H; exact absurd H (by simp)
 rw [if_pos c4] at H
 have c4b0 := eq_true c4
 have c4b1 : decide (0 ≤ t434) = true := decide_eq_true c4
 clear c4
 by_cases c5 : (t434 : Int).toNat ≤ 35184372088832
 case neg => rw [if_neg c5] at H; exact absurd H (by simp)
 rw [if_pos c5] at H
 have c5b0 := eq_true c5
 have c5b1 : decide ((t434 : Int).toNat ≤ 35184372088832) = true := decide_eq_true c5
 clear c5
 obtain ⟨y435, hy435⟩ : ∃ y_ : List Int, y_ = (List.replicate (t434 : Int).toNat 0) := ⟨_, rfl⟩
 replace H : (if (t434 : Int).toNat ≤ 281474976710656 then ((some (List.replicate (t434 : Int).toNat false : List Bool)).bind fun y441 => (if 0 ≤ a1 then (if a1 < (y441.length : Int) then (impl_Circuit_delays.l0 k y435 (List.replicate (t434 : Int).toNat 0) (y441.set (a1 : Int).toNat true) l0_1 (l0_1.length : Int) 0 a0_0 l0_1 l0_2 a0_3 a0_4 a0_5 a0_6) else (none)) else (none))) else (none)) = some (r1, r2, r3) := by first | (rw [hy435]; with_reducible exact H) | (have H2_ := (Option.bind_some _ _).symm.trans H; rw [hy435]; with_reducible exact H2_) | (have H2_ := (Option.bind_some _ _).symm.trans H; with_reducible exact H2_) | with_reducible exact H | (rw [hy435]; exact H) | exact H
 have Ny435 := Aside0.mk hy435
 clear hy435
 obtain ⟨y438, hy438⟩ : ∃ y_ : List Int, y_ = (List.replicate (t434 : Int).toNat 0) := ⟨_, rfl⟩
 replace H : (if (t434 : Int).toNat ≤ 281474976710656 then ((some (List.replicate (t434 : Int).toNat false : List Bool)).bind fun y441 => (if 0 ≤ a1 then (if a1 < (y441.length : Int) then (impl_Circuit_delays.l0 k y435 y438 (y441.set (a1 : Int).toNat true) l0_1 (l0_1.length : Int) 0 a0_0 l0_1 l0_2 a0_3 a0_4 a0_5 a0_6) else (none)) else (none))) else (none)) = some (r1, r2, r3) := by first | (rw [hy438]; with_reducible exact H) | (have H2_ := (Option.bind_some _ _).symm.trans H; rw [hy438]; with_reducible exact H2_) | (have H2_ := (Option.bind_some _ _).symm.trans H; with_reducible exact H2_) | with_reducible exact H | (rw [hy438]; exact H) | exact H
 have Ny438 := Aside0.mk hy438
 clear hy438
 by_cases c6 : (t434 : Int).toNat ≤ 281474976710656
 case neg => rw [if_neg c6] at H; exact absurd H (by simp)
 rw [if_pos c6] at H
 have c6b0 := eq_true c6
 have c6b1 : decide ((t434 : Int).toNat ≤ 281474976710656) = true := decide_eq_true c6
 clear c6
 obtain ⟨y441, hy441⟩ : ∃ y_ : List Bool, y_ = (List.replicate (t434 : Int).toNat false) := ⟨_, rfl⟩
 replace H : (if 0 ≤ a1 then (if a1 < (y441.length : Int) then (impl_Circuit_delays.l0 k y435 y438 (y441.set (a1 : Int).toNat true) l0_1 (l0_1.length : Int) 0 a0_0 l0_1 l0_2 a0_3 a0_4 a0_5 a0_6) else (none)) else (none)) = some (r1, r2, r3) := by first | (rw [hy441]; with_reducible exact H) | (have H2_ := (Option.bind_some _ _).symm.trans H; rw [hy441]; with_reducible exact H2_) | (have H2_ := (Option.bind_some _ _).symm.trans H; with_reducible exact H2_) | with_reducible exact H | (rw [hy441]; exact H) | exact H
 have Ny441 := Aside0.mk hy441
 clear hy441
 by_cases c7 : 0 ≤ a1
 case neg => rw [if_neg c7] at H; exact absurd H (by simp)
 rw [if_pos c7] at H
 have c7b0 : decide (0 ≤ a1) = true := decide_eq_true c7
 clear c7
 by_cases c8 : a1 < (y441.length : Int)
 case neg => rw [if_neg c8] at H; exact absurd H (by simp)
 rw [if_pos c8] at H
 have c8b0 : decide (a1 < (y441.length : Int)) = true := decide_eq_true c8
 clear c8
 obtain ⟨y444, hy444⟩ : ∃ y_ : List Bool, y_ = (y441.set (a1 : Int).toNat true) := ⟨_, rfl⟩
 replace H : (impl_Circuit_delays.l0 k y435 y438 y444 l0_1 (l0_1.length : Int) 0 a0_0 l0_1 l0_2 a0_3 a0_4 a0_5 a0_6) = some (r1, r2, r3) := by first | (rw [hy444]; with_reducible exact H) | (have H2_ := (Option.bind_some _ _).symm.trans H; rw [hy444]; with_reducible exact H2_) | (have H2_ := (Option.bind_some _ _).symm.trans H; with_reducible exact H2_) | with_reducible exact H | (rw [hy444]; exact H) | exact H
 have Ny444 := Aside0.mk hy444
 clear hy444
 have H' := Aside0.mk H
 clear H
 go_enter Try.func74, Try.ntmps74
 try go_wp2_with (first | ((with_reducible refine gate_dst (N := 2) rfl ?_); refine box_event ?hg (N := 2) ?hd (cs := #[.int .i64 a0_0, .slice A0_1 l0_1.length c0_1, .slice A0_2 l0_2.length c0_2, .int .i64 a0_3, .int .i64 a0_4, .int .i64 a0_5, .int .i64 a0_6]) (t := 45) ?hr ?_; (case hd => rfl); (case hg => rfl); (case hr => first | (go_simp; done) | (go_simp; rfl)); intro gb433 hg w10 hbox hb; have n0_ := Aside0.mk (below_step (by with_reducible repeat (first | exact HB.out | apply below_alloc | apply pw_below_drewN | apply below_drew1)) hb); have n1_ := Aside0.mk (hbox); have n2_ := Aside0.mk ((by rw [hg]; exact (below_size (by with_reducible repeat (first | exact HB.out | apply below_alloc | apply pw_below_drewN | apply below_drew1))) : w.heap.size ≤ gb433)); have n3_ := Aside0.mk ((by rw [hg]; exact (below_size (by with_reducible repeat (first | exact HB.out | apply below_alloc | apply pw_below_drewN | apply below_drew1))) : w.heap.size ≤ gb433)); clear HB; have HB := n0_; have BK433 := n1_; have GW433 := n2_; have GE433 := n3_; clear n0_ n1_ n2_ n3_; clear hb hbox hg; have hcz11_0 : w10.cell? ⟨gb433, 0, none⟩ = some (.int .i64 a0_0) := (blk_cell BK433.out 0).trans rfl; have hcz11_1 : w10.cell? ⟨gb433, 1, none⟩ = some (.slice A0_1 l0_1.length c0_1) := (blk_cell BK433.out 1).trans rfl; have hcz11_2 : w10.cell? ⟨gb433, 2, none⟩ = some (.slice A0_2 l0_2.length c0_2) := (blk_cell BK433.out 2).trans rfl; have hcz11_3 : w10.cell? ⟨gb433, 3, none⟩ = some (.int .i64 a0_3) := (blk_cell BK433.out 3).trans rfl; have hcz11_4 : w10.cell? ⟨gb433, 4, none⟩ = some (.int .i64 a0_4) := (blk_cell BK433.out 4).trans rfl; have hcz11_5 : w10.cell? ⟨gb433, 5, none⟩ = some (.int .i64 a0_5) := (blk_cell BK433.out 5).trans rfl; have hcz11_6 : w10.cell? ⟨gb433, 6, none⟩ = some (.int .i64 a0_6) := (blk_cell BK433.out 6).trans rfl; have hfz11_0 := blk_frozen BK433.out 0; have hfz11_1 := blk_frozen BK433.out 1; have hfz11_2 := blk_frozen BK433.out 2; have hfz11_3 := blk_frozen BK433.out 3; have hfz11_4 := blk_frozen BK433.out 4; have hfz11_5 := blk_frozen BK433.out 5; have hfz11_6 := blk_frozen BK433.out 6) | ((with_reducible refine gate_callee (f := 53) rfl ?_); refine goesL_ (some 19) rfl rfl Try.func53 (by kernel_rfl) rfl #[.agg #[.int .i64 a0_0, .slice A0_1 l0_1.length c0_1, .slice A0_2 l0_2.length c0_2, .int .i64 a0_3, .int .i64 a0_4, .int .i64 a0_5, .int .i64 a0_6]] rfl (by (try simp only [List.map_toArray, List.map_cons, List.map_nil]); first | done | rfl | (simp only [List.length_drop, List.length_take]; rfl)) ?_; (with_reducible refine (impl_Circuit_nodes.calls a0_0 _ _ l0_1 _ _ l0_2 a0_3 a0_4 a0_5 a0_6 t434 _ ?side1 ?side2 ?side3 ?side4 A3.out).mono ?_); (case side1 => repeat (first | exact (Kd.C_below HR0_1.out HB.out) | (with_reducible refine Kd.C_alloc ?_ _) | (with_reducible refine Kd.C_drewN ?_ _) | (with_reducible refine Kd.C_drew ?_))); (case side2 => exact HC0_1.out); (case side3 => repeat (first | exact (Kd.C_below HR0_2.out HB.out) | (with_reducible refine Kd.C_alloc ?_ _) | (with_reducible refine Kd.C_drewN ?_ _) | (with_reducible refine Kd.C_drew ?_))); (case side4 => exact HC0_2.out); rintro e w12 ⟨rfl, hb⟩; refine ⟨_, rfl, ?_⟩; have n0_ := Aside0.mk (blk_below (g := gb433) (by (with_reducible repeat (first | refine blk_drewN ?_ _ | refine blk_drew ?_ | refine blk_alloc ?_ _)); exact BK433.out) hb); have n1_ := Aside0.mk (below_step (by with_reducible repeat (first | exact HB.out | apply below_alloc | apply pw_below_drewN | apply below_drew1 | refine below_set ?_ GE433.out)) hb); clear BK433; clear HB; have BK433 := n0_; have HB := n1_; clear n0_ n1_; (try clear hb); (try clear hb2); (try clear hk); (try clear hi)))
 have n0_ := Aside0.mk (blk_drew BK433.out)
 have n1_ := Aside0.mk (below_drew1 HB.out)
 clear BK433
 clear HB
 have BK433 := n0_
 have HB := n1_
 clear n0_ n1_
 refine start_ (n := 9) (S := fun w' => True) (ds := []) #[false, false, false, false, false, false, false, false, false] (by kernel_rfl) rfl rfl trivial (fun hHeld => ?_); refine with_tabW impl_Circuit_delays.tab2 impl_Circuit_delays.bits2 (fun HT_ HW_ => ?_)
 generalize w12.drew = w13 at BK433 HB hHeld ⊢
 refine pure_ (i := 0) (N := some 20) (v := ?_) (a' := ?_) #[true, false, false, false, false, false, false, false, false] rfl rfl (any_of HT_.out (by kernel_rfl)) (fun _ _ _ h => h) (Or.inl ⟨by rfl, ?_⟩) ?_ ?_
 rotate_left
 ·intro w'
  go_simp
  with_reducible rfl
 rotate_left
 ·simp only [Act.put, List.setIfInBounds_toArray, List.set_cons_zero, List.set_cons_succ, i64_w, i32_w]
  rfl
 refine pure_ (i := 2) (N := some 22) (v := ?_) (a' := ?_) #[true, false, true, false, false, false, false, false, false] rfl rfl (any_of HT_.out (by kernel_rfl)) (fun _ _ _ h => h) (Or.inl ⟨by rfl, ?_⟩) ?_ ?_
 rotate_left
 ·intro w'
  go_simp
  with_reducible rfl
 rotate_left
 ·simp only [Act.put, List.setIfInBounds_toArray, List.set_cons_zero, List.set_cons_succ, i64_w, i32_w]
  rfl
 refine pure_ (i := 4) (N := some 24) (v := ?_) (a' := ?_) #[true, false, true, false, true, false, false, false, false] rfl rfl (any_of HT_.out (by kernel_rfl)) (fun _ _ _ h => h) (Or.inl ⟨by rfl, ?_⟩) ?_ ?_
 rotate_left
 ·intro w'
  go_simp
  with_reducible rfl
 rotate_left
 ·simp only [Act.put, List.setIfInBounds_toArray, List.set_cons_zero, List.set_cons_succ, i64_w, i32_w]
  rfl
 refine join_ (σ := Value × Value × Value) 1 #[true, true, true, true, true, true, true, true, false] (fun s_ => [(21, s_.1), (23, s_.2.1), (25, s_.2.2), (8, s_.1), (9, s_.2.1)]) (fun s_ w' => (Kd.R (Kd.int .i64) 2 w' w.heap.size (fun k_ => some k_ ≠ (s_.2.1 : Value).ownBlock) s_.1 y435) ∧ (Kd.R (Kd.int .i64) 2 w' w.heap.size (fun k_ => some k_ ≠ (s_.1 : Value).ownBlock) s_.2.1 y438) ∧ (Kd.R Kd.bool 4 w' w.heap.size (fun _ => True) s_.2.2 y441) ∧ (w'.heap[gb433]? = some (.cells #[.int .i64 a0_0, .slice A0_1 l0_1.length c0_1, .slice A0_2 l0_2.length c0_2, .int .i64 a0_3, .int .i64 a0_4, .int .i64 a0_5, .int .i64 a0_6] 45 (0, 0))) ∧ (Below w.heap.size w w')) ?_ ?_
 rotate_left
 ·intro hJ1_3_5
  refine join_ (σ := Value × Value) 2 #[true, true, true, true, true, false, true, true, false] (fun s_ => [(21, s_.1), (23, s_.2), (8, s_.1), (9, s_.2)]) (fun s_ w' => (Kd.R (Kd.int .i64) 2 w' w.heap.size (fun k_ => some k_ ≠ (s_.2 : Value).ownBlock) s_.1 y435) ∧ (Kd.R (Kd.int .i64) 2 w' w.heap.size (fun k_ => some k_ ≠ (s_.1 : Value).ownBlock) s_.2 y438) ∧ (w'.heap[gb433]? = some (.cells #[.int .i64 a0_0, .slice A0_1 l0_1.length c0_1, .slice A0_2 l0_2.length c0_2, .int .i64 a0_3, .int .i64 a0_4, .int .i64 a0_5, .int .i64 a0_6] 45 (0, 0))) ∧ (Below w.heap.size w w')) ?_ ?_
  rotate_left
  ·intro hJ1_3
   refine join_ (σ := Value × Value) 3 #[true, true, true, false, true, true, true, false, false] (fun s_ => [(21, s_.1), (25, s_.2), (8, s_.1)]) (fun s_ w' => (Kd.R (Kd.int .i64) 2 w' w.heap.size (fun _ => True) s_.1 y435) ∧ (Kd.R Kd.bool 4 w' w.heap.size (fun _ => True) s_.2 y441) ∧ (w'.heap[gb433]? = some (.cells #[.int .i64 a0_0, .slice A0_1 l0_1.length c0_1, .slice A0_2 l0_2.length c0_2, .int .i64 a0_3, .int .i64 a0_4, .int .i64 a0_5, .int .i64 a0_6] 45 (0, 0))) ∧ (Below w.heap.size w w')) ?_ ?_
   rotate_left
   ·intro hJ1_5
    refine join_ (σ := Value × Value) 4 #[true, false, true, true, true, true, false, false, false] (fun s_ => [(23, s_.1), (25, s_.2)]) (fun s_ w' => (Kd.R (Kd.int .i64) 2 w' w.heap.size (fun _ => True) s_.1 y438) ∧ (Kd.R Kd.bool 4 w' w.heap.size (fun _ => True) s_.2 y441) ∧ (w'.heap[gb433]? = some (.cells #[.int .i64 a0_0, .slice A0_1 l0_1.length c0_1, .slice A0_2 l0_2.length c0_2, .int .i64 a0_3, .int .i64 a0_4, .int .i64 a0_5, .int .i64 a0_6] 45 (0, 0))) ∧ (Below w.heap.size w w')) ?_ ?_
    rotate_left
    ·intro hJ3_5
     refine join_ (σ := Value) 4 #[true, true, true, false, true, false, true, false, false] (fun s_ => [(21, s_), (8, s_)]) (fun s_ w' => (Kd.R (Kd.int .i64) 2 w' w.heap.size (fun _ => True) s_ y435) ∧ (w'.heap[gb433]? = some (.cells #[.int .i64 a0_0, .slice A0_1 l0_1.length c0_1, .slice A0_2 l0_2.length c0_2, .int .i64 a0_3, .int .i64 a0_4, .int .i64 a0_5, .int .i64 a0_6] 45 (0, 0))) ∧ (Below w.heap.size w w')) ?_ ?_
     rotate_left
     ·intro hJ1
      refine join_ (σ := Value) 5 #[true, false, true, true, true, false, false, false, false] (fun s_ => [(23, s_)]) (fun s_ w' => (Kd.R (Kd.int .i64) 2 w' w.heap.size (fun _ => True) s_ y438) ∧ (w'.heap[gb433]? = some (.cells #[.int .i64 a0_0, .slice A0_1 l0_1.length c0_1, .slice A0_2 l0_2.length c0_2, .int .i64 a0_3, .int .i64 a0_4, .int .i64 a0_5, .int .i64 a0_6] 45 (0, 0))) ∧ (Below w.heap.size w w')) ?_ ?_
      rotate_left
      ·intro hJ3
       refine join_ (σ := Value) 5 #[true, false, true, false, true, true, false, false, false] (fun s_ => [(25, s_)]) (fun s_ w' => (Kd.R Kd.bool 4 w' w.heap.size (fun _ => True) s_ y441) ∧ (w'.heap[gb433]? = some (.cells #[.int .i64 a0_0, .slice A0_1 l0_1.length c0_1, .slice A0_2 l0_2.length c0_2, .int .i64 a0_3, .int .i64 a0_4, .int .i64 a0_5, .int .i64 a0_6] 45 (0, 0))) ∧ (Below w.heap.size w w')) ?_ ?_
       rotate_left
       ·intro hJ5
        refine three_ (i := 1) (j := 3) (k := 5) (Ni := some 21) (Nj := some 23) (Nk := some 25) #[true, true, true, false, true, false, false, false, false] #[true, false, true, true, true, false, false, false, false] #[true, false, true, false, true, true, false, false, false] rfl rfl rfl rfl rfl rfl (three_of HT_.out (by kernel_rfl)) (by decide) (by decide) (by decide) (fun K hK => ?_) (fun K hK => ?_) (fun K hK => ?_)
        ·skip
         refine Kd.R_make_step (Kd.int .i64) _ 2 (by rfl) (N := 21) rfl 28 _ _ rfl t434 rfl rfl Try.underlying28 (.int .i64 0) 8 info2 rfl (by decide) (by omega) 0 (ok := fun _ => True) (okp := fun _ => True) rfl (fun _ hk => hk) trivial (of_decide_eq_true (by with_reducible assumption)) (Nat.le_trans (Nat.mul_le_mul_right _ (of_decide_eq_true (by with_reducible assumption) : t434.toNat ≤ 35184372088832)) (by omega)) (Below.refl _ _) (Nat.le_refl _) ?_
         intro v436 w14 ho15 hb hg_ hnew_
         clear hg_ hnew_
         (first | rw [← Ny435.out] at ho15 | (simp only [Int.reduceToNat] at ho15; rw [← Ny435.out] at ho15))
         have n0_ := Aside0.mk (Kd.R_lower ho15 (below_size (by with_reducible repeat (first | exact HB.out | apply below_alloc | apply pw_below_drewN | apply below_drew1 | refine below_set ?_ GE433.out))))
         have n1_ := Aside0.mk (blk_below (g := gb433) (by (with_reducible repeat (first | refine blk_drewN ?_ _ | refine blk_drew ?_ | refine blk_alloc ?_ _)); exact BK433.out) hb)
         have n2_ := Aside0.mk (below_step (by with_reducible repeat (first | exact HB.out | apply below_alloc | apply pw_below_drewN | apply below_drew1 | refine below_set ?_ GE433.out)) hb)
         clear BK433
         clear HB
         have HO437 := n0_
         have BK433 := n1_
         have HB := n2_
         clear n0_ n1_ n2_
         clear hb ho15
         refine hK.out _ _ trivial (fun hHeld => ?_)
         clear hK K
         refine norm_ (a' := ?_) ?_ ?_
         rotate_left
         ·show Act.put _ (some 21) _ = _
          simp only [Act.put, List.setIfInBounds_toArray, List.set_cons_zero, List.set_cons_succ, i64_w, i32_w]
          rfl
         refine pure_ (i := 6) (N := some 8) (v := ?_) (a' := ?_) #[true, true, true, false, true, false, true, false, false] rfl rfl (any_of HT_.out (by kernel_rfl)) (fun _ _ _ h => h) (Or.inl ⟨by rfl, ?_⟩) ?_ ?_
         rotate_left
         ·intro w'
          go_simp
          with_reducible rfl
         rotate_left
         ·simp only [Act.put, List.setIfInBounds_toArray, List.set_cons_zero, List.set_cons_succ, i64_w, i32_w]
          rfl
         exact norm_ (by first | (simp only [putAll, Act.put, List.setIfInBounds_toArray, List.set_cons_zero, List.set_cons_succ]; done) | (simp only [putAll, Act.put, List.setIfInBounds_toArray, List.set_cons_zero, List.set_cons_succ]; rfl)) (hJ1 (v436) _ ⟨(by (with_reducible repeat (first | apply Kd.R_alloc | apply Kd.R_drewN | apply Kd.R_drew)); exact HO437.out), (by (with_reducible repeat (first | refine blk_drewN ?_ _ | refine blk_drew ?_ | refine blk_alloc ?_ _)); exact BK433.out), (by with_reducible repeat (first | exact HB.out | apply below_alloc | apply pw_below_drewN | apply below_drew1 | refine below_set ?_ GE433.out))⟩)
        ·skip
         refine Kd.R_make_step (Kd.int .i64) _ 2 (by rfl) (N := 23) rfl 28 _ _ rfl t434 rfl rfl Try.underlying28 (.int .i64 0) 8 info2 rfl (by decide) (by omega) 0 (ok := fun _ => True) (okp := fun _ => True) rfl (fun _ hk => hk) trivial (of_decide_eq_true (by with_reducible assumption)) (Nat.le_trans (Nat.mul_le_mul_right _ (of_decide_eq_true (by with_reducible assumption) : t434.toNat ≤ 35184372088832)) (by omega)) (Below.refl _ _) (Nat.le_refl _) ?_
         intro v439 w14 ho15 hb hg_ hnew_
         clear hg_ hnew_
         (first | rw [← Ny438.out] at ho15 | (simp only [Int.reduceToNat] at ho15; rw [← Ny438.out] at ho15))
         have n0_ := Aside0.mk (Kd.R_lower ho15 (below_size (by with_reducible repeat (first | exact HB.out | apply below_alloc | apply pw_below_drewN | apply below_drew1 | refine below_set ?_ GE433.out))))
         have n1_ := Aside0.mk (blk_below (g := gb433) (by (with_reducible repeat (first | refine blk_drewN ?_ _ | refine blk_drew ?_ | refine blk_alloc ?_ _)); exact BK433.out) hb)
         have n2_ := Aside0.mk (below_step (by with_reducible repeat (first | exact HB.out | apply below_alloc | apply pw_below_drewN | apply below_drew1 | refine below_set ?_ GE433.out)) hb)
         clear BK433
         clear HB
         have HO440 := n0_
         have BK433 := n1_
         have HB := n2_
         clear n0_ n1_ n2_
         clear hb ho15
         refine hK.out _ _ trivial (fun hHeld => ?_)
         clear hK K
         refine norm_ (a' := ?_) ?_ ?_
         rotate_left
         ·show Act.put _ (some 23) _ = _
          simp only [Act.put, List.setIfInBounds_toArray, List.set_cons_zero, List.set_cons_succ, i64_w, i32_w]
          rfl
         exact norm_ (by first | (simp only [putAll, Act.put, List.setIfInBounds_toArray, List.set_cons_zero, List.set_cons_succ]; done) | (simp only [putAll, Act.put, List.setIfInBounds_toArray, List.set_cons_zero, List.set_cons_succ]; rfl)) (hJ3 (v439) _ ⟨(by (with_reducible repeat (first | apply Kd.R_alloc | apply Kd.R_drewN | apply Kd.R_drew)); exact HO440.out), (by (with_reducible repeat (first | refine blk_drewN ?_ _ | refine blk_drew ?_ | refine blk_alloc ?_ _)); exact BK433.out), (by with_reducible repeat (first | exact HB.out | apply below_alloc | apply pw_below_drewN | apply below_drew1 | refine below_set ?_ GE433.out))⟩)
        ·skip
         refine Kd.R_make_step Kd.bool _ 4 (by rfl) (N := 25) rfl 99 _ _ rfl t434 rfl rfl Try.underlying99 (.bool false) 1 info4 rfl (by decide) (by omega) false (ok := fun _ => True) (okp := fun _ => True) rfl (fun _ hk => hk) trivial (of_decide_eq_true (by with_reducible assumption)) (Nat.le_trans (Nat.mul_le_mul_right _ (of_decide_eq_true (by with_reducible assumption) : t434.toNat ≤ 281474976710656)) (by omega)) (Below.refl _ _) (Nat.le_refl _) ?_
         intro v442 w14 ho15 hb hg_ hnew_
         clear hg_ hnew_
         (first | rw [← Ny441.out] at ho15 | (simp only [Int.reduceToNat] at ho15; rw [← Ny441.out] at ho15))
         have n0_ := Aside0.mk (Kd.R_lower ho15 (below_size (by with_reducible repeat (first | exact HB.out | apply below_alloc | apply pw_below_drewN | apply below_drew1 | refine below_set ?_ GE433.out))))
         have n1_ := Aside0.mk (blk_below (g := gb433) (by (with_reducible repeat (first | refine blk_drewN ?_ _ | refine blk_drew ?_ | refine blk_alloc ?_ _)); exact BK433.out) hb)
         have n2_ := Aside0.mk (below_step (by with_reducible repeat (first | exact HB.out | apply below_alloc | apply pw_below_drewN | apply below_drew1 | refine below_set ?_ GE433.out)) hb)
         clear BK433
         clear HB
         have HO443 := n0_
         have BK433 := n1_
         have HB := n2_
         clear n0_ n1_ n2_
         clear hb ho15
         refine hK.out _ _ trivial (fun hHeld => ?_)
         clear hK K
         refine norm_ (a' := ?_) ?_ ?_
         rotate_left
         ·show Act.put _ (some 25) _ = _
          simp only [Act.put, List.setIfInBounds_toArray, List.set_cons_zero, List.set_cons_succ, i64_w, i32_w]
          rfl
         exact norm_ (by first | (simp only [putAll, Act.put, List.setIfInBounds_toArray, List.set_cons_zero, List.set_cons_succ]; done) | (simp only [putAll, Act.put, List.setIfInBounds_toArray, List.set_cons_zero, List.set_cons_succ]; rfl)) (hJ5 (v442) _ ⟨(by (with_reducible repeat (first | apply Kd.R_alloc | apply Kd.R_drewN | apply Kd.R_drew)); exact HO443.out), (by (with_reducible repeat (first | refine blk_drewN ?_ _ | refine blk_drew ?_ | refine blk_alloc ?_ _)); exact BK433.out), (by with_reducible repeat (first | exact HB.out | apply below_alloc | apply pw_below_drewN | apply below_drew1 | refine below_set ?_ GE433.out))⟩)
       ·skip
        rintro v442 w16 ⟨h0_, h1_, h2_⟩
        have n0_ : Aside0 (Kd.R Kd.bool 4 w16 w.heap.size (fun _ => True) v442 y441) := ⟨h0_⟩
        have n1_ : Aside0 (w16.heap[gb433]? = some (.cells #[.int .i64 a0_0, .slice A0_1 l0_1.length c0_1, .slice A0_2 l0_2.length c0_2, .int .i64 a0_3, .int .i64 a0_4, .int .i64 a0_5, .int .i64 a0_6] 45 (0, 0))) := ⟨h1_⟩
        have n2_ : Aside0 (Below w.heap.size w w16) := ⟨h2_⟩
        clear BK433
        clear HB
        clear h0_ h1_ h2_
        have HO443 := n0_
        have BK433 := n1_
        have HB := n2_
        clear n0_ n1_ n2_
        have hHeld := trivial
        refine norm_ (a' := ?_) ?_ ?_
        rotate_left
        ·simp only [putAll, Act.put, List.setIfInBounds_toArray, List.set_cons_zero, List.set_cons_succ]
         rfl
        refine two_ (i := 1) (j := 3) (Ni := some 21) (Nj := some 23) #[true, true, true, false, true, true, false, false, false] #[true, false, true, true, true, true, false, false, false] rfl rfl rfl rfl (two_of HT_.out (by kernel_rfl)) (by decide) (by decide) (fun K hK => ?_) (fun K hK => ?_)
        ·skip
         refine Kd.R_make_step (Kd.int .i64) _ 2 (by rfl) (N := 21) rfl 28 _ _ rfl t434 rfl rfl Try.underlying28 (.int .i64 0) 8 info2 rfl (by decide) (by omega) 0 (ok := fun _ => True) (okp := fun _ => True) rfl (fun _ hk => hk) trivial (of_decide_eq_true (by with_reducible assumption)) (Nat.le_trans (Nat.mul_le_mul_right _ (of_decide_eq_true (by with_reducible assumption) : t434.toNat ≤ 35184372088832)) (by omega)) (Below.refl _ _) (Nat.le_refl _) ?_
         intro v436 w17 ho18 hb hg_ hnew_
         clear hg_ hnew_
         (first | rw [← Ny435.out] at ho18 | (simp only [Int.reduceToNat] at ho18; rw [← Ny435.out] at ho18))
         have n0_ := Aside0.mk (Kd.R_below (by (with_reducible repeat (first | apply Kd.R_alloc | apply Kd.R_drewN | apply Kd.R_drew)); exact HO443.out) hb)
         have n1_ := Aside0.mk (Kd.R_lower ho18 (below_size (by with_reducible repeat (first | exact HB.out | apply below_alloc | apply pw_below_drewN | apply below_drew1 | refine below_set ?_ GE433.out))))
         have n2_ := Aside0.mk (blk_below (g := gb433) (by (with_reducible repeat (first | refine blk_drewN ?_ _ | refine blk_drew ?_ | refine blk_alloc ?_ _)); exact BK433.out) hb)
         have n3_ := Aside0.mk (below_step (by with_reducible repeat (first | exact HB.out | apply below_alloc | apply pw_below_drewN | apply below_drew1 | refine below_set ?_ GE433.out)) hb)
         clear HO443
         clear BK433
         clear HB
         have HO443 := n0_
         have HO437 := n1_
         have BK433 := n2_
         have HB := n3_
         clear n0_ n1_ n2_ n3_
         clear hb ho18
         refine hK.out _ _ trivial (fun hHeld => ?_)
         clear hK K
         refine norm_ (a' := ?_) ?_ ?_
         rotate_left
         ·show Act.put _ (some 21) _ = _
          simp only [Act.put, List.setIfInBounds_toArray, List.set_cons_zero, List.set_cons_succ, i64_w, i32_w]
          rfl
         refine pure_ (i := 6) (N := some 8) (v := ?_) (a' := ?_) #[true, true, true, false, true, true, true, false, false] rfl rfl (any_of HT_.out (by kernel_rfl)) (fun _ _ _ h => h) (Or.inl ⟨by rfl, ?_⟩) ?_ ?_
         rotate_left
         ·intro w'
          go_simp
          with_reducible rfl
         rotate_left
         ·simp only [Act.put, List.setIfInBounds_toArray, List.set_cons_zero, List.set_cons_succ, i64_w, i32_w]
          rfl
         exact norm_ (by first | (simp only [putAll, Act.put, List.setIfInBounds_toArray, List.set_cons_zero, List.set_cons_succ]; done) | (simp only [putAll, Act.put, List.setIfInBounds_toArray, List.set_cons_zero, List.set_cons_succ]; rfl)) (hJ1_5 (v436, v442) _ ⟨(by (with_reducible repeat (first | apply Kd.R_alloc | apply Kd.R_drewN | apply Kd.R_drew)); exact HO437.out), (by (with_reducible repeat (first | apply Kd.R_alloc | apply Kd.R_drewN | apply Kd.R_drew)); exact HO443.out), (by (with_reducible repeat (first | refine blk_drewN ?_ _ | refine blk_drew ?_ | refine blk_alloc ?_ _)); exact BK433.out), (by with_reducible repeat (first | exact HB.out | apply below_alloc | apply pw_below_drewN | apply below_drew1 | refine below_set ?_ GE433.out))⟩)
        ·skip
         refine Kd.R_make_step (Kd.int .i64) _ 2 (by rfl) (N := 23) rfl 28 _ _ rfl t434 rfl rfl Try.underlying28 (.int .i64 0) 8 info2 rfl (by decide) (by omega) 0 (ok := fun _ => True) (okp := fun _ => True) rfl (fun _ hk => hk) trivial (of_decide_eq_true (by with_reducible assumption)) (Nat.le_trans (Nat.mul_le_mul_right _ (of_decide_eq_true (by with_reducible assumption) : t434.toNat ≤ 35184372088832)) (by omega)) (Below.refl _ _) (Nat.le_refl _) ?_
         intro v439 w17 ho18 hb hg_ hnew_
         clear hg_ hnew_
         (first | rw [← Ny438.out] at ho18 | (simp only [Int.reduceToNat] at ho18; rw [← Ny438.out] at ho18))
         have n0_ := Aside0.mk (Kd.R_below (by (with_reducible repeat (first | apply Kd.R_alloc | apply Kd.R_drewN | apply Kd.R_drew)); exact HO443.out) hb)
         have n1_ := Aside0.mk (Kd.R_lower ho18 (below_size (by with_reducible repeat (first | exact HB.out | apply below_alloc | apply pw_below_drewN | apply below_drew1 | refine below_set ?_ GE433.out))))
         have n2_ := Aside0.mk (blk_below (g := gb433) (by (with_reducible repeat (first | refine blk_drewN ?_ _ | refine blk_drew ?_ | refine blk_alloc ?_ _)); exact BK433.out) hb)
         have n3_ := Aside0.mk (below_step (by with_reducible repeat (first | exact HB.out | apply below_alloc | apply pw_below_drewN | apply below_drew1 | refine below_set ?_ GE433.out)) hb)
         clear HO443
         clear BK433
         clear HB
         have HO443 := n0_
         have HO440 := n1_
         have BK433 := n2_
         have HB := n3_
         clear n0_ n1_ n2_ n3_
         clear hb ho18
         refine hK.out _ _ trivial (fun hHeld => ?_)
         clear hK K
         refine norm_ (a' := ?_) ?_ ?_
         rotate_left
         ·show Act.put _ (some 23) _ = _
          simp only [Act.put, List.setIfInBounds_toArray, List.set_cons_zero, List.set_cons_succ, i64_w, i32_w]
          rfl
         exact norm_ (by first | (simp only [putAll, Act.put, List.setIfInBounds_toArray, List.set_cons_zero, List.set_cons_succ]; done) | (simp only [putAll, Act.put, List.setIfInBounds_toArray, List.set_cons_zero, List.set_cons_succ]; rfl)) (hJ3_5 (v439, v442) _ ⟨(by (with_reducible repeat (first | apply Kd.R_alloc | apply Kd.R_drewN | apply Kd.R_drew)); exact HO440.out), (by (with_reducible repeat (first | apply Kd.R_alloc | apply Kd.R_drewN | apply Kd.R_drew)); exact HO443.out), (by (with_reducible repeat (first | refine blk_drewN ?_ _ | refine blk_drew ?_ | refine blk_alloc ?_ _)); exact BK433.out), (by with_reducible repeat (first | exact HB.out | apply below_alloc | apply pw_below_drewN | apply below_drew1 | refine below_set ?_ GE433.out))⟩)
      ·skip
       rintro v439 w16 ⟨h0_, h1_, h2_⟩
       have n0_ : Aside0 (Kd.R (Kd.int .i64) 2 w16 w.heap.size (fun _ => True) v439 y438) := ⟨h0_⟩
       have n1_ : Aside0 (w16.heap[gb433]? = some (.cells #[.int .i64 a0_0, .slice A0_1 l0_1.length c0_1, .slice A0_2 l0_2.length c0_2, .int .i64 a0_3, .int .i64 a0_4, .int .i64 a0_5, .int .i64 a0_6] 45 (0, 0))) := ⟨h1_⟩
       have n2_ : Aside0 (Below w.heap.size w w16) := ⟨h2_⟩
       clear BK433
       clear HB
       clear h0_ h1_ h2_
       have HO440 := n0_
       have BK433 := n1_
       have HB := n2_
       clear n0_ n1_ n2_
       have hHeld := trivial
       refine norm_ (a' := ?_) ?_ ?_
       rotate_left
       ·simp only [putAll, Act.put, List.setIfInBounds_toArray, List.set_cons_zero, List.set_cons_succ]
        rfl
       refine two_ (i := 1) (j := 5) (Ni := some 21) (Nj := some 25) #[true, true, true, true, true, false, false, false, false] #[true, false, true, true, true, true, false, false, false] rfl rfl rfl rfl (two_of HT_.out (by kernel_rfl)) (by decide) (by decide) (fun K hK => ?_) (fun K hK => ?_)
       ·skip
        refine Kd.R_make_step (Kd.int .i64) _ 2 (by rfl) (N := 21) rfl 28 _ _ rfl t434 rfl rfl Try.underlying28 (.int .i64 0) 8 info2 rfl (by decide) (by omega) 0 (ok := fun _ => True) (okp := fun _ => True) rfl (fun _ hk => hk) trivial (of_decide_eq_true (by with_reducible assumption)) (Nat.le_trans (Nat.mul_le_mul_right _ (of_decide_eq_true (by with_reducible assumption) : t434.toNat ≤ 35184372088832)) (by omega)) (Below.refl _ _) (Nat.le_refl _) ?_
        intro v436 w17 ho18 hb hg_ hnew_
        clear hg_ hnew_
        (first | rw [← Ny435.out] at ho18 | (simp only [Int.reduceToNat] at ho18; rw [← Ny435.out] at ho18))
        have n0_ := Aside0.mk (Kd.R_elder' (by (with_reducible repeat (first | apply Kd.R_alloc | apply Kd.R_drewN | apply Kd.R_drew)); exact HO440.out) (Kd.R_base ho18) hb)
        have n1_ := Aside0.mk (Kd.R_lower (Kd.R_new' ho18 (Kd.R_lt (by (with_reducible repeat (first | apply Kd.R_alloc | apply Kd.R_drewN | apply Kd.R_drew)); exact HO440.out))) (below_size (by with_reducible repeat (first | exact HB.out | apply below_alloc | apply pw_below_drewN | apply below_drew1 | refine below_set ?_ GE433.out))))
        have n2_ := Aside0.mk (blk_below (g := gb433) (by (with_reducible repeat (first | refine blk_drewN ?_ _ | refine blk_drew ?_ | refine blk_alloc ?_ _)); exact BK433.out) hb)
        have n3_ := Aside0.mk (below_step (by with_reducible repeat (first | exact HB.out | apply below_alloc | apply pw_below_drewN | apply below_drew1 | refine below_set ?_ GE433.out)) hb)
        clear HO440
        clear BK433
        clear HB
        have HO440 := n0_
        have HO437 := n1_
        have BK433 := n2_
        have HB := n3_
        clear n0_ n1_ n2_ n3_
        clear hb ho18
        refine hK.out _ _ trivial (fun hHeld => ?_)
        clear hK K
        refine norm_ (a' := ?_) ?_ ?_
        rotate_left
        ·show Act.put _ (some 21) _ = _
         simp only [Act.put, List.setIfInBounds_toArray, List.set_cons_zero, List.set_cons_succ, i64_w, i32_w]
         rfl
        refine pure_ (i := 6) (N := some 8) (v := ?_) (a' := ?_) #[true, true, true, true, true, false, true, false, false] rfl rfl (any_of HT_.out (by kernel_rfl)) (fun _ _ _ h => h) (Or.inl ⟨by rfl, ?_⟩) ?_ ?_
        rotate_left
        ·intro w'
         go_simp
         with_reducible rfl
        rotate_left
        ·simp only [Act.put, List.setIfInBounds_toArray, List.set_cons_zero, List.set_cons_succ, i64_w, i32_w]
         rfl
        refine pure_ (i := 7) (N := some 9) (v := ?_) (a' := ?_) #[true, true, true, true, true, false, true, true, false] rfl rfl (any_of HT_.out (by kernel_rfl)) (fun _ _ _ h => h) (Or.inl ⟨by rfl, ?_⟩) ?_ ?_
        rotate_left
        ·intro w'
         go_simp
         with_reducible rfl
        rotate_left
        ·simp only [Act.put, List.setIfInBounds_toArray, List.set_cons_zero, List.set_cons_succ, i64_w, i32_w]
         rfl
        exact norm_ (by first | (simp only [putAll, Act.put, List.setIfInBounds_toArray, List.set_cons_zero, List.set_cons_succ]; done) | (simp only [putAll, Act.put, List.setIfInBounds_toArray, List.set_cons_zero, List.set_cons_succ]; rfl)) (hJ1_3 (v436, v439) _ ⟨(by (with_reducible repeat (first | apply Kd.R_alloc | apply Kd.R_drewN | apply Kd.R_drew)); exact Kd.R_mono HO437.out (fun _ hk => hk.2)), (by (with_reducible repeat (first | apply Kd.R_alloc | apply Kd.R_drewN | apply Kd.R_drew)); exact Kd.R_mono HO440.out (fun _ hk => hk.2)), (by (with_reducible repeat (first | refine blk_drewN ?_ _ | refine blk_drew ?_ | refine blk_alloc ?_ _)); exact BK433.out), (by with_reducible repeat (first | exact HB.out | apply below_alloc | apply pw_below_drewN | apply below_drew1 | refine below_set ?_ GE433.out))⟩)
       ·skip
        refine Kd.R_make_step Kd.bool _ 4 (by rfl) (N := 25) rfl 99 _ _ rfl t434 rfl rfl Try.underlying99 (.bool false) 1 info4 rfl (by decide) (by omega) false (ok := fun _ => True) (okp := fun _ => True) rfl (fun _ hk => hk) trivial (of_decide_eq_true (by with_reducible assumption)) (Nat.le_trans (Nat.mul_le_mul_right _ (of_decide_eq_true (by with_reducible assumption) : t434.toNat ≤ 281474976710656)) (by omega)) (Below.refl _ _) (Nat.le_refl _) ?_
        intro v442 w17 ho18 hb hg_ hnew_
        clear hg_ hnew_
        (first | rw [← Ny441.out] at ho18 | (simp only [Int.reduceToNat] at ho18; rw [← Ny441.out] at ho18))
        have n0_ := Aside0.mk (Kd.R_below (by (with_reducible repeat (first | apply Kd.R_alloc | apply Kd.R_drewN | apply Kd.R_drew)); exact HO440.out) hb)
        have n1_ := Aside0.mk (Kd.R_lower ho18 (below_size (by with_reducible repeat (first | exact HB.out | apply below_alloc | apply pw_below_drewN | apply below_drew1 | refine below_set ?_ GE433.out))))
        have n2_ := Aside0.mk (blk_below (g := gb433) (by (with_reducible repeat (first | refine blk_drewN ?_ _ | refine blk_drew ?_ | refine blk_alloc ?_ _)); exact BK433.out) hb)
        have n3_ := Aside0.mk (below_step (by with_reducible repeat (first | exact HB.out | apply below_alloc | apply pw_below_drewN | apply below_drew1 | refine below_set ?_ GE433.out)) hb)
        clear HO440
        clear BK433
        clear HB
        have HO440 := n0_
        have HO443 := n1_
        have BK433 := n2_
        have HB := n3_
        clear n0_ n1_ n2_ n3_
        clear hb ho18
        refine hK.out _ _ trivial (fun hHeld => ?_)
        clear hK K
        refine norm_ (a' := ?_) ?_ ?_
        rotate_left
        ·show Act.put _ (some 25) _ = _
         simp only [Act.put, List.setIfInBounds_toArray, List.set_cons_zero, List.set_cons_succ, i64_w, i32_w]
         rfl
        exact norm_ (by first | (simp only [putAll, Act.put, List.setIfInBounds_toArray, List.set_cons_zero, List.set_cons_succ]; done) | (simp only [putAll, Act.put, List.setIfInBounds_toArray, List.set_cons_zero, List.set_cons_succ]; rfl)) (hJ3_5 (v439, v442) _ ⟨(by (with_reducible repeat (first | apply Kd.R_alloc | apply Kd.R_drewN | apply Kd.R_drew)); exact HO440.out), (by (with_reducible repeat (first | apply Kd.R_alloc | apply Kd.R_drewN | apply Kd.R_drew)); exact HO443.out), (by (with_reducible repeat (first | refine blk_drewN ?_ _ | refine blk_drew ?_ | refine blk_alloc ?_ _)); exact BK433.out), (by with_reducible repeat (first | exact HB.out | apply below_alloc | apply pw_below_drewN | apply below_drew1 | refine below_set ?_ GE433.out))⟩)
     ·skip
      rintro v436 w16 ⟨h0_, h1_, h2_⟩
      have n0_ : Aside0 (Kd.R (Kd.int .i64) 2 w16 w.heap.size (fun _ => True) v436 y435) := ⟨h0_⟩
      have n1_ : Aside0 (w16.heap[gb433]? = some (.cells #[.int .i64 a0_0, .slice A0_1 l0_1.length c0_1, .slice A0_2 l0_2.length c0_2, .int .i64 a0_3, .int .i64 a0_4, .int .i64 a0_5, .int .i64 a0_6] 45 (0, 0))) := ⟨h1_⟩
      have n2_ : Aside0 (Below w.heap.size w w16) := ⟨h2_⟩
      clear BK433
      clear HB
      clear h0_ h1_ h2_
      have HO437 := n0_
      have BK433 := n1_
      have HB := n2_
      clear n0_ n1_ n2_
      have hHeld := trivial
      refine norm_ (a' := ?_) ?_ ?_
      rotate_left
      ·simp only [putAll, Act.put, List.setIfInBounds_toArray, List.set_cons_zero, List.set_cons_succ]
       rfl
      refine two_ (i := 3) (j := 5) (Ni := some 23) (Nj := some 25) #[true, true, true, true, true, false, true, false, false] #[true, true, true, false, true, true, true, false, false] rfl rfl rfl rfl (two_of HT_.out (by kernel_rfl)) (by decide) (by decide) (fun K hK => ?_) (fun K hK => ?_)
      ·skip
       refine Kd.R_make_step (Kd.int .i64) _ 2 (by rfl) (N := 23) rfl 28 _ _ rfl t434 rfl rfl Try.underlying28 (.int .i64 0) 8 info2 rfl (by decide) (by omega) 0 (ok := fun _ => True) (okp := fun _ => True) rfl (fun _ hk => hk) trivial (of_decide_eq_true (by with_reducible assumption)) (Nat.le_trans (Nat.mul_le_mul_right _ (of_decide_eq_true (by with_reducible assumption) : t434.toNat ≤ 35184372088832)) (by omega)) (Below.refl _ _) (Nat.le_refl _) ?_
       intro v439 w17 ho18 hb hg_ hnew_
       clear hg_ hnew_
       (first | rw [← Ny438.out] at ho18 | (simp only [Int.reduceToNat] at ho18; rw [← Ny438.out] at ho18))
       have n0_ := Aside0.mk (Kd.R_elder' (by (with_reducible repeat (first | apply Kd.R_alloc | apply Kd.R_drewN | apply Kd.R_drew)); exact HO437.out) (Kd.R_base ho18) hb)
       have n1_ := Aside0.mk (Kd.R_lower (Kd.R_new' ho18 (Kd.R_lt (by (with_reducible repeat (first | apply Kd.R_alloc | apply Kd.R_drewN | apply Kd.R_drew)); exact HO437.out))) (below_size (by with_reducible repeat (first | exact HB.out | apply below_alloc | apply pw_below_drewN | apply below_drew1 | refine below_set ?_ GE433.out))))
       have n2_ := Aside0.mk (blk_below (g := gb433) (by (with_reducible repeat (first | refine blk_drewN ?_ _ | refine blk_drew ?_ | refine blk_alloc ?_ _)); exact BK433.out) hb)
       have n3_ := Aside0.mk (below_step (by with_reducible repeat (first | exact HB.out | apply below_alloc | apply pw_below_drewN | apply below_drew1 | refine below_set ?_ GE433.out)) hb)
       clear HO437
       clear BK433
       clear HB
       have HO437 := n0_
       have HO440 := n1_
       have BK433 := n2_
       have HB := n3_
       clear n0_ n1_ n2_ n3_
       clear hb ho18
       refine hK.out _ _ trivial (fun hHeld => ?_)
       clear hK K
       refine norm_ (a' := ?_) ?_ ?_
       rotate_left
       ·show Act.put _ (some 23) _ = _
        simp only [Act.put, List.setIfInBounds_toArray, List.set_cons_zero, List.set_cons_succ, i64_w, i32_w]
        rfl
       refine pure_ (i := 7) (N := some 9) (v := ?_) (a' := ?_) #[true, true, true, true, true, false, true, true, false] rfl rfl (any_of HT_.out (by kernel_rfl)) (fun _ _ _ h => h) (Or.inl ⟨by rfl, ?_⟩) ?_ ?_
       rotate_left
       ·intro w'
        go_simp
        with_reducible rfl
       rotate_left
       ·simp only [Act.put, List.setIfInBounds_toArray, List.set_cons_zero, List.set_cons_succ, i64_w, i32_w]
        rfl
       exact norm_ (by first | (simp only [putAll, Act.put, List.setIfInBounds_toArray, List.set_cons_zero, List.set_cons_succ]; done) | (simp only [putAll, Act.put, List.setIfInBounds_toArray, List.set_cons_zero, List.set_cons_succ]; rfl)) (hJ1_3 (v436, v439) _ ⟨(by (with_reducible repeat (first | apply Kd.R_alloc | apply Kd.R_drewN | apply Kd.R_drew)); exact Kd.R_mono HO437.out (fun _ hk => hk.2)), (by (with_reducible repeat (first | apply Kd.R_alloc | apply Kd.R_drewN | apply Kd.R_drew)); exact Kd.R_mono HO440.out (fun _ hk => hk.2)), (by (with_reducible repeat (first | refine blk_drewN ?_ _ | refine blk_drew ?_ | refine blk_alloc ?_ _)); exact BK433.out), (by with_reducible repeat (first | exact HB.out | apply below_alloc | apply pw_below_drewN | apply below_drew1 | refine below_set ?_ GE433.out))⟩)
      ·skip
       refine Kd.R_make_step Kd.bool _ 4 (by rfl) (N := 25) rfl 99 _ _ rfl t434 rfl rfl Try.underlying99 (.bool false) 1 info4 rfl (by decide) (by omega) false (ok := fun _ => True) (okp := fun _ => True) rfl (fun _ hk => hk) trivial (of_decide_eq_true (by with_reducible assumption)) (Nat.le_trans (Nat.mul_le_mul_right _ (of_decide_eq_true (by with_reducible assumption) : t434.toNat ≤ 281474976710656)) (by omega)) (Below.refl _ _) (Nat.le_refl _) ?_
       intro v442 w17 ho18 hb hg_ hnew_
       clear hg_ hnew_
       (first | rw [← Ny441.out] at ho18 | (simp only [Int.reduceToNat] at ho18; rw [← Ny441.out] at ho18))
       have n0_ := Aside0.mk (Kd.R_below (by (with_reducible repeat (first | apply Kd.R_alloc | apply Kd.R_drewN | apply Kd.R_drew)); exact HO437.out) hb)
       have n1_ := Aside0.mk (Kd.R_lower ho18 (below_size (by with_reducible repeat (first | exact HB.out | apply below_alloc | apply pw_below_drewN | apply below_drew1 | refine below_set ?_ GE433.out))))
       have n2_ := Aside0.mk (blk_below (g := gb433) (by (with_reducible repeat (first | refine blk_drewN ?_ _ | refine blk_drew ?_ | refine blk_alloc ?_ _)); exact BK433.out) hb)
       have n3_ := Aside0.mk (below_step (by with_reducible repeat (first | exact HB.out | apply below_alloc | apply pw_below_drewN | apply below_drew1 | refine below_set ?_ GE433.out)) hb)
       clear HO437
       clear BK433
       clear HB
       have HO437 := n0_
       have HO443 := n1_
       have BK433 := n2_
       have HB := n3_
       clear n0_ n1_ n2_ n3_
       clear hb ho18
       refine hK.out _ _ trivial (fun hHeld => ?_)
       clear hK K
       refine norm_ (a' := ?_) ?_ ?_
       rotate_left
       ·show Act.put _ (some 25) _ = _
        simp only [Act.put, List.setIfInBounds_toArray, List.set_cons_zero, List.set_cons_succ, i64_w, i32_w]
        rfl
       exact norm_ (by first | (simp only [putAll, Act.put, List.setIfInBounds_toArray, List.set_cons_zero, List.set_cons_succ]; done) | (simp only [putAll, Act.put, List.setIfInBounds_toArray, List.set_cons_zero, List.set_cons_succ]; rfl)) (hJ1_5 (v436, v442) _ ⟨(by (with_reducible repeat (first | apply Kd.R_alloc | apply Kd.R_drewN | apply Kd.R_drew)); exact HO437.out), (by (with_reducible repeat (first | apply Kd.R_alloc | apply Kd.R_drewN | apply Kd.R_drew)); exact HO443.out), (by (with_reducible repeat (first | refine blk_drewN ?_ _ | refine blk_drew ?_ | refine blk_alloc ?_ _)); exact BK433.out), (by with_reducible repeat (first | exact HB.out | apply below_alloc | apply pw_below_drewN | apply below_drew1 | refine below_set ?_ GE433.out))⟩)
    ·skip
     rintro ⟨v439, v442⟩ w18 ⟨h0_, h1_, h2_, h3_⟩
     have n0_ : Aside0 (Kd.R (Kd.int .i64) 2 w18 w.heap.size (fun _ => True) v439 y438) := ⟨h0_⟩
     have n1_ : Aside0 (Kd.R Kd.bool 4 w18 w.heap.size (fun _ => True) v442 y441) := ⟨h1_⟩
     have n2_ : Aside0 (w18.heap[gb433]? = some (.cells #[.int .i64 a0_0, .slice A0_1 l0_1.length c0_1, .slice A0_2 l0_2.length c0_2, .int .i64 a0_3, .int .i64 a0_4, .int .i64 a0_5, .int .i64 a0_6] 45 (0, 0))) := ⟨h2_⟩
     have n3_ : Aside0 (Below w.heap.size w w18) := ⟨h3_⟩
     clear BK433
     clear HB
     clear h0_ h1_ h2_ h3_
     have HO440 := n0_
     have HO443 := n1_
     have BK433 := n2_
     have HB := n3_
     clear n0_ n1_ n2_ n3_
     have hHeld := trivial
     refine norm_ (a' := ?_) ?_ ?_
     rotate_left
     ·simp only [putAll, Act.put, List.setIfInBounds_toArray, List.set_cons_zero, List.set_cons_succ]
      rfl
     refine one_ (i := 1) (N := some 21) #[true, true, true, true, true, true, false, false, false] rfl rfl (one_of HT_.out (by kernel_rfl)) (by decide) (fun K hK => ?_)
     refine Kd.R_make_step (Kd.int .i64) _ 2 (by rfl) (N := 21) rfl 28 _ _ rfl t434 rfl rfl Try.underlying28 (.int .i64 0) 8 info2 rfl (by decide) (by omega) 0 (ok := fun _ => True) (okp := fun _ => True) rfl (fun _ hk => hk) trivial (of_decide_eq_true (by with_reducible assumption)) (Nat.le_trans (Nat.mul_le_mul_right _ (of_decide_eq_true (by with_reducible assumption) : t434.toNat ≤ 35184372088832)) (by omega)) (Below.refl _ _) (Nat.le_refl _) ?_
     intro v436 w19 ho20 hb hg_ hnew_
     clear hg_ hnew_
     (first | rw [← Ny435.out] at ho20 | (simp only [Int.reduceToNat] at ho20; rw [← Ny435.out] at ho20))
     have n0_ := Aside0.mk (Kd.R_elder' (by (with_reducible repeat (first | apply Kd.R_alloc | apply Kd.R_drewN | apply Kd.R_drew)); exact HO440.out) (Kd.R_base ho20) hb)
     have n1_ := Aside0.mk (Kd.R_below (by (with_reducible repeat (first | apply Kd.R_alloc | apply Kd.R_drewN | apply Kd.R_drew)); exact HO443.out) hb)
     have n2_ := Aside0.mk (Kd.R_lower (Kd.R_new' ho20 (Kd.R_lt (by (with_reducible repeat (first | apply Kd.R_alloc | apply Kd.R_drewN | apply Kd.R_drew)); exact HO440.out))) (below_size (by with_reducible repeat (first | exact HB.out | apply below_alloc | apply pw_below_drewN | apply below_drew1 | refine below_set ?_ GE433.out))))
     have n3_ := Aside0.mk (blk_below (g := gb433) (by (with_reducible repeat (first | refine blk_drewN ?_ _ | refine blk_drew ?_ | refine blk_alloc ?_ _)); exact BK433.out) hb)
     have n4_ := Aside0.mk (below_step (by with_reducible repeat (first | exact HB.out | apply below_alloc | apply pw_below_drewN | apply below_drew1 | refine below_set ?_ GE433.out)) hb)
     clear HO440
     clear HO443
     clear BK433
     clear HB
     have HO440 := n0_
     have HO443 := n1_
     have HO437 := n2_
     have BK433 := n3_
     have HB := n4_
     clear n0_ n1_ n2_ n3_ n4_
     clear hb ho20
     refine hK.out _ _ trivial (fun hHeld => ?_)
     clear hK K
     refine norm_ (a' := ?_) ?_ ?_
     rotate_left
     ·show Act.put _ (some 21) _ = _
      simp only [Act.put, List.setIfInBounds_toArray, List.set_cons_zero, List.set_cons_succ, i64_w, i32_w]
      rfl
     refine pure_ (i := 6) (N := some 8) (v := ?_) (a' := ?_) #[true, true, true, true, true, true, true, false, false] rfl rfl (any_of HT_.out (by kernel_rfl)) (fun _ _ _ h => h) (Or.inl ⟨by rfl, ?_⟩) ?_ ?_
     rotate_left
     ·intro w'
      go_simp
      with_reducible rfl
     rotate_left
     ·simp only [Act.put, List.setIfInBounds_toArray, List.set_cons_zero, List.set_cons_succ, i64_w, i32_w]
      rfl
     refine pure_ (i := 7) (N := some 9) (v := ?_) (a' := ?_) #[true, true, true, true, true, true, true, true, false] rfl rfl (any_of HT_.out (by kernel_rfl)) (fun _ _ _ h => h) (Or.inl ⟨by rfl, ?_⟩) ?_ ?_
     rotate_left
     ·intro w'
      go_simp
      with_reducible rfl
     rotate_left
     ·simp only [Act.put, List.setIfInBounds_toArray, List.set_cons_zero, List.set_cons_succ, i64_w, i32_w]
      rfl
     exact norm_ (by first | (simp only [putAll, Act.put, List.setIfInBounds_toArray, List.set_cons_zero, List.set_cons_succ]; done) | (simp only [putAll, Act.put, List.setIfInBounds_toArray, List.set_cons_zero, List.set_cons_succ]; rfl)) (hJ1_3_5 (v436, v439, v442) _ ⟨(by (with_reducible repeat (first | apply Kd.R_alloc | apply Kd.R_drewN | apply Kd.R_drew)); exact Kd.R_mono HO437.out (fun _ hk => hk.2)), (by (with_reducible repeat (first | apply Kd.R_alloc | apply Kd.R_drewN | apply Kd.R_drew)); exact Kd.R_mono HO440.out (fun _ hk => hk.2)), (by (with_reducible repeat (first | apply Kd.R_alloc | apply Kd.R_drewN | apply Kd.R_drew)); exact HO443.out), (by (with_reducible repeat (first | refine blk_drewN ?_ _ | refine blk_drew ?_ | refine blk_alloc ?_ _)); exact BK433.out), (by with_reducible repeat (first | exact HB.out | apply below_alloc | apply pw_below_drewN | apply below_drew1 | refine below_set ?_ GE433.out))⟩)
   ·skip
    rintro ⟨v436, v442⟩ w18 ⟨h0_, h1_, h2_, h3_⟩
    have n0_ : Aside0 (Kd.R (Kd.int .i64) 2 w18 w.heap.size (fun _ => True) v436 y435) := ⟨h0_⟩
    have n1_ : Aside0 (Kd.R Kd.bool 4 w18 w.heap.size (fun _ => True) v442 y441) := ⟨h1_⟩
    have n2_ : Aside0 (w18.heap[gb433]? = some (.cells #[.int .i64 a0_0, .slice A0_1 l0_1.length c0_1, .slice A0_2 l0_2.length c0_2, .int .i64 a0_3, .int .i64 a0_4, .int .i64 a0_5, .int .i64 a0_6] 45 (0, 0))) := ⟨h2_⟩
    have n3_ : Aside0 (Below w.heap.size w w18) := ⟨h3_⟩
    clear BK433
    clear HB
    clear h0_ h1_ h2_ h3_
    have HO437 := n0_
    have HO443 := n1_
    have BK433 := n2_
    have HB := n3_
    clear n0_ n1_ n2_ n3_
    have hHeld := trivial
    refine norm_ (a' := ?_) ?_ ?_
    rotate_left
    ·simp only [putAll, Act.put, List.setIfInBounds_toArray, List.set_cons_zero, List.set_cons_succ]
     rfl
    refine one_ (i := 3) (N := some 23) #[true, true, true, true, true, true, true, false, false] rfl rfl (one_of HT_.out (by kernel_rfl)) (by decide) (fun K hK => ?_)
    refine Kd.R_make_step (Kd.int .i64) _ 2 (by rfl) (N := 23) rfl 28 _ _ rfl t434 rfl rfl Try.underlying28 (.int .i64 0) 8 info2 rfl (by decide) (by omega) 0 (ok := fun _ => True) (okp := fun _ => True) rfl (fun _ hk => hk) trivial (of_decide_eq_true (by with_reducible assumption)) (Nat.le_trans (Nat.mul_le_mul_right _ (of_decide_eq_true (by with_reducible assumption) : t434.toNat ≤ 35184372088832)) (by omega)) (Below.refl _ _) (Nat.le_refl _) ?_
    intro v439 w19 ho20 hb hg_ hnew_
    clear hg_ hnew_
    (first | rw [← Ny438.out] at ho20 | (simp only [Int.reduceToNat] at ho20; rw [← Ny438.out] at ho20))
    have n0_ := Aside0.mk (Kd.R_elder' (by (with_reducible repeat (first | apply Kd.R_alloc | apply Kd.R_drewN | apply Kd.R_drew)); exact HO437.out) (Kd.R_base ho20) hb)
    have n1_ := Aside0.mk (Kd.R_below (by (with_reducible repeat (first | apply Kd.R_alloc | apply Kd.R_drewN | apply Kd.R_drew)); exact HO443.out) hb)
    have n2_ := Aside0.mk (Kd.R_lower (Kd.R_new' ho20 (Kd.R_lt (by (with_reducible repeat (first | apply Kd.R_alloc | apply Kd.R_drewN | apply Kd.R_drew)); exact HO437.out))) (below_size (by with_reducible repeat (first | exact HB.out | apply below_alloc | apply pw_below_drewN | apply below_drew1 | refine below_set ?_ GE433.out))))
    have n3_ := Aside0.mk (blk_below (g := gb433) (by (with_reducible repeat (first | refine blk_drewN ?_ _ | refine blk_drew ?_ | refine blk_alloc ?_ _)); exact BK433.out) hb)
    have n4_ := Aside0.mk (below_step (by with_reducible repeat (first | exact HB.out | apply below_alloc | apply pw_below_drewN | apply below_drew1 | refine below_set ?_ GE433.out)) hb)
    clear HO437
    clear HO443
    clear BK433
    clear HB
    have HO437 := n0_
    have HO443 := n1_
    have HO440 := n2_
    have BK433 := n3_
    have HB := n4_
    clear n0_ n1_ n2_ n3_ n4_
    clear hb ho20
    refine hK.out _ _ trivial (fun hHeld => ?_)
    clear hK K
    refine norm_ (a' := ?_) ?_ ?_
    rotate_left
    ·show Act.put _ (some 23) _ = _
     simp only [Act.put, List.setIfInBounds_toArray, List.set_cons_zero, List.set_cons_succ, i64_w, i32_w]
     rfl
    refine pure_ (i := 7) (N := some 9) (v := ?_) (a' := ?_) #[true, true, true, true, true, true, true, true, false] rfl rfl (any_of HT_.out (by kernel_rfl)) (fun _ _ _ h => h) (Or.inl ⟨by rfl, ?_⟩) ?_ ?_
    rotate_left
    ·intro w'
     go_simp
     with_reducible rfl
    rotate_left
    ·simp only [Act.put, List.setIfInBounds_toArray, List.set_cons_zero, List.set_cons_succ, i64_w, i32_w]
     rfl
    exact norm_ (by first | (simp only [putAll, Act.put, List.setIfInBounds_toArray, List.set_cons_zero, List.set_cons_succ]; done) | (simp only [putAll, Act.put, List.setIfInBounds_toArray, List.set_cons_zero, List.set_cons_succ]; rfl)) (hJ1_3_5 (v436, v439, v442) _ ⟨(by (with_reducible repeat (first | apply Kd.R_alloc | apply Kd.R_drewN | apply Kd.R_drew)); exact Kd.R_mono HO437.out (fun _ hk => hk.2)), (by (with_reducible repeat (first | apply Kd.R_alloc | apply Kd.R_drewN | apply Kd.R_drew)); exact Kd.R_mono HO440.out (fun _ hk => hk.2)), (by (with_reducible repeat (first | apply Kd.R_alloc | apply Kd.R_drewN | apply Kd.R_drew)); exact HO443.out), (by (with_reducible repeat (first | refine blk_drewN ?_ _ | refine blk_drew ?_ | refine blk_alloc ?_ _)); exact BK433.out), (by with_reducible repeat (first | exact HB.out | apply below_alloc | apply pw_below_drewN | apply below_drew1 | refine below_set ?_ GE433.out))⟩)
  ·skip
   rintro ⟨v436, v439⟩ w18 ⟨h0_, h1_, h2_, h3_⟩
   have n0_ : Aside0 (Kd.R (Kd.int .i64) 2 w18 w.heap.size (fun k_ => some k_ ≠ (v439 : Value).ownBlock) v436 y435) := ⟨h0_⟩
   have n1_ : Aside0 (Kd.R (Kd.int .i64) 2 w18 w.heap.size (fun k_ => some k_ ≠ (v436 : Value).ownBlock) v439 y438) := ⟨h1_⟩
   have n2_ : Aside0 (w18.heap[gb433]? = some (.cells #[.int .i64 a0_0, .slice A0_1 l0_1.length c0_1, .slice A0_2 l0_2.length c0_2, .int .i64 a0_3, .int .i64 a0_4, .int .i64 a0_5, .int .i64 a0_6] 45 (0, 0))) := ⟨h2_⟩
   have n3_ : Aside0 (Below w.heap.size w w18) := ⟨h3_⟩
   clear BK433
   clear HB
   clear h0_ h1_ h2_ h3_
   have HO437 := n0_
   have HO440 := n1_
   have BK433 := n2_
   have HB := n3_
   clear n0_ n1_ n2_ n3_
   have hHeld := trivial
   refine norm_ (a' := ?_) ?_ ?_
   rotate_left
   ·simp only [putAll, Act.put, List.setIfInBounds_toArray, List.set_cons_zero, List.set_cons_succ]
    rfl
   refine one_ (i := 5) (N := some 25) #[true, true, true, true, true, true, true, true, false] rfl rfl (one_of HT_.out (by kernel_rfl)) (by decide) (fun K hK => ?_)
   refine Kd.R_make_step Kd.bool _ 4 (by rfl) (N := 25) rfl 99 _ _ rfl t434 rfl rfl Try.underlying99 (.bool false) 1 info4 rfl (by decide) (by omega) false (ok := fun _ => True) (okp := fun _ => True) rfl (fun _ hk => hk) trivial (of_decide_eq_true (by with_reducible assumption)) (Nat.le_trans (Nat.mul_le_mul_right _ (of_decide_eq_true (by with_reducible assumption) : t434.toNat ≤ 281474976710656)) (by omega)) (Below.refl _ _) (Nat.le_refl _) ?_
   intro v442 w19 ho20 hb hg_ hnew_
   clear hg_ hnew_
   (first | rw [← Ny441.out] at ho20 | (simp only [Int.reduceToNat] at ho20; rw [← Ny441.out] at ho20))
   have n0_ := Aside0.mk (Kd.R_below (by (with_reducible repeat (first | apply Kd.R_alloc | apply Kd.R_drewN | apply Kd.R_drew)); exact HO437.out) hb)
   have n1_ := Aside0.mk (Kd.R_below (by (with_reducible repeat (first | apply Kd.R_alloc | apply Kd.R_drewN | apply Kd.R_drew)); exact HO440.out) hb)
   have n2_ := Aside0.mk (Kd.R_lower ho20 (below_size (by with_reducible repeat (first | exact HB.out | apply below_alloc | apply pw_below_drewN | apply below_drew1 | refine below_set ?_ GE433.out))))
   have n3_ := Aside0.mk (blk_below (g := gb433) (by (with_reducible repeat (first | refine blk_drewN ?_ _ | refine blk_drew ?_ | refine blk_alloc ?_ _)); exact BK433.out) hb)
   have n4_ := Aside0.mk (below_step (by with_reducible repeat (first | exact HB.out | apply below_alloc | apply pw_below_drewN | apply below_drew1 | refine below_set ?_ GE433.out)) hb)
   clear HO437
   clear HO440
   clear BK433
   clear HB
   have HO437 := n0_
   have HO440 := n1_
   have HO443 := n2_
   have BK433 := n3_
   have HB := n4_
   clear n0_ n1_ n2_ n3_ n4_
   clear hb ho20
   refine hK.out _ _ trivial (fun hHeld => ?_)
   clear hK K
   refine norm_ (a' := ?_) ?_ ?_
   rotate_left
   ·show Act.put _ (some 25) _ = _
    simp only [Act.put, List.setIfInBounds_toArray, List.set_cons_zero, List.set_cons_succ, i64_w, i32_w]
    rfl
   exact norm_ (by first | (simp only [putAll, Act.put, List.setIfInBounds_toArray, List.set_cons_zero, List.set_cons_succ]; done) | (simp only [putAll, Act.put, List.setIfInBounds_toArray, List.set_cons_zero, List.set_cons_succ]; rfl)) (hJ1_3_5 (v436, v439, v442) _ ⟨(by (with_reducible repeat (first | apply Kd.R_alloc | apply Kd.R_drewN | apply Kd.R_drew)); exact HO437.out), (by (with_reducible repeat (first | apply Kd.R_alloc | apply Kd.R_drewN | apply Kd.R_drew)); exact HO440.out), (by (with_reducible repeat (first | apply Kd.R_alloc | apply Kd.R_drewN | apply Kd.R_drew)); exact HO443.out), (by (with_reducible repeat (first | refine blk_drewN ?_ _ | refine blk_drew ?_ | refine blk_alloc ?_ _)); exact BK433.out), (by with_reducible repeat (first | exact HB.out | apply below_alloc | apply pw_below_drewN | apply below_drew1 | refine below_set ?_ GE433.out))⟩)
 rintro ⟨v436, v439, v442⟩ w20 ⟨h0_, h1_, h2_, h3_, h4_⟩
 have n0_ : Aside0 (Kd.R (Kd.int .i64) 2 w20 w.heap.size (fun k_ => some k_ ≠ (v439 : Value).ownBlock) v436 y435) := ⟨h0_⟩
 have n1_ : Aside0 (Kd.R (Kd.int .i64) 2 w20 w.heap.size (fun k_ => some k_ ≠ (v436 : Value).ownBlock) v439 y438) := ⟨h1_⟩
 have n2_ : Aside0 (Kd.R Kd.bool 4 w20 w.heap.size (fun _ => True) v442 y441) := ⟨h2_⟩
 have n3_ : Aside0 (w20.heap[gb433]? = some (.cells #[.int .i64 a0_0, .slice A0_1 l0_1.length c0_1, .slice A0_2 l0_2.length c0_2, .int .i64 a0_3, .int .i64 a0_4, .int .i64 a0_5, .int .i64 a0_6] 45 (0, 0))) := ⟨h3_⟩
 have n4_ : Aside0 (Below w.heap.size w w20) := ⟨h4_⟩
 clear BK433
 clear HB
 clear h0_ h1_ h2_ h3_ h4_
 have HO437 := n0_
 have HO440 := n1_
 have HO443 := n2_
 have BK433 := n3_
 have HB := n4_
 clear n0_ n1_ n2_ n3_ n4_
 have hHeld := trivial
 refine norm_ (a' := ?_) ?_ ?_
 rotate_left
 ·simp only [putAll, Act.put, List.setIfInBounds_toArray, List.set_cons_zero, List.set_cons_succ]
  rfl
 refine pure_ (i := 8) (N := some 10) (v := ?_) (a' := ?_) #[true, true, true, true, true, true, true, true, true] rfl rfl (any_of HT_.out (by kernel_rfl)) (fun _ _ _ h => h) (Or.inl ⟨by rfl, ?_⟩) ?_ ?_
 rotate_left
 ·intro w'
  go_simp
  with_reducible rfl
 rotate_left
 ·simp only [Act.put, List.setIfInBounds_toArray, List.set_cons_zero, List.set_cons_succ, i64_w, i32_w]
  rfl
 refine done_ (done_of HT_.out (by kernel_rfl)) ?_
 have p9 : 0 ≤ (a1 : Int) := of_decide_eq_true (by with_reducible assumption)
 have q9 : (a1 : Int) < ((y441.length : Int) : Int) := of_decide_eq_true (by with_reducible assumption)
 obtain ⟨go9, co9, eo9, gb9, gl9, cl9, HG9⟩ := Kd.R_form HO443.out (by omega)
 (first | cases eo9 | (injection eo9 with ea_ en_ ec_; (first | subst ea_ | (injection ea_ with ea_; subst ea_)); subst ec_; clear en_))
 have GB9 := Aside0.mk gb9
 have GG9 := Aside0.mk HG9
 clear gb9 gl9 HG9
 obtain ⟨hx9_0, hf9_0⟩ := Kd.R_celln false HO443.out (a1 : Int) p9 q9
 replace p9 := eq_true p9
 replace q9 := eq_true q9
 obtain ⟨hy21_, hz21_⟩ := Kd.R_celln false HO443.out (a1 : Int) (of_decide_eq_true (by with_reducible assumption)) (of_decide_eq_true (by with_reducible assumption))
 have HP21 := Kd.R_putg HO443.out (a1 : Int) true
 try go_wp2_with (first | ((with_reducible refine gate_store (t := 4) (p := 28) rfl ?_); refine store_event (t := 4) (p := 28) (v := ?vo_w22) (w1 := (w20.setCell ⟨go9, (a1 : Int).toNat, none⟩ (.bool true))) ?hg ?ho ?hn ?hr ?_; (case ho => rfl); (case hg => rfl); (case hn => rfl); (case hr => first | (go_simp; done) | (go_simp; rfl)); intro w22 hw; have hg : w20.grownBy w22 (some go9) := (by rw [hw]; exact HP21.2); have hp_ : Kd.R Kd.bool 4 w22 w.heap.size (fun _ => True) (.slice (some ⟨go9, 0, none⟩) y441.length co9) y444 := (by rw [hw, Ny444.out]; exact HP21.1); clear HP21; have n0_ := Aside0.mk (blk_grown (g := gb433) (by (with_reducible repeat (first | refine blk_drewN ?_ _ | refine blk_drew ?_ | refine blk_alloc ?_ _)); exact BK433.out) hg (Kd.R_ne HO443.out BK433.out (by decide))); have n1_ := Aside0.mk (Kd.R_over' (v := (.slice (some ⟨go9, 0, none⟩) y441.length co9)) (by (with_reducible repeat (first | apply Kd.R_alloc | apply Kd.R_drewN | apply Kd.R_drew)); exact HO437.out) (Kd.R_typed HO443.out) (by decide) hg); have n2_ := Aside0.mk (Kd.R_over' (v := (.slice (some ⟨go9, 0, none⟩) y441.length co9)) (by (with_reducible repeat (first | apply Kd.R_alloc | apply Kd.R_drewN | apply Kd.R_drew)); exact HO440.out) (Kd.R_typed HO443.out) (by decide) hg); have n3_ := Aside0.mk (hp_); have n4_ := Aside0.mk ((by rw [hw]; exact below_set (HB.out) GB9.out : Below w.heap.size w w22)); clear BK433; clear HO437; clear HO440; clear HO443; clear HB; have BK433 := n0_; have HO437 := n1_; have HO440 := n2_; have HO443 := n3_; have HB := n4_; clear n0_ n1_ n2_ n3_ n4_; clear hg hw hp_; have hcz23_0 : w22.cell? ⟨gb433, 0, none⟩ = some (.int .i64 a0_0) := (blk_cell BK433.out 0).trans rfl; have hcz23_1 : w22.cell? ⟨gb433, 1, none⟩ = some (.slice A0_1 l0_1.length c0_1) := (blk_cell BK433.out 1).trans rfl; have hcz23_2 : w22.cell? ⟨gb433, 2, none⟩ = some (.slice A0_2 l0_2.length c0_2) := (blk_cell BK433.out 2).trans rfl; have hcz23_3 : w22.cell? ⟨gb433, 3, none⟩ = some (.int .i64 a0_3) := (blk_cell BK433.out 3).trans rfl; have hcz23_4 : w22.cell? ⟨gb433, 4, none⟩ = some (.int .i64 a0_4) := (blk_cell BK433.out 4).trans rfl; have hcz23_5 : w22.cell? ⟨gb433, 5, none⟩ = some (.int .i64 a0_5) := (blk_cell BK433.out 5).trans rfl; have hcz23_6 : w22.cell? ⟨gb433, 6, none⟩ = some (.int .i64 a0_6) := (blk_cell BK433.out 6).trans rfl; have hfz23_0 := blk_frozen BK433.out 0; have hfz23_1 := blk_frozen BK433.out 1; have hfz23_2 := blk_frozen BK433.out 2; have hfz23_3 := blk_frozen BK433.out 3; have hfz23_4 := blk_frozen BK433.out 4; have hfz23_5 := blk_frozen BK433.out 5; have hfz23_6 := blk_frozen BK433.out 6))
 go_loopg [32] k (fun kq v32 w' => ∃ (x8_1 : List Int) (x9_1 : List Int) (x10_1 : List Bool) (x32_1 : Int), v32 = .int .i64 x32_1 ∧ Aside0 (impl_Circuit_delays.l0 kq x8_1 x9_1 x10_1 l0_1 (l0_1.length : Int) x32_1 a0_0 l0_1 l0_2 a0_3 a0_4 a0_5 a0_6 = some (r1, r2, r3)) ∧ Aside0 (kq ≤ k) ∧ Aside0 (Kd.R (Kd.int .i64) 2 w' w.heap.size (fun k_ => some k_ ≠ (v439 : Value).ownBlock) v436 x8_1) ∧ Aside0 (Kd.R (Kd.int .i64) 2 w' w.heap.size (fun k_ => some k_ ≠ (v436 : Value).ownBlock) v439 x9_1) ∧ Aside0 (Kd.R Kd.bool 4 w' w.heap.size (fun _ => True) (.slice (some ⟨go9, 0, none⟩) y441.length co9) x10_1) ∧ Aside0 (w'.heap[gb433]? = some (.cells #[.int .i64 a0_0, (.slice A0_1 l0_1.length c0_1), (.slice A0_2 l0_2.length c0_2), .int .i64 a0_3, .int .i64 a0_4, .int .i64 a0_5, .int .i64 a0_6] 45 (0, 0))) ∧ Aside0 (Below w.heap.size w w'))
 case atStart => exact ⟨(y435), (y438), (y444), (0), (by first | rfl | (simp; done) | (simp [*]; done)), H', ⟨Nat.le_refl _⟩, ⟨by (with_reducible repeat (first | apply Kd.R_alloc | apply Kd.R_drewN | apply Kd.R_drew)); exact HO437.out⟩, ⟨by (with_reducible repeat (first | apply Kd.R_alloc | apply Kd.R_drewN | apply Kd.R_drew)); exact HO440.out⟩, ⟨by (with_reducible repeat (first | apply Kd.R_alloc | apply Kd.R_drewN | apply Kd.R_drew)); exact HO443.out⟩, ⟨by (with_reducible repeat (first | refine blk_drewN ?_ _ | refine blk_drew ?_ | refine blk_alloc ?_ _)); exact BK433.out⟩, ⟨by with_reducible repeat (first | exact HB.out | apply below_alloc | apply pw_below_drewN | apply below_drew1 | refine below_set ?_ GE433.out)⟩⟩
 case round =>
  clear H'
  try clear p2
  try clear c5
  try clear c7
  try clear c8
  try clear c8b0
  try clear p9
  try clear q9
  try clear hx9
  try clear hf9
  try clear hcz11_0
  try clear hcz11_1
  try clear hcz11_2
  try clear hcz11_3
  try clear hcz11_4
  try clear hcz11_5
  try clear hcz11_6
  try clear hcz23_0
  try clear hcz23_1
  try clear hcz23_2
  try clear hcz23_3
  try clear hcz23_4
  try clear hcz23_5
  try clear hcz23_6
  try clear hfz11_0
  try clear hfz11_1
  try clear hfz11_2
  try clear hfz11_3
  try clear hfz11_4
  try clear hfz11_5
  try clear hfz11_6
  try clear hfz23_0
  try clear hfz23_1
  try clear hfz23_2
  try clear hfz23_3
  try clear hfz23_4
  try clear hfz23_5
  try clear hfz23_6
  try clear hx9_0
  try clear p9
  try clear q9
  obtain ⟨x8_1, x9_1, x10_1, x32_1, rfl, HA, HK1, HO_8, HO_9, HO_10, BK433, HB⟩ := hrel
  have hl10_1 := (Kd.R_reads' HO_10.out).1
  rw [hl10_1] at HO_10
  (try simp only [hl10_1])
  (try simp only [hl10_1] at BK433)
  (try simp only [hl10_1] at HO_8)
  (try simp only [hl10_1] at HO_9)
  cases gk with
  | zero => exact absurd HA.out (by simp [impl_Circuit_delays.l0])
  | succ k1 =>
   have H := HA.out
   clear HA
   simp only [impl_Circuit_delays.l0] at H
   by_cases c24 : x32_1 < (l0_1.length : Int)
   ·rw [if_pos c24] at H
    have c24b0 : decide (x32_1 < (l0_1.length : Int)) = true := decide_eq_true c24
    clear c24
    by_cases c25 : 0 ≤ x32_1
    case neg => rw [if_neg c25] at H; exact absurd H (by simp)
    rw [if_pos c25] at H
    have c25b0 : decide (0 ≤ x32_1) = true := decide_eq_true c25
    clear c25
    by_cases c26 : x32_1 < (l0_1.length : Int)
    case neg => rw [if_neg c26] at H; exact absurd H (by simp)
    rw [if_pos c26] at H
    have c26b0 : decide (x32_1 < (l0_1.length : Int)) = true := decide_eq_true c26
    clear c26
    have H' := Aside0.mk H
    clear H
    have p445 : 0 ≤ (x32_1 : Int) := of_decide_eq_true (by with_reducible assumption)
    have q445 : x32_1 < (l0_1.length : Int) := of_decide_eq_true (by with_reducible assumption)
    obtain ⟨ad445, A445_2, c445_2, e445, hx445_0, hx445_1, hx445_2, hl445_2, hi445_2⟩ := at_T56 HR0_1.out x32_1 p445 q445
    cases e445
    replace hx445_0 := (HB.out.cell (World.block_lt_of_cell? w _ hx445_0)).trans hx445_0
    replace hx445_1 := (HB.out.cell (World.block_lt_of_cell? w _ hx445_1)).trans hx445_1
    replace hx445_2 := (HB.out.cell (World.block_lt_of_cell? w _ hx445_2)).trans hx445_2
    have HR445_2 := Aside0.mk hi445_2
    have HC445_2 := Aside0.mk hl445_2
    clear hi445_2 hl445_2
    replace p445 := eq_true p445
    replace q445 := eq_true q445
    go_wp2_with (first | ((with_reducible refine gate_dst (N := 12) rfl ?_); refine box_event ?hg (N := 12) ?hd (cs := #[.int .i64 0, .int .i64 0, .slice none 0 0]) (t := 56) ?hr ?_; (case hd => rfl); (case hg => rfl); (case hr => first | (go_simp; done) | (go_simp; rfl)); intro gb446 hg w27 hbox hb; have n0_ := Aside0.mk (Kd.R_below (by (with_reducible repeat (first | apply Kd.R_alloc | apply Kd.R_drewN | apply Kd.R_drew)); exact HO_8.out) hb); have n1_ := Aside0.mk (Kd.R_below (by (with_reducible repeat (first | apply Kd.R_alloc | apply Kd.R_drewN | apply Kd.R_drew)); exact HO_9.out) hb); have n2_ := Aside0.mk (Kd.R_below (by (with_reducible repeat (first | apply Kd.R_alloc | apply Kd.R_drewN | apply Kd.R_drew)); exact HO_10.out) hb); have n3_ := Aside0.mk (blk_below (g := gb433) (by (with_reducible repeat (first | refine blk_drewN ?_ _ | refine blk_drew ?_ | refine blk_alloc ?_ _)); exact BK433.out) hb); have n4_ := Aside0.mk (below_step (by with_reducible repeat (first | exact HB.out | apply below_alloc | apply pw_below_drewN | apply below_drew1 | refine below_set ?_ GE433.out)) hb); have n5_ := Aside0.mk (hbox); have n6_ := Aside0.mk ((by rw [hg]; exact (below_size (by with_reducible repeat (first | exact HB.out | apply below_alloc | apply pw_below_drewN | apply below_drew1 | refine below_set ?_ GE433.out))) : w.heap.size ≤ gb446)); have n7_ := Aside0.mk ((by rw [hg]; exact (below_size (by with_reducible repeat (first | exact HB.out | apply below_alloc | apply pw_below_drewN | apply below_drew1 | refine below_set ?_ GE433.out))) : w.heap.size ≤ gb446)); have n8_ := Aside0.mk ((by rw [hg]; exact Nat.ne_of_lt (blk_lt (g := gb433) (by (with_reducible repeat (first | refine blk_drewN ?_ _ | refine blk_drew ?_ | refine blk_alloc ?_ _)); exact BK433.out)) : gb433 ≠ gb446)); have n9_ := Aside0.mk ((by rw [hg]; exact Nat.ne_of_gt (blk_lt (g := gb433) (by (with_reducible repeat (first | refine blk_drewN ?_ _ | refine blk_drew ?_ | refine blk_alloc ?_ _)); exact BK433.out)) : gb446 ≠ gb433)); clear HO_8; clear HO_9; clear HO_10; clear BK433; clear HB; have HO_8 := n0_; have HO_9 := n1_; have HO_10 := n2_; have BK433 := n3_; have HB := n4_; have BK446 := n5_; have GW446 := n6_; have GE446 := n7_; have NB433_446 := n8_; have NB446_433 := n9_; clear n0_ n1_ n2_ n3_ n4_ n5_ n6_ n7_ n8_ n9_; clear hb hbox hg; have hnb28 := NB446_433.out; have hnc28 := NB433_446.out; have hcz29_0 : w27.cell? ⟨gb446, 0, none⟩ = some (.int .i64 0) := (blk_cell BK446.out 0).trans rfl; have hcz29_1 : w27.cell? ⟨gb446, 1, none⟩ = some (.int .i64 0) := (blk_cell BK446.out 1).trans rfl; have hcz29_2 : w27.cell? ⟨gb446, 2, none⟩ = some (.slice none 0 0) := (blk_cell BK446.out 2).trans rfl; have hfz29_0 := blk_frozen BK446.out 0; have hfz29_1 := blk_frozen BK446.out 1; have hfz29_2 := blk_frozen BK446.out 2; have hcz30_0 : w27.cell? ⟨gb433, 0, none⟩ = some (.int .i64 a0_0) := (blk_cell BK433.out 0).trans rfl; have hcz30_1 : w27.cell? ⟨gb433, 1, none⟩ = some (.slice (some ad445) l0_1.length c0_1) := (blk_cell BK433.out 1).trans rfl; have hcz30_2 : w27.cell? ⟨gb433, 2, none⟩ = some (.slice A0_2 l0_2.length c0_2) := (blk_cell BK433.out 2).trans rfl; have hcz30_3 : w27.cell? ⟨gb433, 3, none⟩ = some (.int .i64 a0_3) := (blk_cell BK433.out 3).trans rfl; have hcz30_4 : w27.cell? ⟨gb433, 4, none⟩ = some (.int .i64 a0_4) := (blk_cell BK433.out 4).trans rfl; have hcz30_5 : w27.cell? ⟨gb433, 5, none⟩ = some (.int .i64 a0_5) := (blk_cell BK433.out 5).trans rfl; have hcz30_6 : w27.cell? ⟨gb433, 6, none⟩ = some (.int .i64 a0_6) := (blk_cell BK433.out 6).trans rfl; have hfz30_0 := blk_frozen BK433.out 0; have hfz30_1 := blk_frozen BK433.out 1; have hfz30_2 := blk_frozen BK433.out 2; have hfz30_3 := blk_frozen BK433.out 3; have hfz30_4 := blk_frozen BK433.out 4; have hfz30_5 := blk_frozen BK433.out 5; have hfz30_6 := blk_frozen BK433.out 6))
    go_loopg [44] k1 (fun kq v44 w' => ∃ (x8_2 : List Int) (x9_2 : List Int) (x10_2 : List Bool) (x44_2 : Int), v44 = .int .i64 x44_2 ∧ Aside0 (impl_Circuit_delays.l1 kq x8_2 x9_2 x10_2 (wrap64 (a0_0 + x32_1)) l0_1 (l0_1.length : Int) x32_1 ((rd_T56 l0_1 x32_1).f2) (((rd_T56 l0_1 x32_1).f2).length : Int) x44_2 a0_0 l0_1 l0_2 a0_3 a0_4 a0_5 a0_6 ((rd_T56 l0_1 x32_1).f0) ((rd_T56 l0_1 x32_1).f1) ((rd_T56 l0_1 x32_1).f2) = some (r1, r2, r3)) ∧ Aside0 (kq ≤ k1) ∧ Aside0 (Kd.R (Kd.int .i64) 2 w' w.heap.size (fun k_ => some k_ ≠ (v439 : Value).ownBlock) v436 x8_2) ∧ Aside0 (Kd.R (Kd.int .i64) 2 w' w.heap.size (fun k_ => some k_ ≠ (v436 : Value).ownBlock) v439 x9_2) ∧ Aside0 (Kd.R Kd.bool 4 w' w.heap.size (fun _ => True) (.slice (some ⟨go9, 0, none⟩) x10_1.length co9) x10_2) ∧ Aside0 (w'.heap[gb433]? = some (.cells #[.int .i64 a0_0, (.slice (some ad445) l0_1.length c0_1), (.slice A0_2 l0_2.length c0_2), .int .i64 a0_3, .int .i64 a0_4, .int .i64 a0_5, .int .i64 a0_6] 45 (0, 0))) ∧ Aside0 (w'.heap[gb446]? = some (.cells #[.int .i64 ((rd_T56 l0_1 x32_1).f0), .int .i64 ((rd_T56 l0_1 x32_1).f1), (.slice A445_2 ((rd_T56 l0_1 x32_1).f2).length c445_2)] 56 (0, 0))) ∧ Aside0 (Below w.heap.size w w'))
    case atStart => exact ⟨(x8_1), (x9_1), (x10_1), (0), (by first | rfl | (simp; done) | (simp [*]; done)), H', ⟨Nat.le_refl _⟩, ⟨by (try simp only [hl10_1]); (with_reducible repeat (first | apply Kd.R_alloc | apply Kd.R_drewN | apply Kd.R_drew)); exact Kd.R_mono (Kd.R_far (p := ⟨gb446, 2, none⟩) (Kd.R_far (p := ⟨gb446, 1, none⟩) (Kd.R_far (p := ⟨gb446, 0, none⟩) (Kd.R_types HO_8.out BK446.out (by decide)) (fun _ hk => hk.2) (.int .i64 ((rd_T56 l0_1 x32_1).f0))) (fun _ hk => hk.2) (.int .i64 ((rd_T56 l0_1 x32_1).f1))) (fun _ hk => hk.2) (.slice A445_2 ((rd_T56 l0_1 x32_1).f2).length c445_2)) (fun _ hk => hk.1)⟩, ⟨by (try simp only [hl10_1]); (with_reducible repeat (first | apply Kd.R_alloc | apply Kd.R_drewN | apply Kd.R_drew)); exact Kd.R_mono (Kd.R_far (p := ⟨gb446, 2, none⟩) (Kd.R_far (p := ⟨gb446, 1, none⟩) (Kd.R_far (p := ⟨gb446, 0, none⟩) (Kd.R_types HO_9.out BK446.out (by decide)) (fun _ hk => hk.2) (.int .i64 ((rd_T56 l0_1 x32_1).f0))) (fun _ hk => hk.2) (.int .i64 ((rd_T56 l0_1 x32_1).f1))) (fun _ hk => hk.2) (.slice A445_2 ((rd_T56 l0_1 x32_1).f2).length c445_2)) (fun _ hk => hk.1)⟩, ⟨by (try simp only [hl10_1]); (with_reducible repeat (first | apply Kd.R_alloc | apply Kd.R_drewN | apply Kd.R_drew)); exact Kd.R_mono (Kd.R_far (p := ⟨gb446, 2, none⟩) (Kd.R_far (p := ⟨gb446, 1, none⟩) (Kd.R_far (p := ⟨gb446, 0, none⟩) (Kd.R_types HO_10.out BK446.out (by decide)) (fun _ hk => hk.2) (.int .i64 ((rd_T56 l0_1 x32_1).f0))) (fun _ hk => hk.2) (.int .i64 ((rd_T56 l0_1 x32_1).f1))) (fun _ hk => hk.2) (.slice A445_2 ((rd_T56 l0_1 x32_1).f2).length c445_2)) (fun _ hk => trivial)⟩, ⟨by (try simp only [hl10_1]); (with_reducible repeat (first | refine blk_drewN ?_ _ | refine blk_drew ?_ | refine blk_alloc ?_ _)); refine blk_far ?_ NB433_446.out _; (with_reducible repeat (first | refine blk_drewN ?_ _ | refine blk_drew ?_ | refine blk_alloc ?_ _)); refine blk_far ?_ NB433_446.out _; (with_reducible repeat (first | refine blk_drewN ?_ _ | refine blk_drew ?_ | refine blk_alloc ?_ _)); refine blk_far ?_ NB433_446.out _; (with_reducible repeat (first | refine blk_drewN ?_ _ | refine blk_drew ?_ | refine blk_alloc ?_ _)); exact BK433.out⟩, ⟨by (try simp only [hl10_1]); (with_reducible repeat (first | refine blk_drewN ?_ _ | refine blk_drew ?_ | refine blk_alloc ?_ _)); refine blk_put (cs := #[.int .i64 ((rd_T56 l0_1 x32_1).f0), .int .i64 ((rd_T56 l0_1 x32_1).f1), .slice none 0 0]) ?_ 2 _ rfl; (with_reducible repeat (first | refine blk_drewN ?_ _ | refine blk_drew ?_ | refine blk_alloc ?_ _)); refine blk_put (cs := #[.int .i64 ((rd_T56 l0_1 x32_1).f0), .int .i64 0, .slice none 0 0]) ?_ 1 _ rfl; (with_reducible repeat (first | refine blk_drewN ?_ _ | refine blk_drew ?_ | refine blk_alloc ?_ _)); refine blk_put (cs := #[.int .i64 0, .int .i64 0, .slice none 0 0]) ?_ 0 _ rfl; (with_reducible repeat (first | refine blk_drewN ?_ _ | refine blk_drew ?_ | refine blk_alloc ?_ _)); exact BK446.out⟩, ⟨by with_reducible repeat (first | exact HB.out | apply below_alloc | apply pw_below_drewN | apply below_drew1 | refine below_set ?_ GE433.out | refine below_set ?_ GE446.out)⟩⟩
    case round =>
     clear H'
     try clear c2
     try clear p2
     try clear c4
     try clear p4
     try clear q4
     try clear hx4
     try clear c5
     try clear p6
     try clear c7
     try clear c8
     try clear c8b0
     try clear p9
     try clear q9
     try clear hx9
     try clear hf9
     try clear c24
     try clear c24b0
     try clear c25
     try clear c25b0
     try clear c26
     try clear c26b0
     try clear c28
     try clear hcz11_0
     try clear hcz11_1
     try clear hcz11_2
     try clear hcz11_3
     try clear hcz11_4
     try clear hcz11_5
     try clear hcz11_6
     try clear hcz23_0
     try clear hcz23_1
     try clear hcz23_2
     try clear hcz23_3
     try clear hcz23_4
     try clear hcz23_5
     try clear hcz23_6
     try clear hcz29_0
     try clear hcz29_1
     try clear hcz29_2
     try clear hcz30_0
     try clear hcz30_1
     try clear hcz30_2
     try clear hcz30_3
     try clear hcz30_4
     try clear hcz30_5
     try clear hcz30_6
     try clear hfz11_0
     try clear hfz11_1
     try clear hfz11_2
     try clear hfz11_3
     try clear hfz11_4
     try clear hfz11_5
     try clear hfz11_6
     try clear hfz23_0
     try clear hfz23_1
     try clear hfz23_2
     try clear hfz23_3
     try clear hfz23_4
     try clear hfz23_5
     try clear hfz23_6
     try clear hfz29_0
     try clear hfz29_1
     try clear hfz29_2
     try clear hfz30_0
     try clear hfz30_1
     try clear hfz30_2
     try clear hfz30_3
     try clear hfz30_4
     try clear hfz30_5
     try clear hfz30_6
     try clear hx445_0
     try clear hx445_1
     try clear hx445_2
     try clear hx9_0
     try clear p2
     try clear p445
     try clear p9
     try clear q445
     try clear q9
     obtain ⟨x8_2, x9_2, x10_2, x44_2, rfl, HA, HK2, HO_8, HO_9, HO_10, BK433, BK446, HB⟩ := hrel
     have hl10_2 := (Kd.R_reads' HO_10.out).1
     rw [hl10_2] at HO_10
     (try simp only [hl10_2])
     (try simp only [hl10_2] at BK433)
     (try simp only [hl10_2] at BK446)
     (try simp only [hl10_2] at HO_8)
     (try simp only [hl10_2] at HO_9)
     cases gk with
     | zero => exact absurd HA.out (by simp [impl_Circuit_delays.l1])
     | succ k2 =>
      have H := HA.out
      clear HA
      simp only [impl_Circuit_delays.l1] at H
      by_cases c31 : x44_2 < (((rd_T56 l0_1 x32_1).f2).length : Int)
      ·rw [if_pos c31] at H
       have c31b0 : decide (x44_2 < (((rd_T56 l0_1 x32_1).f2).length : Int)) = true := decide_eq_true c31
       clear c31
       by_cases c32 : 0 ≤ x44_2
       case neg => rw [if_neg c32] at H; exact absurd H (by simp)
       rw [if_pos c32] at H
       have c32b0 : decide (0 ≤ x44_2) = true := decide_eq_true c32
       clear c32
       by_cases c33 : x44_2 < (((rd_T56 l0_1 x32_1).f2).length : Int)
       case neg => rw [if_neg c33] at H; exact absurd H (by simp)
       rw [if_pos c33] at H
       have c33b0 : decide (x44_2 < (((rd_T56 l0_1 x32_1).f2).length : Int)) = true := decide_eq_true c33
       clear c33
       by_cases c34 : 0 ≤ (rd ((rd_T56 l0_1 x32_1).f2) x44_2)
       case neg => rw [if_neg c34] at H; exact absurd H (by simp)
       rw [if_pos c34] at H
       have c34b0 : decide (0 ≤ (rd ((rd_T56 l0_1 x32_1).f2) x44_2)) = true := decide_eq_true c34
       clear c34
       by_cases c35 : (rd ((rd_T56 l0_1 x32_1).f2) x44_2) < (x10_2.length : Int)
       case neg => rw [if_neg c35] at H; exact absurd H (by simp)
       rw [if_pos c35] at H
       have c35b0 : decide ((rd ((rd_T56 l0_1 x32_1).f2) x44_2) < (x10_2.length : Int)) = true := decide_eq_true c35
       clear c35
       obtain ⟨bq36, hbq36⟩ : ∃ b_ : Bool, b_ = (rdOf false x10_2 (rd ((rd_T56 l0_1 x32_1).f2) x44_2)) := ⟨_, rfl⟩
       replace H : (if (bq36 = true) then (if (rd ((rd_T56 l0_1 x32_1).f2) x44_2) < (x8_2.length : Int) then (if (rd ((rd_T56 l0_1 x32_1).f2) x44_2) < (x9_2.length : Int) then (if 0 ≤ (wrap64 (a0_0 + x32_1)) then (if (wrap64 (a0_0 + x32_1)) < (x10_2.length : Int) then (if rdOf false x10_2 (wrap64 (a0_0 + x32_1)) = true then (if (wrap64 (a0_0 + x32_1)) < (x8_2.length : Int) then (if (wrap64 (a0_0 + x32_1)) < (x9_2.length : Int) then (impl_Circuit_delays.l1 k2 (x8_2.set ((wrap64 (a0_0 + x32_1)) : Int).toNat (mn (rd x8_2 (wrap64 (a0_0 + x32_1))) (wrap64 ((rd x8_2 (rd ((rd_T56 l0_1 x32_1).f2) x44_2)) + ((rd_T56 l0_1 x32_1).f0))))) (x9_2.set ((wrap64 (a0_0 + x32_1)) : Int).toNat (mx (rd x9_2 (wrap64 (a0_0 + x32_1))) (wrap64 ((rd x9_2 (rd ((rd_T56 l0_1 x32_1).f2) x44_2)) + ((rd_T56 l0_1 x32_1).f1))))) x10_2 (wrap64 (a0_0 + x32_1)) l0_1 (l0_1.length : Int) x32_1 ((rd_T56 l0_1 x32_1).f2) (((rd_T56 l0_1 x32_1).f2).length : Int) (wrap64 (x44_2 + 1)) a0_0 l0_1 l0_2 a0_3 a0_4 a0_5 a0_6 ((rd_T56 l0_1 x32_1).f0) ((rd_T56 l0_1 x32_1).f1) ((rd_T56 l0_1 x32_1).f2)) else (none)) else (none)) else (if (wrap64 (a0_0 + x32_1)) < (x8_2.length : Int) then ((some (x8_2.set ((wrap64 (a0_0 + x32_1)) : Int).toNat (wrap64 ((rd x8_2 (rd ((rd_T56 l0_1 x32_1).f2) x44_2)) + ((rd_T56 l0_1 x32_1).f0))) : List Int)).bind fun y456 => (if (wrap64 (a0_0 + x32_1)) < (x9_2.length : Int) then ((some (x9_2.set ((wrap64 (a0_0 + x32_1)) : Int).toNat (wrap64 ((rd x9_2 (rd ((rd_T56 l0_1 x32_1).f2) x44_2)) + ((rd_T56 l0_1 x32_1).f1))) : List Int)).bind fun y457 => (impl_Circuit_delays.l1 k2 (y456.set ((wrap64 (a0_0 + x32_1)) : Int).toNat (mn (rd y456 (wrap64 (a0_0 + x32_1))) (wrap64 ((rd x8_2 (rd ((rd_T56 l0_1 x32_1).f2) x44_2)) + ((rd_T56 l0_1 x32_1).f0))))) (y457.set ((wrap64 (a0_0 + x32_1)) : Int).toNat (mx (rd y457 (wrap64 (a0_0 + x32_1))) (wrap64 ((rd x9_2 (rd ((rd_T56 l0_1 x32_1).f2) x44_2)) + ((rd_T56 l0_1 x32_1).f1))))) (x10_2.set ((wrap64 (a0_0 + x32_1)) : Int).toNat true) (wrap64 (a0_0 + x32_1)) l0_1 (l0_1.length : Int) x32_1 ((rd_T56 l0_1 x32_1).f2) (((rd_T56 l0_1 x32_1).f2).length : Int) (wrap64 (x44_2 + 1)) a0_0 l0_1 l0_2 a0_3 a0_4 a0_5 a0_6 ((rd_T56 l0_1 x32_1).f0) ((rd_T56 l0_1 x32_1).f1) ((rd_T56 l0_1 x32_1).f2))) else (none))) else (none))) else (none)) else (none)) else (none)) else (none)) else (impl_Circuit_delays.l1 k2 x8_2 x9_2 x10_2 (wrap64 (a0_0 + x32_1)) l0_1 (l0_1.length : Int) x32_1 ((rd_T56 l0_1 x32_1).f2) (((rd_T56 l0_1 x32_1).f2).length : Int) (wrap64 (x44_2 + 1)) a0_0 l0_1 l0_2 a0_3 a0_4 a0_5 a0_6 ((rd_T56 l0_1 x32_1).f0) ((rd_T56 l0_1 x32_1).f1) ((rd_T56 l0_1 x32_1).f2))) = some (r1, r2, r3) := by rw [← hbq36] at H; exact H
       have Nbq36 := Aside0.mk hbq36
       clear hbq36
       by_cases c37 : (bq36 = true)
       ·subst c37
        have H1 : (if (rd ((rd_T56 l0_1 x32_1).f2) x44_2) < (x8_2.length : Int) then (if (rd ((rd_T56 l0_1 x32_1).f2) x44_2) < (x9_2.length : Int) then (if 0 ≤ (wrap64 (a0_0 + x32_1)) then (if (wrap64 (a0_0 + x32_1)) < (x10_2.length : Int) then (if rdOf false x10_2 (wrap64 (a0_0 + x32_1)) = true then (if (wrap64 (a0_0 + x32_1)) < (x8_2.length : Int) then (if (wrap64 (a0_0 + x32_1)) < (x9_2.length : Int) then (impl_Circuit_delays.l1 k2 (x8_2.set ((wrap64 (a0_0 + x32_1)) : Int).toNat (mn (rd x8_2 (wrap64 (a0_0 + x32_1))) (wrap64 ((rd x8_2 (rd ((rd_T56 l0_1 x32_1).f2) x44_2)) + ((rd_T56 l0_1 x32_1).f0))))) (x9_2.set ((wrap64 (a0_0 + x32_1)) : Int).toNat (mx (rd x9_2 (wrap64 (a0_0 + x32_1))) (wrap64 ((rd x9_2 (rd ((rd_T56 l0_1 x32_1).f2) x44_2)) + ((rd_T56 l0_1 x32_1).f1))))) x10_2 (wrap64 (a0_0 + x32_1)) l0_1 (l0_1.length : Int) x32_1 ((rd_T56 l0_1 x32_1).f2) (((rd_T56 l0_1 x32_1).f2).length : Int) (wrap64 (x44_2 + 1)) a0_0 l0_1 l0_2 a0_3 a0_4 a0_5 a0_6 ((rd_T56 l0_1 x32_1).f0) ((rd_T56 l0_1 x32_1).f1) ((rd_T56 l0_1 x32_1).f2)) else (none)) else (none)) else (if (wrap64 (a0_0 + x32_1)) < (x8_2.length : Int) then ((some (x8_2.set ((wrap64 (a0_0 + x32_1)) : Int).toNat (wrap64 ((rd x8_2 (rd ((rd_T56 l0_1 x32_1).f2) x44_2)) + ((rd_T56 l0_1 x32_1).f0))) : List Int)).bind fun y456 => (if (wrap64 (a0_0 + x32_1)) < (x9_2.length : Int) then ((some (x9_2.set ((wrap64 (a0_0 + x32_1)) : Int).toNat (wrap64 ((rd x9_2 (rd ((rd_T56 l0_1 x32_1).f2) x44_2)) + ((rd_T56 l0_1 x32_1).f1))) : List Int)).bind fun y457 => (impl_Circuit_delays.l1 k2 (y456.set ((wrap64 (a0_0 + x32_1)) : Int).toNat (mn (rd y456 (wrap64 (a0_0 + x32_1))) (wrap64 ((rd x8_2 (rd ((rd_T56 l0_1 x32_1).f2) x44_2)) + ((rd_T56 l0_1 x32_1).f0))))) (y457.set ((wrap64 (a0_0 + x32_1)) : Int).toNat (mx (rd y457 (wrap64 (a0_0 + x32_1))) (wrap64 ((rd x9_2 (rd ((rd_T56 l0_1 x32_1).f2) x44_2)) + ((rd_T56 l0_1 x32_1).f1))))) (x10_2.set ((wrap64 (a0_0 + x32_1)) : Int).toNat true) (wrap64 (a0_0 + x32_1)) l0_1 (l0_1.length : Int) x32_1 ((rd_T56 l0_1 x32_1).f2) (((rd_T56 l0_1 x32_1).f2).length : Int) (wrap64 (x44_2 + 1)) a0_0 l0_1 l0_2 a0_3 a0_4 a0_5 a0_6 ((rd_T56 l0_1 x32_1).f0) ((rd_T56 l0_1 x32_1).f1) ((rd_T56 l0_1 x32_1).f2))) else (none))) else (none))) else (none)) else (none)) else (none)) else (none)) = some (r1, r2, r3) := by rw [if_pos rfl] at H; exact H
        clear H
        have H := H1
        clear H1
        by_cases c38 : (rd ((rd_T56 l0_1 x32_1).f2) x44_2) < (x8_2.length : Int)
        case neg => rw [if_neg c38] at H; exact absurd H (by simp)
        rw [if_pos c38] at H
        have c38b0 : decide ((rd ((rd_T56 l0_1 x32_1).f2) x44_2) < (x8_2.length : Int)) = true := decide_eq_true c38
        clear c38
        by_cases c39 : (rd ((rd_T56 l0_1 x32_1).f2) x44_2) < (x9_2.length : Int)
        case neg => rw [if_neg c39] at H; exact absurd H (by simp)
        rw [if_pos c39] at H
        have c39b0 : decide ((rd ((rd_T56 l0_1 x32_1).f2) x44_2) < (x9_2.length : Int)) = true := decide_eq_true c39
        clear c39
        obtain ⟨ji40, hji40⟩ : ∃ j_ : Int, (wrap64 (a0_0 + x32_1)) = j_ := ⟨_, rfl⟩
        replace H : (if 0 ≤ (ji40) then (if (ji40) < (x10_2.length : Int) then (if rdOf false x10_2 (ji40) = true then (if (ji40) < (x8_2.length : Int) then (if (ji40) < (x9_2.length : Int) then (impl_Circuit_delays.l1 k2 (x8_2.set ((ji40) : Int).toNat (mn (rd x8_2 (ji40)) (wrap64 ((rd x8_2 (rd ((rd_T56 l0_1 x32_1).f2) x44_2)) + ((rd_T56 l0_1 x32_1).f0))))) (x9_2.set ((ji40) : Int).toNat (mx (rd x9_2 (ji40)) (wrap64 ((rd x9_2 (rd ((rd_T56 l0_1 x32_1).f2) x44_2)) + ((rd_T56 l0_1 x32_1).f1))))) x10_2 (ji40) l0_1 (l0_1.length : Int) x32_1 ((rd_T56 l0_1 x32_1).f2) (((rd_T56 l0_1 x32_1).f2).length : Int) (wrap64 (x44_2 + 1)) a0_0 l0_1 l0_2 a0_3 a0_4 a0_5 a0_6 ((rd_T56 l0_1 x32_1).f0) ((rd_T56 l0_1 x32_1).f1) ((rd_T56 l0_1 x32_1).f2)) else (none)) else (none)) else (if (ji40) < (x8_2.length : Int) then ((some (x8_2.set ((ji40) : Int).toNat (wrap64 ((rd x8_2 (rd ((rd_T56 l0_1 x32_1).f2) x44_2)) + ((rd_T56 l0_1 x32_1).f0))) : List Int)).bind fun y456 => (if (ji40) < (x9_2.length : Int) then ((some (x9_2.set ((ji40) : Int).toNat (wrap64 ((rd x9_2 (rd ((rd_T56 l0_1 x32_1).f2) x44_2)) + ((rd_T56 l0_1 x32_1).f1))) : List Int)).bind fun y457 => (impl_Circuit_delays.l1 k2 (y456.set ((ji40) : Int).toNat (mn (rd y456 (ji40)) (wrap64 ((rd x8_2 (rd ((rd_T56 l0_1 x32_1).f2) x44_2)) + ((rd_T56 l0_1 x32_1).f0))))) (y457.set ((ji40) : Int).toNat (mx (rd y457 (ji40)) (wrap64 ((rd x9_2 (rd ((rd_T56 l0_1 x32_1).f2) x44_2)) + ((rd_T56 l0_1 x32_1).f1))))) (x10_2.set ((ji40) : Int).toNat true) (ji40) l0_1 (l0_1.length : Int) x32_1 ((rd_T56 l0_1 x32_1).f2) (((rd_T56 l0_1 x32_1).f2).length : Int) (wrap64 (x44_2 + 1)) a0_0 l0_1 l0_2 a0_3 a0_4 a0_5 a0_6 ((rd_T56 l0_1 x32_1).f0) ((rd_T56 l0_1 x32_1).f1) ((rd_T56 l0_1 x32_1).f2))) else (none))) else (none))) else (none)) else (none)) = some (r1, r2, r3) := by first | (rw [hji40] at H; exact H) | (simp only [hji40] at H ⊢; exact H)
        have hji40w : (IntKind.i64.wrap (a0_0 + x32_1)) = ji40 := (i64_w _).trans hji40
        by_cases c41 : 0 ≤ (ji40)
        case neg => rw [if_neg c41] at H; exact absurd H (by simp)
        rw [if_pos c41] at H
        have c41b0 : decide (0 ≤ (ji40)) = true := decide_eq_true c41
        clear c41
        by_cases c42 : (ji40) < (x10_2.length : Int)
        case neg => rw [if_neg c42] at H; exact absurd H (by simp)
        rw [if_pos c42] at H
        have c42b0 : decide ((ji40) < (x10_2.length : Int)) = true := decide_eq_true c42
        clear c42
        obtain ⟨bq43, hbq43⟩ : ∃ b_ : Bool, b_ = (rdOf false x10_2 (ji40)) := ⟨_, rfl⟩
        replace H : (if bq43 = true then (if (ji40) < (x8_2.length : Int) then (if (ji40) < (x9_2.length : Int) then (impl_Circuit_delays.l1 k2 (x8_2.set ((ji40) : Int).toNat (mn (rd x8_2 (ji40)) (wrap64 ((rd x8_2 (rd ((rd_T56 l0_1 x32_1).f2) x44_2)) + ((rd_T56 l0_1 x32_1).f0))))) (x9_2.set ((ji40) : Int).toNat (mx (rd x9_2 (ji40)) (wrap64 ((rd x9_2 (rd ((rd_T56 l0_1 x32_1).f2) x44_2)) + ((rd_T56 l0_1 x32_1).f1))))) x10_2 (ji40) l0_1 (l0_1.length : Int) x32_1 ((rd_T56 l0_1 x32_1).f2) (((rd_T56 l0_1 x32_1).f2).length : Int) (wrap64 (x44_2 + 1)) a0_0 l0_1 l0_2 a0_3 a0_4 a0_5 a0_6 ((rd_T56 l0_1 x32_1).f0) ((rd_T56 l0_1 x32_1).f1) ((rd_T56 l0_1 x32_1).f2)) else (none)) else (none)) else (if (ji40) < (x8_2.length : Int) then ((some (x8_2.set ((ji40) : Int).toNat (wrap64 ((rd x8_2 (rd ((rd_T56 l0_1 x32_1).f2) x44_2)) + ((rd_T56 l0_1 x32_1).f0))) : List Int)).bind fun y456 => (if (ji40) < (x9_2.length : Int) then ((some (x9_2.set ((ji40) : Int).toNat (wrap64 ((rd x9_2 (rd ((rd_T56 l0_1 x32_1).f2) x44_2)) + ((rd_T56 l0_1 x32_1).f1))) : List Int)).bind fun y457 => (impl_Circuit_delays.l1 k2 (y456.set ((ji40) : Int).toNat (mn (rd y456 (ji40)) (wrap64 ((rd x8_2 (rd ((rd_T56 l0_1 x32_1).f2) x44_2)) + ((rd_T56 l0_1 x32_1).f0))))) (y457.set ((ji40) : Int).toNat (mx (rd y457 (ji40)) (wrap64 ((rd x9_2 (rd ((rd_T56 l0_1 x32_1).f2) x44_2)) + ((rd_T56 l0_1 x32_1).f1))))) (x10_2.set ((ji40) : Int).toNat true) (ji40) l0_1 (l0_1.length : Int) x32_1 ((rd_T56 l0_1 x32_1).f2) (((rd_T56 l0_1 x32_1).f2).length : Int) (wrap64 (x44_2 + 1)) a0_0 l0_1 l0_2 a0_3 a0_4 a0_5 a0_6 ((rd_T56 l0_1 x32_1).f0) ((rd_T56 l0_1 x32_1).f1) ((rd_T56 l0_1 x32_1).f2))) else (none))) else (none))) = some (r1, r2, r3) := by rw [← hbq43] at H; exact H
        have Nbq43 := Aside0.mk hbq43
        clear hbq43
        by_cases c44 : bq43 = true
        ·subst c44
         have H1 : (if (ji40) < (x8_2.length : Int) then (if (ji40) < (x9_2.length : Int) then (impl_Circuit_delays.l1 k2 (x8_2.set ((ji40) : Int).toNat (mn (rd x8_2 (ji40)) (wrap64 ((rd x8_2 (rd ((rd_T56 l0_1 x32_1).f2) x44_2)) + ((rd_T56 l0_1 x32_1).f0))))) (x9_2.set ((ji40) : Int).toNat (mx (rd x9_2 (ji40)) (wrap64 ((rd x9_2 (rd ((rd_T56 l0_1 x32_1).f2) x44_2)) + ((rd_T56 l0_1 x32_1).f1))))) x10_2 (ji40) l0_1 (l0_1.length : Int) x32_1 ((rd_T56 l0_1 x32_1).f2) (((rd_T56 l0_1 x32_1).f2).length : Int) (wrap64 (x44_2 + 1)) a0_0 l0_1 l0_2 a0_3 a0_4 a0_5 a0_6 ((rd_T56 l0_1 x32_1).f0) ((rd_T56 l0_1 x32_1).f1) ((rd_T56 l0_1 x32_1).f2)) else (none)) else (none)) = some (r1, r2, r3) := by rw [if_pos rfl] at H; exact H
         clear H
         have H := H1
         clear H1
         by_cases c45 : (ji40) < (x8_2.length : Int)
         case neg => rw [if_neg c45] at H; exact absurd H (by simp)
         rw [if_pos c45] at H
         have c45b0 : decide ((ji40) < (x8_2.length : Int)) = true := decide_eq_true c45
         clear c45
         obtain ⟨ji46, hji46⟩ : ∃ j_ : Int, (mn (rd x8_2 (ji40)) (wrap64 ((rd x8_2 (rd ((rd_T56 l0_1 x32_1).f2) x44_2)) + ((rd_T56 l0_1 x32_1).f0)))) = j_ := ⟨_, rfl⟩
         replace H : (if (ji40) < (x9_2.length : Int) then (impl_Circuit_delays.l1 k2 (x8_2.set ((ji40) : Int).toNat (ji46)) (x9_2.set ((ji40) : Int).toNat (mx (rd x9_2 (ji40)) (wrap64 ((rd x9_2 (rd ((rd_T56 l0_1 x32_1).f2) x44_2)) + ((rd_T56 l0_1 x32_1).f1))))) x10_2 (ji40) l0_1 (l0_1.length : Int) x32_1 ((rd_T56 l0_1 x32_1).f2) (((rd_T56 l0_1 x32_1).f2).length : Int) (wrap64 (x44_2 + 1)) a0_0 l0_1 l0_2 a0_3 a0_4 a0_5 a0_6 ((rd_T56 l0_1 x32_1).f0) ((rd_T56 l0_1 x32_1).f1) ((rd_T56 l0_1 x32_1).f2)) else (none)) = some (r1, r2, r3) := by first | (rw [hji46] at H; exact H) | (simp only [hji46] at H ⊢; exact H)
         have hji46_ : (if (wrap64 ((rd x8_2 (rd ((rd_T56 l0_1 x32_1).f2) x44_2)) + ((rd_T56 l0_1 x32_1).f0))) < (rd x8_2 (ji40)) then (wrap64 ((rd x8_2 (rd ((rd_T56 l0_1 x32_1).f2) x44_2)) + ((rd_T56 l0_1 x32_1).f0))) else (rd x8_2 (ji40))) = ji46 := hji46
         by_cases c47 : (ji40) < (x9_2.length : Int)
         case neg => rw [if_neg c47] at H; exact absurd H (by simp)
         rw [if_pos c47] at H
         have c47b0 : decide ((ji40) < (x9_2.length : Int)) = true := decide_eq_true c47
         clear c47
         obtain ⟨ji48, hji48⟩ : ∃ j_ : Int, (mx (rd x9_2 (ji40)) (wrap64 ((rd x9_2 (rd ((rd_T56 l0_1 x32_1).f2) x44_2)) + ((rd_T56 l0_1 x32_1).f1)))) = j_ := ⟨_, rfl⟩
         replace H : (impl_Circuit_delays.l1 k2 (x8_2.set ((ji40) : Int).toNat (ji46)) (x9_2.set ((ji40) : Int).toNat (ji48)) x10_2 (ji40) l0_1 (l0_1.length : Int) x32_1 ((rd_T56 l0_1 x32_1).f2) (((rd_T56 l0_1 x32_1).f2).length : Int) (wrap64 (x44_2 + 1)) a0_0 l0_1 l0_2 a0_3 a0_4 a0_5 a0_6 ((rd_T56 l0_1 x32_1).f0) ((rd_T56 l0_1 x32_1).f1) ((rd_T56 l0_1 x32_1).f2)) = some (r1, r2, r3) := by first | (rw [hji48] at H; exact H) | (simp only [hji48] at H ⊢; exact H)
         have hji48_ : (if (rd x9_2 (ji40)) < (wrap64 ((rd x9_2 (rd ((rd_T56 l0_1 x32_1).f2) x44_2)) + ((rd_T56 l0_1 x32_1).f1))) then (wrap64 ((rd x9_2 (rd ((rd_T56 l0_1 x32_1).f2) x44_2)) + ((rd_T56 l0_1 x32_1).f1))) else (rd x9_2 (ji40))) = ji48 := hji48
         obtain ⟨y454, hy454⟩ : ∃ y_ : List Int, y_ = (x8_2.set ((ji40) : Int).toNat (ji46)) := ⟨_, rfl⟩
         replace H : (impl_Circuit_delays.l1 k2 y454 (x9_2.set ((ji40) : Int).toNat (ji48)) x10_2 (ji40) l0_1 (l0_1.length : Int) x32_1 ((rd_T56 l0_1 x32_1).f2) (((rd_T56 l0_1 x32_1).f2).length : Int) (wrap64 (x44_2 + 1)) a0_0 l0_1 l0_2 a0_3 a0_4 a0_5 a0_6 ((rd_T56 l0_1 x32_1).f0) ((rd_T56 l0_1 x32_1).f1) ((rd_T56 l0_1 x32_1).f2)) = some (r1, r2, r3) := by first | (rw [hy454]; with_reducible exact H) | (have H2_ := (Option.bind_some _ _).symm.trans H; rw [hy454]; with_reducible exact H2_) | (have H2_ := (Option.bind_some _ _).symm.trans H; with_reducible exact H2_) | with_reducible exact H | (rw [hy454]; exact H) | exact H
         have Ny454 := Aside0.mk hy454
         clear hy454
         obtain ⟨y455, hy455⟩ : ∃ y_ : List Int, y_ = (x9_2.set ((ji40) : Int).toNat (ji48)) := ⟨_, rfl⟩
         replace H : (impl_Circuit_delays.l1 k2 y454 y455 x10_2 (ji40) l0_1 (l0_1.length : Int) x32_1 ((rd_T56 l0_1 x32_1).f2) (((rd_T56 l0_1 x32_1).f2).length : Int) (wrap64 (x44_2 + 1)) a0_0 l0_1 l0_2 a0_3 a0_4 a0_5 a0_6 ((rd_T56 l0_1 x32_1).f0) ((rd_T56 l0_1 x32_1).f1) ((rd_T56 l0_1 x32_1).f2)) = some (r1, r2, r3) := by first | (rw [hy455]; with_reducible exact H) | (have H2_ := (Option.bind_some _ _).symm.trans H; rw [hy455]; with_reducible exact H2_) | (have H2_ := (Option.bind_some _ _).symm.trans H; with_reducible exact H2_) | with_reducible exact H | (rw [hy455]; exact H) | exact H
         have Ny455 := Aside0.mk hy455
         clear hy455
         have H' := Aside0.mk H
         clear H
         have p447 : 0 ≤ (x44_2 : Int) := of_decide_eq_true (by with_reducible assumption)
         have q447 : x44_2 < (((rd_T56 l0_1 x32_1).f2).length : Int) := of_decide_eq_true (by with_reducible assumption)
         obtain ⟨ad447, e447, hx447_0⟩ := Kd.at_int HR445_2.out x44_2 p447 q447
         cases e447
         replace hx447_0 := (HB.out.cell (World.block_lt_of_cell? w _ hx447_0)).trans hx447_0
         replace p447 := eq_true p447
         replace q447 := eq_true q447
         have p448 : 0 ≤ ((rd ((rd_T56 l0_1 x32_1).f2) x44_2) : Int) := of_decide_eq_true (by with_reducible assumption)
         have q448 : (rd ((rd_T56 l0_1 x32_1).f2) x44_2) < (x10_2.length : Int) := of_decide_eq_true (by with_reducible assumption)
         obtain ⟨ad448, e448, hx448_0⟩ := Kd.at_bool (Kd.R_reads' HO_10.out).2.2 (rd ((rd_T56 l0_1 x32_1).f2) x44_2) p448 q448
         (try rw [← Nbq36.out] at hx448_0)
         (try rw [← Nbq43.out] at hx448_0)
         obtain rfl : (⟨go9, 0, none⟩ : Addr) = ad448 := (by injection e448)
         (first | simp only [add_plain] at hx448_0 | simp only [add_at] at hx448_0 | simp only [Addr.add, Nat.zero_add] at hx448_0 | skip)
         replace p448 := eq_true p448
         replace q448 := eq_true q448
         try go_wp2
         have n0_ := Aside0.mk (Kd.R_drew HO_8.out)
         have n1_ := Aside0.mk (Kd.R_drew HO_9.out)
         have n2_ := Aside0.mk (Kd.R_drew HO_10.out)
         have n3_ := Aside0.mk (blk_drew BK433.out)
         have n4_ := Aside0.mk (blk_drew BK446.out)
         have n5_ := Aside0.mk (below_drew1 HB.out)
         clear HO_8
         clear HO_9
         clear HO_10
         clear BK433
         clear BK446
         clear HB
         have HO_8 := n0_
         have HO_9 := n1_
         have HO_10 := n2_
         have BK433 := n3_
         have BK446 := n4_
         have HB := n5_
         clear n0_ n1_ n2_ n3_ n4_ n5_
         obtain ⟨Ao52, co52, eo52⟩ := Kd.R_slice HO_8.out
         (first | subst eo52 | (injection eo52 with f1_ f2_ f3_; have f4_ := f1_.symm; have f5_ := f3_.symm; clear f1_ f2_ f3_; subst f4_; subst f5_))
         have p449 : 0 ≤ ((rd ((rd_T56 l0_1 x32_1).f2) x44_2) : Int) := of_decide_eq_true (by with_reducible assumption)
         have q449 : (rd ((rd_T56 l0_1 x32_1).f2) x44_2) < (x8_2.length : Int) := of_decide_eq_true (by with_reducible assumption)
         obtain ⟨ad449, e449, hx449_0⟩ := Kd.at_int (Kd.R_reads' HO_8.out).2.2 (rd ((rd_T56 l0_1 x32_1).f2) x44_2) p449 q449
         cases e449
         replace p449 := eq_true p449
         replace q449 := eq_true q449
         obtain ⟨Ao53, co53, eo53⟩ := Kd.R_slice HO_9.out
         (first | subst eo53 | (injection eo53 with f1_ f2_ f3_; have f4_ := f1_.symm; have f5_ := f3_.symm; clear f1_ f2_ f3_; subst f4_; subst f5_))
         have p450 : 0 ≤ ((rd ((rd_T56 l0_1 x32_1).f2) x44_2) : Int) := of_decide_eq_true (by with_reducible assumption)
         have q450 : (rd ((rd_T56 l0_1 x32_1).f2) x44_2) < (x9_2.length : Int) := of_decide_eq_true (by with_reducible assumption)
         obtain ⟨ad450, e450, hx450_0⟩ := Kd.at_int (Kd.R_reads' HO_9.out).2.2 (rd ((rd_T56 l0_1 x32_1).f2) x44_2) p450 q450
         cases e450
         replace p450 := eq_true p450
         replace q450 := eq_true q450
         refine start_ (n := 16) (S := fun w' => w'.cell? ⟨gb446, 0, none⟩ = some (.int .i64 ((rd_T56 l0_1 x32_1).f0)) ∧ w'.cell? ⟨gb446, 1, none⟩ = some (.int .i64 ((rd_T56 l0_1 x32_1).f1)) ∧ w'.cell? ⟨gb446, 2, none⟩ = some (.slice (some ad447) ((rd_T56 l0_1 x32_1).f2).length c445_2) ∧ w'.cell? (ad449.add ((rd ((rd_T56 l0_1 x32_1).f2) x44_2)).toNat) = some (.int .i64 (rd x8_2 (rd ((rd_T56 l0_1 x32_1).f2) x44_2))) ∧ w'.cell? (ad450.add ((rd ((rd_T56 l0_1 x32_1).f2) x44_2)).toNat) = some (.int .i64 (rd x9_2 (rd ((rd_T56 l0_1 x32_1).f2) x44_2)))) (ds := []) #[false, false, false, false, false, false, false, false, false, false, false, false, false, false, false, false] (by kernel_rfl) rfl rfl ⟨(blk_cell BK446.out 0).trans rfl, (blk_cell BK446.out 1).trans rfl, (blk_cell BK446.out 2).trans rfl, hx449_0, hx450_0⟩ (fun hHeld => ?_); refine with_tabW impl_Circuit_delays.tab12 impl_Circuit_delays.bits12 (fun HT_ HW_ => ?_)
         generalize wr.drew = w51 at HO_8 HO_9 HO_10 BK433 BK446 HB hx449_0 hx450_0 hHeld ⊢
         refine pure_ (i := 0) (N := some 53) (v := ?_) (a' := ?_) #[true, false, false, false, false, false, false, false, false, false, false, false, false, false, false, false] rfl rfl (any_of HT_.out (by kernel_rfl)) (fun _ _ _ h => h) (Or.inl ⟨by rfl, ?_⟩) ?_ ?_
         rotate_left
         ·intro w'
          go_simp
          with_reducible rfl
         rotate_left
         ·simp only [Act.put, List.setIfInBounds_toArray, List.set_cons_zero, List.set_cons_succ, i64_w, i32_w]
          rfl
         refine pure_ (i := 1) (N := some 54) (v := ?_) (a' := ?_) #[true, true, false, false, false, false, false, false, false, false, false, false, false, false, false, false] rfl rfl (any_of HT_.out (by kernel_rfl)) (fun _ _ _ h => h) (Or.inl ⟨by rfl, ?_⟩) ?_ ?_
         rotate_left
         ·intro w'
          go_simp
          with_reducible rfl
         rotate_left
         ·simp only [Act.put, List.setIfInBounds_toArray, List.set_cons_zero, List.set_cons_succ, i64_w, i32_w]
          rfl
         refine pure_ (i := 2) (N := some 55) (v := ?_) (a' := ?_) #[true, true, true, false, false, false, false, false, false, false, false, false, false, false, false, false] rfl rfl (any_of HT_.out (by kernel_rfl)) (fun _ _ _ h => h) (Or.inl ⟨by rfl, ?_⟩) ?_ ?_
         rotate_left
         ·intro w'
          go_simp
          with_reducible rfl
         rotate_left
         ·simp only [Act.put, List.setIfInBounds_toArray, List.set_cons_zero, List.set_cons_succ, i64_w, i32_w]
          rfl
         refine pure_ (i := 4) (N := some 57) (v := ?_) (a' := ?_) #[true, true, true, false, true, false, false, false, false, false, false, false, false, false, false, false] rfl rfl (any_of HT_.out (by kernel_rfl)) (fun _ _ _ h => h) (Or.inl ⟨by rfl, ?_⟩) ?_ ?_
         rotate_left
         ·intro w'
          go_simp
          with_reducible rfl
         rotate_left
         ·simp only [Act.put, List.setIfInBounds_toArray, List.set_cons_zero, List.set_cons_succ, i64_w, i32_w]
          rfl
         refine pure_ (i := 7) (N := some 60) (v := ?_) (a' := ?_) #[true, true, true, false, true, false, false, true, false, false, false, false, false, false, false, false] rfl rfl (any_of HT_.out (by kernel_rfl)) (fun _ _ _ h => h) (Or.inl ⟨by rfl, ?_⟩) ?_ ?_
         rotate_left
         ·intro w'
          go_simp
          with_reducible rfl
         rotate_left
         ·simp only [Act.put, List.setIfInBounds_toArray, List.set_cons_zero, List.set_cons_succ, i64_w, i32_w]
          rfl
         refine pure_ (i := 8) (N := some 61) (v := ?_) (a' := ?_) #[true, true, true, false, true, false, false, true, true, false, false, false, false, false, false, false] rfl rfl (any_of HT_.out (by kernel_rfl)) (fun _ _ _ h => h) (Or.inl ⟨by rfl, ?_⟩) ?_ ?_
         rotate_left
         ·intro w'
          go_simp
          with_reducible rfl
         rotate_left
         ·simp only [Act.put, List.setIfInBounds_toArray, List.set_cons_zero, List.set_cons_succ, i64_w, i32_w]
          rfl
         refine pure_ (i := 9) (N := some 62) (v := ?_) (a' := ?_) #[true, true, true, false, true, false, false, true, true, true, false, false, false, false, false, false] rfl rfl (any_of HT_.out (by kernel_rfl)) (fun _ _ _ h => h) (Or.inl ⟨by rfl, ?_⟩) ?_ ?_
         rotate_left
         ·intro w'
          go_simp
          with_reducible rfl
         rotate_left
         ·simp only [Act.put, List.setIfInBounds_toArray, List.set_cons_zero, List.set_cons_succ, i64_w, i32_w]
          rfl
         refine pure_ (i := 11) (N := some 64) (v := ?_) (a' := ?_) #[true, true, true, false, true, false, false, true, true, true, false, true, false, false, false, false] rfl rfl (any_of HT_.out (by kernel_rfl)) (fun _ _ _ h => h) (Or.inl ⟨by rfl, ?_⟩) ?_ ?_
         rotate_left
         ·intro w'
          go_simp
          with_reducible rfl
         rotate_left
         ·simp only [Act.put, List.setIfInBounds_toArray, List.set_cons_zero, List.set_cons_succ, i64_w, i32_w]
          rfl
         refine take_ (i := 3) (N := some 56) (v := ?_) (a' := ?_) #[true, true, true, true, true, false, false, true, true, true, false, true, false, false, false, false] rfl rfl (take_ofW HT_.out HW_.out (by kernel_rfl)) (fun _ _ _ h => h) (Or.inl ⟨by rfl, ?_⟩) hHeld ?_ ?_
         rotate_left
         ·rintro w' ⟨s0, s1, s2, s3, s4⟩
          go_simp
          with_reducible rfl
         rotate_left
         ·simp only [Act.put, List.setIfInBounds_toArray, List.set_cons_zero, List.set_cons_succ, i64_w, i32_w]
          rfl
         refine take_ (i := 5) (N := some 58) (v := ?_) (a' := ?_) #[true, true, true, true, true, true, false, true, true, true, false, true, false, false, false, false] rfl rfl (take_ofW HT_.out HW_.out (by kernel_rfl)) (fun _ _ _ h => h) (Or.inl ⟨by rfl, ?_⟩) hHeld ?_ ?_
         rotate_left
         ·rintro w' ⟨s0, s1, s2, s3, s4⟩
          go_simp
          with_reducible rfl
         rotate_left
         ·simp only [Act.put, List.setIfInBounds_toArray, List.set_cons_zero, List.set_cons_succ, i64_w, i32_w]
          rfl
         refine pure_ (i := 6) (N := some 59) (v := ?_) (a' := ?_) #[true, true, true, true, true, true, true, true, true, true, false, true, false, false, false, false] rfl rfl (any_of HT_.out (by kernel_rfl)) (fun _ _ _ h => h) (Or.inl ⟨by rfl, ?_⟩) ?_ ?_
         rotate_left
         ·intro w'
          go_simp
          with_reducible rfl
         rotate_left
         ·simp only [Act.put, List.setIfInBounds_toArray, List.set_cons_zero, List.set_cons_succ, i64_w, i32_w]
          rfl
         refine pure_ (i := 14) (N := some 16) (v := ?_) (a' := ?_) #[true, true, true, true, true, true, true, true, true, true, false, true, false, false, true, false] rfl rfl (any_of HT_.out (by kernel_rfl)) (fun _ _ _ h => h) (Or.inl ⟨by rfl, ?_⟩) ?_ ?_
         rotate_left
         ·intro w'
          go_simp
          with_reducible rfl
         rotate_left
         ·simp only [Act.put, List.setIfInBounds_toArray, List.set_cons_zero, List.set_cons_succ, i64_w, i32_w]
          rfl
         refine take_ (i := 10) (N := some 63) (v := ?_) (a' := ?_) #[true, true, true, true, true, true, true, true, true, true, true, true, false, false, true, false] rfl rfl (take_ofW HT_.out HW_.out (by kernel_rfl)) (fun _ _ _ h => h) (Or.inl ⟨by rfl, ?_⟩) hHeld ?_ ?_
         rotate_left
         ·rintro w' ⟨s0, s1, s2, s3, s4⟩
          go_simp
          with_reducible rfl
         rotate_left
         ·simp only [Act.put, List.setIfInBounds_toArray, List.set_cons_zero, List.set_cons_succ, i64_w, i32_w]
          rfl
         refine take_ (i := 12) (N := some 65) (v := ?_) (a' := ?_) #[true, true, true, true, true, true, true, true, true, true, true, true, true, false, true, false] rfl rfl (take_ofW HT_.out HW_.out (by kernel_rfl)) (fun _ _ _ h => h) (Or.inl ⟨by rfl, ?_⟩) hHeld ?_ ?_
         rotate_left
         ·rintro w' ⟨s0, s1, s2, s3, s4⟩
          go_simp
          with_reducible rfl
         rotate_left
         ·simp only [Act.put, List.setIfInBounds_toArray, List.set_cons_zero, List.set_cons_succ, i64_w, i32_w]
          rfl
         refine pure_ (i := 13) (N := some 66) (v := ?_) (a' := ?_) #[true, true, true, true, true, true, true, true, true, true, true, true, true, true, true, false] rfl rfl (any_of HT_.out (by kernel_rfl)) (fun _ _ _ h => h) (Or.inl ⟨by rfl, ?_⟩) ?_ ?_
         rotate_left
         ·intro w'
          go_simp
          with_reducible rfl
         rotate_left
         ·simp only [Act.put, List.setIfInBounds_toArray, List.set_cons_zero, List.set_cons_succ, i64_w, i32_w]
          rfl
         refine pure_ (i := 15) (N := some 17) (v := ?_) (a' := ?_) #[true, true, true, true, true, true, true, true, true, true, true, true, true, true, true, true] rfl rfl (any_of HT_.out (by kernel_rfl)) (fun _ _ _ h => h) (Or.inl ⟨by rfl, ?_⟩) ?_ ?_
         rotate_left
         ·intro w'
          go_simp
          with_reducible rfl
         rotate_left
         ·simp only [Act.put, List.setIfInBounds_toArray, List.set_cons_zero, List.set_cons_succ, i64_w, i32_w]
          rfl
         refine done_ (done_of HT_.out (by kernel_rfl)) ?_
         have p451 : 0 ≤ ((ji40) : Int) := of_decide_eq_true (by with_reducible assumption)
         have q451 : (ji40) < (x10_2.length : Int) := of_decide_eq_true (by with_reducible assumption)
         obtain ⟨ad451, e451, hx451_0⟩ := Kd.at_bool (Kd.R_reads' HO_10.out).2.2 (ji40) p451 q451
         (try rw [← Nbq36.out] at hx451_0)
         (try rw [← Nbq43.out] at hx451_0)
         obtain rfl : (⟨go9, 0, none⟩ : Addr) = ad451 := (by injection e451)
         (first | simp only [add_plain] at hx451_0 | simp only [add_at] at hx451_0 | simp only [Addr.add, Nat.zero_add] at hx451_0 | skip)
         replace p451 := eq_true p451
         replace q451 := eq_true q451
         try go_wp2
         have n0_ := Aside0.mk (Kd.R_drew HO_8.out)
         have n1_ := Aside0.mk (Kd.R_drew HO_9.out)
         have n2_ := Aside0.mk (Kd.R_drew HO_10.out)
         have n3_ := Aside0.mk (blk_drew BK433.out)
         have n4_ := Aside0.mk (blk_drew BK446.out)
         have n5_ := Aside0.mk (below_drew1 HB.out)
         clear HO_8
         clear HO_9
         clear HO_10
         clear BK433
         clear BK446
         clear HB
         have HO_8 := n0_
         have HO_9 := n1_
         have HO_10 := n2_
         have BK433 := n3_
         have BK446 := n4_
         have HB := n5_
         clear n0_ n1_ n2_ n3_ n4_ n5_
         have p452 : 0 ≤ ((ji40) : Int) := of_decide_eq_true (by with_reducible assumption)
         have q452 : (ji40) < (x8_2.length : Int) := of_decide_eq_true (by with_reducible assumption)
         obtain ⟨ad452, e452, hx452_0⟩ := Kd.at_int (Kd.R_reads' HO_8.out).2.2 (ji40) p452 q452
         obtain rfl : ad449 = ad452 := (by injection e452)
         replace p452 := eq_true p452
         replace q452 := eq_true q452
         have p453 : 0 ≤ ((ji40) : Int) := of_decide_eq_true (by with_reducible assumption)
         have q453 : (ji40) < (x9_2.length : Int) := of_decide_eq_true (by with_reducible assumption)
         obtain ⟨ad453, e453, hx453_0⟩ := Kd.at_int (Kd.R_reads' HO_9.out).2.2 (ji40) p453 q453
         obtain rfl : ad450 = ad453 := (by injection e453)
         replace p453 := eq_true p453
         replace q453 := eq_true q453
         have p49 : 0 ≤ ((ji40) : Int) := of_decide_eq_true (by with_reducible assumption)
         have q49 : ((ji40) : Int) < ((x8_2.length : Int) : Int) := of_decide_eq_true (by with_reducible assumption)
         obtain ⟨go49, co49, eo49, gb49, gl49, cl49, HG49⟩ := Kd.R_form HO_8.out (by omega)
         (first | cases eo49 | (injection eo49 with ea_ en_ ec_; (first | subst ea_ | (injection ea_ with ea_; subst ea_)); subst ec_; clear en_))
         have GB49 := Aside0.mk gb49
         have GG49 := Aside0.mk HG49
         clear gb49 gl49 HG49
         (first | simp only [add_plain] at hx449_0 | skip)
         (first | simp only [add_plain] at hx452_0 | skip)
         obtain ⟨hx49_0, hf49_0⟩ := Kd.R_celln 0 HO_8.out ((ji40) : Int) p49 q49
         replace p49 := eq_true p49
         replace q49 := eq_true q49
         have HP55 := Kd.R_putn HO_8.out ((ji40) : Int) ji46
         rw [← Ny454.out] at HP55
         have HQ55 := Aside0.mk HP55
         clear HP55
         have p50 : 0 ≤ ((ji40) : Int) := of_decide_eq_true (by with_reducible assumption)
         have q50 : ((ji40) : Int) < ((x9_2.length : Int) : Int) := of_decide_eq_true (by with_reducible assumption)
         obtain ⟨go50, co50, eo50, gb50, gl50, cl50, HG50⟩ := Kd.R_form HO_9.out (by omega)
         (first | cases eo50 | (injection eo50 with ea_ en_ ec_; (first | subst ea_ | (injection ea_ with ea_; subst ea_)); subst ec_; clear en_))
         have GB50 := Aside0.mk gb50
         have GG50 := Aside0.mk HG50
         clear gb50 gl50 HG50
         (first | simp only [add_plain] at hx450_0 | skip)
         (first | simp only [add_plain] at hx453_0 | skip)
         obtain ⟨hx50_0, hf50_0⟩ := Kd.R_celln 0 (Kd.R_far (p := ⟨go49, ((ji40) : Int).toNat, none⟩) (Kd.R_mono HO_9.out (fun k_ hk => (⟨hk, fun e_ => hk (by rw [e_]; rfl)⟩ : _ ∧ k_ ≠ go49))) (fun _ hk => hk.2) (.int .i64 ji46)) ((ji40) : Int) p50 q50
         replace p50 := eq_true p50
         replace q50 := eq_true q50
         have HP56 := Kd.R_putn (Kd.R_far (p := ⟨go49, ((ji40) : Int).toNat, none⟩) (Kd.R_mono HO_9.out (fun k_ hk => (⟨hk, fun e_ => hk (by rw [e_]; rfl)⟩ : _ ∧ k_ ≠ go49))) (fun _ hk => hk.2) (.int .i64 ji46)) ((ji40) : Int) ji48
         rw [← Ny455.out] at HP56
         have HQ56 := Aside0.mk HP56
         clear HP56
         refine start_ (n := 20) (S := fun w' => w'.cell? ⟨go49, ((ji40)).toNat, none⟩ = some (.int .i64 (rd x8_2 (ji40))) ∧ w'.cell? ⟨go50, ((ji40)).toNat, none⟩ = some (.int .i64 (rd x9_2 (ji40)))) (ds := [17, 19]) #[false, false, false, false, false, false, false, false, false, false, false, false, false, false, false, false, false, false, false, false] (by kernel_rfl) rfl rfl ⟨hx452_0, hx453_0⟩ (fun hHeld => ?_); refine with_tabW impl_Circuit_delays.tab15 impl_Circuit_delays.bits15 (fun HT_ HW_ => ?_)
         generalize w51.drew = w54 at HO_8 HO_9 HO_10 BK433 BK446 HB GG49 GG50 HQ55 HQ56 hf49_0 hf50_0 hx449_0 hx450_0 hx452_0 hx453_0 hx49_0 hx50_0 hHeld ⊢
         refine pure_ (i := 0) (N := some 83) (v := ?_) (a' := ?_) #[true, false, false, false, false, false, false, false, false, false, false, false, false, false, false, false, false, false, false, false] rfl rfl (any_of HT_.out (by kernel_rfl)) (fun _ _ _ h => h) (Or.inl ⟨by rfl, ?_⟩) ?_ ?_
         rotate_left
         ·intro w'
          go_simp
          with_reducible rfl
         rotate_left
         ·simp only [Act.put, List.setIfInBounds_toArray, List.set_cons_zero, List.set_cons_succ, i64_w, i32_w]
          rfl
         refine pure_ (i := 1) (N := some 84) (v := ?_) (a' := ?_) #[true, true, false, false, false, false, false, false, false, false, false, false, false, false, false, false, false, false, false, false] rfl rfl (any_of HT_.out (by kernel_rfl)) (fun _ _ _ h => h) (Or.inl ⟨by rfl, ?_⟩) ?_ ?_
         rotate_left
         ·intro w'
          go_simp
          with_reducible rfl
         rotate_left
         ·simp only [Act.put, List.setIfInBounds_toArray, List.set_cons_zero, List.set_cons_succ, i64_w, i32_w]
          rfl
         refine pure_ (i := 2) (N := some 85) (v := ?_) (a' := ?_) #[true, true, true, false, false, false, false, false, false, false, false, false, false, false, false, false, false, false, false, false] rfl rfl (any_of HT_.out (by kernel_rfl)) (fun _ _ _ h => h) (Or.inl ⟨by rfl, ?_⟩) ?_ ?_
         rotate_left
         ·intro w'
          go_simp
          with_reducible rfl
         rotate_left
         ·simp only [Act.put, List.setIfInBounds_toArray, List.set_cons_zero, List.set_cons_succ, i64_w, i32_w]
          rfl
         refine pure_ (i := 3) (N := some 86) (v := ?_) (a' := ?_) #[true, true, true, true, false, false, false, false, false, false, false, false, false, false, false, false, false, false, false, false] rfl rfl (any_of HT_.out (by kernel_rfl)) (fun _ _ _ h => h) (Or.inl ⟨by rfl, ?_⟩) ?_ ?_
         rotate_left
         ·intro w'
          go_simp
          with_reducible rfl
         rotate_left
         ·simp only [Act.put, List.setIfInBounds_toArray, List.set_cons_zero, List.set_cons_succ, i64_w, i32_w]
          rfl
         refine pure_ (i := 4) (N := some 87) (v := ?_) (a' := ?_) #[true, true, true, true, true, false, false, false, false, false, false, false, false, false, false, false, false, false, false, false] rfl rfl (any_of HT_.out (by kernel_rfl)) (fun _ _ _ h => h) (Or.inl ⟨by rfl, ?_⟩) ?_ ?_
         rotate_left
         ·intro w'
          go_simp
          with_reducible rfl
         rotate_left
         ·simp only [Act.put, List.setIfInBounds_toArray, List.set_cons_zero, List.set_cons_succ, i64_w, i32_w]
          rfl
         refine pure_ (i := 5) (N := some 88) (v := ?_) (a' := ?_) #[true, true, true, true, true, true, false, false, false, false, false, false, false, false, false, false, false, false, false, false] rfl rfl (any_of HT_.out (by kernel_rfl)) (fun _ _ _ h => h) (Or.inl ⟨by rfl, ?_⟩) ?_ ?_
         rotate_left
         ·intro w'
          go_simp
          with_reducible rfl
         rotate_left
         ·simp only [Act.put, List.setIfInBounds_toArray, List.set_cons_zero, List.set_cons_succ, i64_w, i32_w]
          rfl
         refine pure_ (i := 6) (N := some 89) (v := ?_) (a' := ?_) #[true, true, true, true, true, true, true, false, false, false, false, false, false, false, false, false, false, false, false, false] rfl rfl (any_of HT_.out (by kernel_rfl)) (fun _ _ _ h => h) (Or.inl ⟨by rfl, ?_⟩) ?_ ?_
         rotate_left
         ·intro w'
          go_simp
          with_reducible rfl
         rotate_left
         ·simp only [Act.put, List.setIfInBounds_toArray, List.set_cons_zero, List.set_cons_succ, i64_w, i32_w]
          rfl
         refine pure_ (i := 8) (N := some 91) (v := ?_) (a' := ?_) #[true, true, true, true, true, true, true, false, true, false, false, false, false, false, false, false, false, false, false, false] rfl rfl (any_of HT_.out (by kernel_rfl)) (fun _ _ _ h => h) (Or.inl ⟨by rfl, ?_⟩) ?_ ?_
         rotate_left
         ·intro w'
          go_simp
          with_reducible rfl
         rotate_left
         ·simp only [Act.put, List.setIfInBounds_toArray, List.set_cons_zero, List.set_cons_succ, i64_w, i32_w]
          rfl
         refine pure_ (i := 10) (N := some 93) (v := ?_) (a' := ?_) #[true, true, true, true, true, true, true, false, true, false, true, false, false, false, false, false, false, false, false, false] rfl rfl (any_of HT_.out (by kernel_rfl)) (fun _ _ _ h => h) (Or.inl ⟨by rfl, ?_⟩) ?_ ?_
         rotate_left
         ·intro w'
          go_simp
          with_reducible rfl
         rotate_left
         ·simp only [Act.put, List.setIfInBounds_toArray, List.set_cons_zero, List.set_cons_succ, i64_w, i32_w]
          rfl
         refine pure_ (i := 11) (N := some 94) (v := ?_) (a' := ?_) #[true, true, true, true, true, true, true, false, true, false, true, true, false, false, false, false, false, false, false, false] rfl rfl (any_of HT_.out (by kernel_rfl)) (fun _ _ _ h => h) (Or.inl ⟨by rfl, ?_⟩) ?_ ?_
         rotate_left
         ·intro w'
          go_simp
          with_reducible rfl
         rotate_left
         ·simp only [Act.put, List.setIfInBounds_toArray, List.set_cons_zero, List.set_cons_succ, i64_w, i32_w]
          rfl
         refine pure_ (i := 12) (N := some 95) (v := ?_) (a' := ?_) #[true, true, true, true, true, true, true, false, true, false, true, true, true, false, false, false, false, false, false, false] rfl rfl (any_of HT_.out (by kernel_rfl)) (fun _ _ _ h => h) (Or.inl ⟨by rfl, ?_⟩) ?_ ?_
         rotate_left
         ·intro w'
          go_simp
          with_reducible rfl
         rotate_left
         ·simp only [Act.put, List.setIfInBounds_toArray, List.set_cons_zero, List.set_cons_succ, i64_w, i32_w]
          rfl
         refine pure_ (i := 14) (N := some 97) (v := ?_) (a' := ?_) #[true, true, true, true, true, true, true, false, true, false, true, true, true, false, true, false, false, false, false, false] rfl rfl (any_of HT_.out (by kernel_rfl)) (fun _ _ _ h => h) (Or.inl ⟨by rfl, ?_⟩) ?_ ?_
         rotate_left
         ·intro w'
          go_simp
          with_reducible rfl
         rotate_left
         ·simp only [Act.put, List.setIfInBounds_toArray, List.set_cons_zero, List.set_cons_succ, i64_w, i32_w]
          rfl
         refine take_ (i := 7) (N := some 90) (v := ?_) (a' := ?_) #[true, true, true, true, true, true, true, true, true, false, true, true, true, false, true, false, false, false, false, false] rfl rfl (take_ofW HT_.out HW_.out (by kernel_rfl)) (fun _ _ _ h => h) (Or.inl ⟨by rfl, ?_⟩) hHeld ?_ ?_
         rotate_left
         ·rintro w' ⟨s0, s1⟩
          go_simp
          with_reducible rfl
         rotate_left
         ·simp only [Act.put, List.setIfInBounds_toArray, List.set_cons_zero, List.set_cons_succ, i64_w, i32_w]
          rfl
         refine pure_ (i := 9) (N := some 92) (v := ?_) (a' := ?_) #[true, true, true, true, true, true, true, true, true, true, true, true, true, false, true, false, false, false, false, false] rfl rfl (any_of HT_.out (by kernel_rfl)) (fun _ _ _ h => h) (Or.inl ⟨by rfl, ?_⟩) ?_ ?_
         rotate_left
         ·intro w'
          go_simp
          with_reducible rfl
         rotate_left
         ·simp only [Act.put, List.setIfInBounds_toArray, List.set_cons_zero, List.set_cons_succ, i64_w, i32_w]
          rfl
         refine take_ (i := 13) (N := some 96) (v := ?_) (a' := ?_) #[true, true, true, true, true, true, true, true, true, true, true, true, true, true, true, false, false, false, false, false] rfl rfl (take_ofW HT_.out HW_.out (by kernel_rfl)) (fun _ _ _ h => h) (Or.inl ⟨by rfl, ?_⟩) hHeld ?_ ?_
         rotate_left
         ·rintro w' ⟨s0, s1⟩
          go_simp
          with_reducible rfl
         rotate_left
         ·simp only [Act.put, List.setIfInBounds_toArray, List.set_cons_zero, List.set_cons_succ, i64_w, i32_w]
          rfl
         refine pure_ (i := 15) (N := some 98) (v := ?_) (a' := ?_) #[true, true, true, true, true, true, true, true, true, true, true, true, true, true, true, true, false, false, false, false] rfl rfl (any_of HT_.out (by kernel_rfl)) (fun _ _ _ h => h) (Or.inl ⟨by rfl, ?_⟩) ?_ ?_
         rotate_left
         ·intro w'
          go_simp
          with_reducible rfl
         rotate_left
         ·simp only [Act.put, List.setIfInBounds_toArray, List.set_cons_zero, List.set_cons_succ, i64_w, i32_w]
          rfl
         refine pure_ (i := 16) (N := some 99) (v := ?_) (a' := ?_) #[true, true, true, true, true, true, true, true, true, true, true, true, true, true, true, true, true, false, false, false] rfl rfl (any_of HT_.out (by kernel_rfl)) (fun _ _ _ h => h) (Or.inl ⟨by rfl, ?_⟩) ?_ ?_
         rotate_left
         ·intro w'
          go_simp
          with_reducible rfl
         rotate_left
         ·simp only [Act.put, List.setIfInBounds_toArray, List.set_cons_zero, List.set_cons_succ, i64_w, i32_w]
          rfl
         refine last_ (i := 17) (N := none) #[true, true, true, true, true, true, true, true, true, true, true, true, true, true, true, true, true, true, false, false] rfl rfl (one_of HT_.out (by kernel_rfl)) (by decide) (fun K hK => ?_)
         refine skip_ (w1 := ?_) (by rfl) rfl ?_ ?_
         rotate_left
         ·go_simp
          rfl
         refine hK.out _ _ ?_
         clear hK K
         refine pure_ (i := 18) (N := some 100) (v := ?_) (a' := ?_) #[true, true, true, true, true, true, true, true, true, true, true, true, true, true, true, true, true, true, true, false] rfl rfl (any_of HT_.out (by kernel_rfl)) (fun _ _ _ h => h) (Or.inl ⟨by rfl, ?_⟩) ?_ ?_
         rotate_left
         ·intro w'
          go_simp
          with_reducible rfl
         rotate_left
         ·simp only [Act.put, List.setIfInBounds_toArray, List.set_cons_zero, List.set_cons_succ, i64_w, i32_w]
          rfl
         refine last_ (i := 19) (N := none) #[true, true, true, true, true, true, true, true, true, true, true, true, true, true, true, true, true, true, true, true] rfl rfl (one_of HT_.out (by kernel_rfl)) (by decide) (fun K hK => ?_)
         refine skip_ (w1 := ?_) (by rfl) rfl ?_ ?_
         rotate_left
         ·go_simp
          rfl
         refine hK.out _ _ ?_
         clear hK K
         refine done_ (done_of HT_.out (by kernel_rfl)) ?_
         try go_wp2
         (try simp only [← hl10_2])
         subst hji40
         go_roundg k2
         case measure => have := HK1.out; have := HK2.out; omega
         case rel => exact ⟨(y454), (y455), (x10_2), (wrap64 (x44_2 + 1)), (by first | rfl | (simp; done) | (simp [*]; done)), H', ⟨by have := HK1.out; have := HK2.out; omega⟩, ⟨by (try simp only [hl10_1]); (try simp only [hl10_2]); (with_reducible repeat (first | apply Kd.R_alloc | apply Kd.R_drewN | apply Kd.R_drew)); exact Kd.R_mono (Kd.R_far (p := ⟨go50, (((wrap64 (a0_0 + x32_1))) : Int).toNat, none⟩) (Kd.R_mono HQ55.out (fun k_ hk => (⟨hk, fun e_ => hk (by rw [e_]; rfl)⟩ : _ ∧ k_ ≠ go50))) (fun _ hk => hk.2) (.int .i64 ji48)) (fun _ hk => hk.1)⟩, ⟨by (try simp only [hl10_1]); (try simp only [hl10_2]); (with_reducible repeat (first | apply Kd.R_alloc | apply Kd.R_drewN | apply Kd.R_drew)); exact Kd.R_mono HQ56.out (fun _ hk => hk.1)⟩, ⟨by (try simp only [hl10_1]); (try simp only [hl10_2]); (with_reducible repeat (first | apply Kd.R_alloc | apply Kd.R_drewN | apply Kd.R_drew)); exact Kd.R_mono (Kd.R_far (p := ⟨go50, (((wrap64 (a0_0 + x32_1))) : Int).toNat, none⟩) (Kd.R_far (p := ⟨go49, (((wrap64 (a0_0 + x32_1))) : Int).toNat, none⟩) (Kd.R_types (Kd.R_types HO_10.out GG49.out (by decide)) GG50.out (by decide)) (fun _ hk => hk.1.2) (.int .i64 ji46)) (fun _ hk => hk.2) (.int .i64 ji48)) (fun _ hk => trivial)⟩, ⟨by (try simp only [hl10_1]); (try simp only [hl10_2]); (with_reducible repeat (first | refine blk_drewN ?_ _ | refine blk_drew ?_ | refine blk_alloc ?_ _)); refine blk_far ?_ (by have h_ := Kd.R_ne HO_9.out BK433.out (by decide); intro e_; exact h_ (by rw [e_]; rfl)) _; (with_reducible repeat (first | refine blk_drewN ?_ _ | refine blk_drew ?_ | refine blk_alloc ?_ _)); refine blk_far ?_ (by have h_ := Kd.R_ne HO_8.out BK433.out (by decide); intro e_; exact h_ (by rw [e_]; rfl)) _; (with_reducible repeat (first | refine blk_drewN ?_ _ | refine blk_drew ?_ | refine blk_alloc ?_ _)); exact BK433.out⟩, ⟨by (try simp only [hl10_1]); (try simp only [hl10_2]); (with_reducible repeat (first | refine blk_drewN ?_ _ | refine blk_drew ?_ | refine blk_alloc ?_ _)); refine blk_far ?_ (by have h_ := Kd.R_ne HO_9.out BK446.out (by decide); intro e_; exact h_ (by rw [e_]; rfl)) _; (with_reducible repeat (first | refine blk_drewN ?_ _ | refine blk_drew ?_ | refine blk_alloc ?_ _)); refine blk_far ?_ (by have h_ := Kd.R_ne HO_8.out BK446.out (by decide); intro e_; exact h_ (by rw [e_]; rfl)) _; (with_reducible repeat (first | refine blk_drewN ?_ _ | refine blk_drew ?_ | refine blk_alloc ?_ _)); exact BK446.out⟩, ⟨by with_reducible repeat (first | exact HB.out | apply below_alloc | apply pw_below_drewN | apply below_drew1 | refine below_set ?_ GB49.out | refine below_set ?_ GB50.out | refine below_set ?_ GE433.out | refine below_set ?_ GE446.out)⟩⟩
        ·replace c44 := Bool.eq_false_iff.mpr c44
         subst c44
         have H1 : (if (ji40) < (x8_2.length : Int) then ((some (x8_2.set ((ji40) : Int).toNat (wrap64 ((rd x8_2 (rd ((rd_T56 l0_1 x32_1).f2) x44_2)) + ((rd_T56 l0_1 x32_1).f0))) : List Int)).bind fun y456 => (if (ji40) < (x9_2.length : Int) then ((some (x9_2.set ((ji40) : Int).toNat (wrap64 ((rd x9_2 (rd ((rd_T56 l0_1 x32_1).f2) x44_2)) + ((rd_T56 l0_1 x32_1).f1))) : List Int)).bind fun y457 => (impl_Circuit_delays.l1 k2 (y456.set ((ji40) : Int).toNat (mn (rd y456 (ji40)) (wrap64 ((rd x8_2 (rd ((rd_T56 l0_1 x32_1).f2) x44_2)) + ((rd_T56 l0_1 x32_1).f0))))) (y457.set ((ji40) : Int).toNat (mx (rd y457 (ji40)) (wrap64 ((rd x9_2 (rd ((rd_T56 l0_1 x32_1).f2) x44_2)) + ((rd_T56 l0_1 x32_1).f1))))) (x10_2.set ((ji40) : Int).toNat true) (ji40) l0_1 (l0_1.length : Int) x32_1 ((rd_T56 l0_1 x32_1).f2) (((rd_T56 l0_1 x32_1).f2).length : Int) (wrap64 (x44_2 + 1)) a0_0 l0_1 l0_2 a0_3 a0_4 a0_5 a0_6 ((rd_T56 l0_1 x32_1).f0) ((rd_T56 l0_1 x32_1).f1) ((rd_T56 l0_1 x32_1).f2))) else (none))) else (none)) = some (r1, r2, r3) := by rw [if_neg (show ¬ (false = true) by decide)] at H; exact H
         clear H
         have H := H1
         clear H1
         by_cases c57 : (ji40) < (x8_2.length : Int)
         case neg => rw [if_neg c57] at H; exact absurd H (by simp)
         rw [if_pos c57] at H
         have c57b0 : decide ((ji40) < (x8_2.length : Int)) = true := decide_eq_true c57
         clear c57
         obtain ⟨y456, hy456⟩ : ∃ y_ : List Int, y_ = (x8_2.set ((ji40) : Int).toNat (wrap64 ((rd x8_2 (rd ((rd_T56 l0_1 x32_1).f2) x44_2)) + ((rd_T56 l0_1 x32_1).f0)))) := ⟨_, rfl⟩
         replace H : (if (ji40) < (x9_2.length : Int) then ((some (x9_2.set ((ji40) : Int).toNat (wrap64 ((rd x9_2 (rd ((rd_T56 l0_1 x32_1).f2) x44_2)) + ((rd_T56 l0_1 x32_1).f1))) : List Int)).bind fun y457 => (impl_Circuit_delays.l1 k2 (y456.set ((ji40) : Int).toNat (mn (rd y456 (ji40)) (wrap64 ((rd x8_2 (rd ((rd_T56 l0_1 x32_1).f2) x44_2)) + ((rd_T56 l0_1 x32_1).f0))))) (y457.set ((ji40) : Int).toNat (mx (rd y457 (ji40)) (wrap64 ((rd x9_2 (rd ((rd_T56 l0_1 x32_1).f2) x44_2)) + ((rd_T56 l0_1 x32_1).f1))))) (x10_2.set ((ji40) : Int).toNat true) (ji40) l0_1 (l0_1.length : Int) x32_1 ((rd_T56 l0_1 x32_1).f2) (((rd_T56 l0_1 x32_1).f2).length : Int) (wrap64 (x44_2 + 1)) a0_0 l0_1 l0_2 a0_3 a0_4 a0_5 a0_6 ((rd_T56 l0_1 x32_1).f0) ((rd_T56 l0_1 x32_1).f1) ((rd_T56 l0_1 x32_1).f2))) else (none)) = some (r1, r2, r3) := by first | (rw [hy456]; with_reducible exact H) | (have H2_ := (Option.bind_some _ _).symm.trans H; rw [hy456]; with_reducible exact H2_) | (have H2_ := (Option.bind_some _ _).symm.trans H; with_reducible exact H2_) | with_reducible exact H | (rw [hy456]; exact H) | exact H
         have Ny456 := Aside0.mk hy456
         clear hy456
         by_cases c59 : (ji40) < (x9_2.length : Int)
         case neg => rw [if_neg c59] at H; exact absurd H (by simp)
         rw [if_pos c59] at H
         have c59b0 : decide ((ji40) < (x9_2.length : Int)) = true := decide_eq_true c59
         clear c59
         obtain ⟨y457, hy457⟩ : ∃ y_ : List Int, y_ = (x9_2.set ((ji40) : Int).toNat (wrap64 ((rd x9_2 (rd ((rd_T56 l0_1 x32_1).f2) x44_2)) + ((rd_T56 l0_1 x32_1).f1)))) := ⟨_, rfl⟩
         replace H : (impl_Circuit_delays.l1 k2 (y456.set ((ji40) : Int).toNat (mn (rd y456 (ji40)) (wrap64 ((rd x8_2 (rd ((rd_T56 l0_1 x32_1).f2) x44_2)) + ((rd_T56 l0_1 x32_1).f0))))) (y457.set ((ji40) : Int).toNat (mx (rd y457 (ji40)) (wrap64 ((rd x9_2 (rd ((rd_T56 l0_1 x32_1).f2) x44_2)) + ((rd_T56 l0_1 x32_1).f1))))) (x10_2.set ((ji40) : Int).toNat true) (ji40) l0_1 (l0_1.length : Int) x32_1 ((rd_T56 l0_1 x32_1).f2) (((rd_T56 l0_1 x32_1).f2).length : Int) (wrap64 (x44_2 + 1)) a0_0 l0_1 l0_2 a0_3 a0_4 a0_5 a0_6 ((rd_T56 l0_1 x32_1).f0) ((rd_T56 l0_1 x32_1).f1) ((rd_T56 l0_1 x32_1).f2)) = some (r1, r2, r3) := by first | (rw [hy457]; with_reducible exact H) | (have H2_ := (Option.bind_some _ _).symm.trans H; rw [hy457]; with_reducible exact H2_) | (have H2_ := (Option.bind_some _ _).symm.trans H; with_reducible exact H2_) | with_reducible exact H | (rw [hy457]; exact H) | exact H
         have Ny457 := Aside0.mk hy457
         clear hy457
         obtain ⟨y458, hy458⟩ : ∃ y_ : List Bool, y_ = (x10_2.set ((ji40) : Int).toNat true) := ⟨_, rfl⟩
         replace H : (impl_Circuit_delays.l1 k2 (y456.set ((ji40) : Int).toNat (mn (rd y456 (ji40)) (wrap64 ((rd x8_2 (rd ((rd_T56 l0_1 x32_1).f2) x44_2)) + ((rd_T56 l0_1 x32_1).f0))))) (y457.set ((ji40) : Int).toNat (mx (rd y457 (ji40)) (wrap64 ((rd x9_2 (rd ((rd_T56 l0_1 x32_1).f2) x44_2)) + ((rd_T56 l0_1 x32_1).f1))))) y458 (ji40) l0_1 (l0_1.length : Int) x32_1 ((rd_T56 l0_1 x32_1).f2) (((rd_T56 l0_1 x32_1).f2).length : Int) (wrap64 (x44_2 + 1)) a0_0 l0_1 l0_2 a0_3 a0_4 a0_5 a0_6 ((rd_T56 l0_1 x32_1).f0) ((rd_T56 l0_1 x32_1).f1) ((rd_T56 l0_1 x32_1).f2)) = some (r1, r2, r3) := by first | (rw [hy458]; with_reducible exact H) | (have H2_ := (Option.bind_some _ _).symm.trans H; rw [hy458]; with_reducible exact H2_) | (have H2_ := (Option.bind_some _ _).symm.trans H; with_reducible exact H2_) | with_reducible exact H | (rw [hy458]; exact H) | exact H
         have Ny458 := Aside0.mk hy458
         clear hy458
         obtain ⟨ji62, hji62⟩ : ∃ j_ : Int, (mn (rd y456 (ji40)) (wrap64 ((rd x8_2 (rd ((rd_T56 l0_1 x32_1).f2) x44_2)) + ((rd_T56 l0_1 x32_1).f0)))) = j_ := ⟨_, rfl⟩
         replace H : (impl_Circuit_delays.l1 k2 (y456.set ((ji40) : Int).toNat (ji62)) (y457.set ((ji40) : Int).toNat (mx (rd y457 (ji40)) (wrap64 ((rd x9_2 (rd ((rd_T56 l0_1 x32_1).f2) x44_2)) + ((rd_T56 l0_1 x32_1).f1))))) y458 (ji40) l0_1 (l0_1.length : Int) x32_1 ((rd_T56 l0_1 x32_1).f2) (((rd_T56 l0_1 x32_1).f2).length : Int) (wrap64 (x44_2 + 1)) a0_0 l0_1 l0_2 a0_3 a0_4 a0_5 a0_6 ((rd_T56 l0_1 x32_1).f0) ((rd_T56 l0_1 x32_1).f1) ((rd_T56 l0_1 x32_1).f2)) = some (r1, r2, r3) := by first | (rw [hji62] at H; exact H) | (simp only [hji62] at H ⊢; exact H)
         have hji62_ : (if (wrap64 ((rd x8_2 (rd ((rd_T56 l0_1 x32_1).f2) x44_2)) + ((rd_T56 l0_1 x32_1).f0))) < (rd y456 (ji40)) then (wrap64 ((rd x8_2 (rd ((rd_T56 l0_1 x32_1).f2) x44_2)) + ((rd_T56 l0_1 x32_1).f0))) else (rd y456 (ji40))) = ji62 := hji62
         obtain ⟨ji63, hji63⟩ : ∃ j_ : Int, (mx (rd y457 (ji40)) (wrap64 ((rd x9_2 (rd ((rd_T56 l0_1 x32_1).f2) x44_2)) + ((rd_T56 l0_1 x32_1).f1)))) = j_ := ⟨_, rfl⟩
         replace H : (impl_Circuit_delays.l1 k2 (y456.set ((ji40) : Int).toNat (ji62)) (y457.set ((ji40) : Int).toNat (ji63)) y458 (ji40) l0_1 (l0_1.length : Int) x32_1 ((rd_T56 l0_1 x32_1).f2) (((rd_T56 l0_1 x32_1).f2).length : Int) (wrap64 (x44_2 + 1)) a0_0 l0_1 l0_2 a0_3 a0_4 a0_5 a0_6 ((rd_T56 l0_1 x32_1).f0) ((rd_T56 l0_1 x32_1).f1) ((rd_T56 l0_1 x32_1).f2)) = some (r1, r2, r3) := by first | (rw [hji63] at H; exact H) | (simp only [hji63] at H ⊢; exact H)
         have hji63_ : (if (rd y457 (ji40)) < (wrap64 ((rd x9_2 (rd ((rd_T56 l0_1 x32_1).f2) x44_2)) + ((rd_T56 l0_1 x32_1).f1))) then (wrap64 ((rd x9_2 (rd ((rd_T56 l0_1 x32_1).f2) x44_2)) + ((rd_T56 l0_1 x32_1).f1))) else (rd y457 (ji40))) = ji63 := hji63
         obtain ⟨y461, hy461⟩ : ∃ y_ : List Int, y_ = (y456.set ((ji40) : Int).toNat (ji62)) := ⟨_, rfl⟩
         replace H : (impl_Circuit_delays.l1 k2 y461 (y457.set ((ji40) : Int).toNat (ji63)) y458 (ji40) l0_1 (l0_1.length : Int) x32_1 ((rd_T56 l0_1 x32_1).f2) (((rd_T56 l0_1 x32_1).f2).length : Int) (wrap64 (x44_2 + 1)) a0_0 l0_1 l0_2 a0_3 a0_4 a0_5 a0_6 ((rd_T56 l0_1 x32_1).f0) ((rd_T56 l0_1 x32_1).f1) ((rd_T56 l0_1 x32_1).f2)) = some (r1, r2, r3) := by first | (rw [hy461]; with_reducible exact H) | (have H2_ := (Option.bind_some _ _).symm.trans H; rw [hy461]; with_reducible exact H2_) | (have H2_ := (Option.bind_some _ _).symm.trans H; with_reducible exact H2_) | with_reducible exact H | (rw [hy461]; exact H) | exact H
         have Ny461 := Aside0.mk hy461
         clear hy461
         obtain ⟨y462, hy462⟩ : ∃ y_ : List Int, y_ = (y457.set ((ji40) : Int).toNat (ji63)) := ⟨_, rfl⟩
         replace H : (impl_Circuit_delays.l1 k2 y461 y462 y458 (ji40) l0_1 (l0_1.length : Int) x32_1 ((rd_T56 l0_1 x32_1).f2) (((rd_T56 l0_1 x32_1).f2).length : Int) (wrap64 (x44_2 + 1)) a0_0 l0_1 l0_2 a0_3 a0_4 a0_5 a0_6 ((rd_T56 l0_1 x32_1).f0) ((rd_T56 l0_1 x32_1).f1) ((rd_T56 l0_1 x32_1).f2)) = some (r1, r2, r3) := by first | (rw [hy462]; with_reducible exact H) | (have H2_ := (Option.bind_some _ _).symm.trans H; rw [hy462]; with_reducible exact H2_) | (have H2_ := (Option.bind_some _ _).symm.trans H; with_reducible exact H2_) | with_reducible exact H | (rw [hy462]; exact H) | exact H
         have Ny462 := Aside0.mk hy462
         clear hy462
         have H' := Aside0.mk H
         clear H
         have p447 : 0 ≤ (x44_2 : Int) := of_decide_eq_true (by with_reducible assumption)
         have q447 : x44_2 < (((rd_T56 l0_1 x32_1).f2).length : Int) := of_decide_eq_true (by with_reducible assumption)
         obtain ⟨ad447, e447, hx447_0⟩ := Kd.at_int HR445_2.out x44_2 p447 q447
         cases e447
         replace hx447_0 := (HB.out.cell (World.block_lt_of_cell? w _ hx447_0)).trans hx447_0
         replace p447 := eq_true p447
         replace q447 := eq_true q447
         have p448 : 0 ≤ ((rd ((rd_T56 l0_1 x32_1).f2) x44_2) : Int) := of_decide_eq_true (by with_reducible assumption)
         have q448 : (rd ((rd_T56 l0_1 x32_1).f2) x44_2) < (x10_2.length : Int) := of_decide_eq_true (by with_reducible assumption)
         obtain ⟨ad448, e448, hx448_0⟩ := Kd.at_bool (Kd.R_reads' HO_10.out).2.2 (rd ((rd_T56 l0_1 x32_1).f2) x44_2) p448 q448
         (try rw [← Nbq36.out] at hx448_0)
         (try rw [← Nbq43.out] at hx448_0)
         obtain rfl : (⟨go9, 0, none⟩ : Addr) = ad448 := (by injection e448)
         (first | simp only [add_plain] at hx448_0 | simp only [add_at] at hx448_0 | simp only [Addr.add, Nat.zero_add] at hx448_0 | skip)
         replace p448 := eq_true p448
         replace q448 := eq_true q448
         try go_wp2
         have n0_ := Aside0.mk (Kd.R_drew HO_8.out)
         have n1_ := Aside0.mk (Kd.R_drew HO_9.out)
         have n2_ := Aside0.mk (Kd.R_drew HO_10.out)
         have n3_ := Aside0.mk (blk_drew BK433.out)
         have n4_ := Aside0.mk (blk_drew BK446.out)
         have n5_ := Aside0.mk (below_drew1 HB.out)
         clear HO_8
         clear HO_9
         clear HO_10
         clear BK433
         clear BK446
         clear HB
         have HO_8 := n0_
         have HO_9 := n1_
         have HO_10 := n2_
         have BK433 := n3_
         have BK446 := n4_
         have HB := n5_
         clear n0_ n1_ n2_ n3_ n4_ n5_
         obtain ⟨Ao67, co67, eo67⟩ := Kd.R_slice HO_8.out
         (first | subst eo67 | (injection eo67 with f1_ f2_ f3_; have f4_ := f1_.symm; have f5_ := f3_.symm; clear f1_ f2_ f3_; subst f4_; subst f5_))
         have p449 : 0 ≤ ((rd ((rd_T56 l0_1 x32_1).f2) x44_2) : Int) := of_decide_eq_true (by with_reducible assumption)
         have q449 : (rd ((rd_T56 l0_1 x32_1).f2) x44_2) < (x8_2.length : Int) := of_decide_eq_true (by with_reducible assumption)
         obtain ⟨ad449, e449, hx449_0⟩ := Kd.at_int (Kd.R_reads' HO_8.out).2.2 (rd ((rd_T56 l0_1 x32_1).f2) x44_2) p449 q449
         cases e449
         replace p449 := eq_true p449
         replace q449 := eq_true q449
         obtain ⟨Ao68, co68, eo68⟩ := Kd.R_slice HO_9.out
         (first | subst eo68 | (injection eo68 with f1_ f2_ f3_; have f4_ := f1_.symm; have f5_ := f3_.symm; clear f1_ f2_ f3_; subst f4_; subst f5_))
         have p450 : 0 ≤ ((rd ((rd_T56 l0_1 x32_1).f2) x44_2) : Int) := of_decide_eq_true (by with_reducible assumption)
         have q450 : (rd ((rd_T56 l0_1 x32_1).f2) x44_2) < (x9_2.length : Int) := of_decide_eq_true (by with_reducible assumption)
         obtain ⟨ad450, e450, hx450_0⟩ := Kd.at_int (Kd.R_reads' HO_9.out).2.2 (rd ((rd_T56 l0_1 x32_1).f2) x44_2) p450 q450
         cases e450
         replace p450 := eq_true p450
         replace q450 := eq_true q450
         refine start_ (n := 16) (S := fun w' => w'.cell? ⟨gb446, 0, none⟩ = some (.int .i64 ((rd_T56 l0_1 x32_1).f0)) ∧ w'.cell? ⟨gb446, 1, none⟩ = some (.int .i64 ((rd_T56 l0_1 x32_1).f1)) ∧ w'.cell? ⟨gb446, 2, none⟩ = some (.slice (some ad447) ((rd_T56 l0_1 x32_1).f2).length c445_2) ∧ w'.cell? (ad449.add ((rd ((rd_T56 l0_1 x32_1).f2) x44_2)).toNat) = some (.int .i64 (rd x8_2 (rd ((rd_T56 l0_1 x32_1).f2) x44_2))) ∧ w'.cell? (ad450.add ((rd ((rd_T56 l0_1 x32_1).f2) x44_2)).toNat) = some (.int .i64 (rd x9_2 (rd ((rd_T56 l0_1 x32_1).f2) x44_2)))) (ds := []) #[false, false, false, false, false, false, false, false, false, false, false, false, false, false, false, false] (by kernel_rfl) rfl rfl ⟨(blk_cell BK446.out 0).trans rfl, (blk_cell BK446.out 1).trans rfl, (blk_cell BK446.out 2).trans rfl, hx449_0, hx450_0⟩ (fun hHeld => ?_); refine with_tabW impl_Circuit_delays.tab12 impl_Circuit_delays.bits12 (fun HT_ HW_ => ?_)
         generalize wr.drew = w66 at HO_8 HO_9 HO_10 BK433 BK446 HB hx449_0 hx450_0 hHeld ⊢
         refine pure_ (i := 0) (N := some 53) (v := ?_) (a' := ?_) #[true, false, false, false, false, false, false, false, false, false, false, false, false, false, false, false] rfl rfl (any_of HT_.out (by kernel_rfl)) (fun _ _ _ h => h) (Or.inl ⟨by rfl, ?_⟩) ?_ ?_
         rotate_left
         ·intro w'
          go_simp
          with_reducible rfl
         rotate_left
         ·simp only [Act.put, List.setIfInBounds_toArray, List.set_cons_zero, List.set_cons_succ, i64_w, i32_w]
          rfl
         refine pure_ (i := 1) (N := some 54) (v := ?_) (a' := ?_) #[true, true, false, false, false, false, false, false, false, false, false, false, false, false, false, false] rfl rfl (any_of HT_.out (by kernel_rfl)) (fun _ _ _ h => h) (Or.inl ⟨by rfl, ?_⟩) ?_ ?_
         rotate_left
         ·intro w'
          go_simp
          with_reducible rfl
         rotate_left
         ·simp only [Act.put, List.setIfInBounds_toArray, List.set_cons_zero, List.set_cons_succ, i64_w, i32_w]
          rfl
         refine pure_ (i := 2) (N := some 55) (v := ?_) (a' := ?_) #[true, true, true, false, false, false, false, false, false, false, false, false, false, false, false, false] rfl rfl (any_of HT_.out (by kernel_rfl)) (fun _ _ _ h => h) (Or.inl ⟨by rfl, ?_⟩) ?_ ?_
         rotate_left
         ·intro w'
          go_simp
          with_reducible rfl
         rotate_left
         ·simp only [Act.put, List.setIfInBounds_toArray, List.set_cons_zero, List.set_cons_succ, i64_w, i32_w]
          rfl
         refine pure_ (i := 4) (N := some 57) (v := ?_) (a' := ?_) #[true, true, true, false, true, false, false, false, false, false, false, false, false, false, false, false] rfl rfl (any_of HT_.out (by kernel_rfl)) (fun _ _ _ h => h) (Or.inl ⟨by rfl, ?_⟩) ?_ ?_
         rotate_left
         ·intro w'
          go_simp
          with_reducible rfl
         rotate_left
         ·simp only [Act.put, List.setIfInBounds_toArray, List.set_cons_zero, List.set_cons_succ, i64_w, i32_w]
          rfl
         refine pure_ (i := 7) (N := some 60) (v := ?_) (a' := ?_) #[true, true, true, false, true, false, false, true, false, false, false, false, false, false, false, false] rfl rfl (any_of HT_.out (by kernel_rfl)) (fun _ _ _ h => h) (Or.inl ⟨by rfl, ?_⟩) ?_ ?_
         rotate_left
         ·intro w'
          go_simp
          with_reducible rfl
         rotate_left
         ·simp only [Act.put, List.setIfInBounds_toArray, List.set_cons_zero, List.set_cons_succ, i64_w, i32_w]
          rfl
         refine pure_ (i := 8) (N := some 61) (v := ?_) (a' := ?_) #[true, true, true, false, true, false, false, true, true, false, false, false, false, false, false, false] rfl rfl (any_of HT_.out (by kernel_rfl)) (fun _ _ _ h => h) (Or.inl ⟨by rfl, ?_⟩) ?_ ?_
         rotate_left
         ·intro w'
          go_simp
          with_reducible rfl
         rotate_left
         ·simp only [Act.put, List.setIfInBounds_toArray, List.set_cons_zero, List.set_cons_succ, i64_w, i32_w]
          rfl
         refine pure_ (i := 9) (N := some 62) (v := ?_) (a' := ?_) #[true, true, true, false, true, false, false, true, true, true, false, false, false, false, false, false] rfl rfl (any_of HT_.out (by kernel_rfl)) (fun _ _ _ h => h) (Or.inl ⟨by rfl, ?_⟩) ?_ ?_
         rotate_left
         ·intro w'
          go_simp
          with_reducible rfl
         rotate_left
         ·simp only [Act.put, List.setIfInBounds_toArray, List.set_cons_zero, List.set_cons_succ, i64_w, i32_w]
          rfl
         refine pure_ (i := 11) (N := some 64) (v := ?_) (a' := ?_) #[true, true, true, false, true, false, false, true, true, true, false, true, false, false, false, false] rfl rfl (any_of HT_.out (by kernel_rfl)) (fun _ _ _ h => h) (Or.inl ⟨by rfl, ?_⟩) ?_ ?_
         rotate_left
         ·intro w'
          go_simp
          with_reducible rfl
         rotate_left
         ·simp only [Act.put, List.setIfInBounds_toArray, List.set_cons_zero, List.set_cons_succ, i64_w, i32_w]
          rfl
         refine take_ (i := 3) (N := some 56) (v := ?_) (a' := ?_) #[true, true, true, true, true, false, false, true, true, true, false, true, false, false, false, false] rfl rfl (take_ofW HT_.out HW_.out (by kernel_rfl)) (fun _ _ _ h => h) (Or.inl ⟨by rfl, ?_⟩) hHeld ?_ ?_
         rotate_left
         ·rintro w' ⟨s0, s1, s2, s3, s4⟩
          go_simp
          with_reducible rfl
         rotate_left
         ·simp only [Act.put, List.setIfInBounds_toArray, List.set_cons_zero, List.set_cons_succ, i64_w, i32_w]
          rfl
         refine take_ (i := 5) (N := some 58) (v := ?_) (a' := ?_) #[true, true, true, true, true, true, false, true, true, true, false, true, false, false, false, false] rfl rfl (take_ofW HT_.out HW_.out (by kernel_rfl)) (fun _ _ _ h => h) (Or.inl ⟨by rfl, ?_⟩) hHeld ?_ ?_
         rotate_left
         ·rintro w' ⟨s0, s1, s2, s3, s4⟩
          go_simp
          with_reducible rfl
         rotate_left
         ·simp only [Act.put, List.setIfInBounds_toArray, List.set_cons_zero, List.set_cons_succ, i64_w, i32_w]
          rfl
         refine pure_ (i := 6) (N := some 59) (v := ?_) (a' := ?_) #[true, true, true, true, true, true, true, true, true, true, false, true, false, false, false, false] rfl rfl (any_of HT_.out (by kernel_rfl)) (fun _ _ _ h => h) (Or.inl ⟨by rfl, ?_⟩) ?_ ?_
         rotate_left
         ·intro w'
          go_simp
          with_reducible rfl
         rotate_left
         ·simp only [Act.put, List.setIfInBounds_toArray, List.set_cons_zero, List.set_cons_succ, i64_w, i32_w]
          rfl
         refine pure_ (i := 14) (N := some 16) (v := ?_) (a' := ?_) #[true, true, true, true, true, true, true, true, true, true, false, true, false, false, true, false] rfl rfl (any_of HT_.out (by kernel_rfl)) (fun _ _ _ h => h) (Or.inl ⟨by rfl, ?_⟩) ?_ ?_
         rotate_left
         ·intro w'
          go_simp
          with_reducible rfl
         rotate_left
         ·simp only [Act.put, List.setIfInBounds_toArray, List.set_cons_zero, List.set_cons_succ, i64_w, i32_w]
          rfl
         refine take_ (i := 10) (N := some 63) (v := ?_) (a' := ?_) #[true, true, true, true, true, true, true, true, true, true, true, true, false, false, true, false] rfl rfl (take_ofW HT_.out HW_.out (by kernel_rfl)) (fun _ _ _ h => h) (Or.inl ⟨by rfl, ?_⟩) hHeld ?_ ?_
         rotate_left
         ·rintro w' ⟨s0, s1, s2, s3, s4⟩
          go_simp
          with_reducible rfl
         rotate_left
         ·simp only [Act.put, List.setIfInBounds_toArray, List.set_cons_zero, List.set_cons_succ, i64_w, i32_w]
          rfl
         refine take_ (i := 12) (N := some 65) (v := ?_) (a' := ?_) #[true, true, true, true, true, true, true, true, true, true, true, true, true, false, true, false] rfl rfl (take_ofW HT_.out HW_.out (by kernel_rfl)) (fun _ _ _ h => h) (Or.inl ⟨by rfl, ?_⟩) hHeld ?_ ?_
         rotate_left
         ·rintro w' ⟨s0, s1, s2, s3, s4⟩
          go_simp
          with_reducible rfl
         rotate_left
         ·simp only [Act.put, List.setIfInBounds_toArray, List.set_cons_zero, List.set_cons_succ, i64_w, i32_w]
          rfl
         refine pure_ (i := 13) (N := some 66) (v := ?_) (a' := ?_) #[true, true, true, true, true, true, true, true, true, true, true, true, true, true, true, false] rfl rfl (any_of HT_.out (by kernel_rfl)) (fun _ _ _ h => h) (Or.inl ⟨by rfl, ?_⟩) ?_ ?_
         rotate_left
         ·intro w'
          go_simp
          with_reducible rfl
         rotate_left
         ·simp only [Act.put, List.setIfInBounds_toArray, List.set_cons_zero, List.set_cons_succ, i64_w, i32_w]
          rfl
         refine pure_ (i := 15) (N := some 17) (v := ?_) (a' := ?_) #[true, true, true, true, true, true, true, true, true, true, true, true, true, true, true, true] rfl rfl (any_of HT_.out (by kernel_rfl)) (fun _ _ _ h => h) (Or.inl ⟨by rfl, ?_⟩) ?_ ?_
         rotate_left
         ·intro w'
          go_simp
          with_reducible rfl
         rotate_left
         ·simp only [Act.put, List.setIfInBounds_toArray, List.set_cons_zero, List.set_cons_succ, i64_w, i32_w]
          rfl
         refine done_ (done_of HT_.out (by kernel_rfl)) ?_
         have p451 : 0 ≤ ((ji40) : Int) := of_decide_eq_true (by with_reducible assumption)
         have q451 : (ji40) < (x10_2.length : Int) := of_decide_eq_true (by with_reducible assumption)
         obtain ⟨ad451, e451, hx451_0⟩ := Kd.at_bool (Kd.R_reads' HO_10.out).2.2 (ji40) p451 q451
         (try rw [← Nbq36.out] at hx451_0)
         (try rw [← Nbq43.out] at hx451_0)
         obtain rfl : (⟨go9, 0, none⟩ : Addr) = ad451 := (by injection e451)
         (first | simp only [add_plain] at hx451_0 | simp only [add_at] at hx451_0 | simp only [Addr.add, Nat.zero_add] at hx451_0 | skip)
         replace p451 := eq_true p451
         replace q451 := eq_true q451
         have p58 : 0 ≤ ((ji40) : Int) := of_decide_eq_true (by with_reducible assumption)
         have q58 : ((ji40) : Int) < ((x8_2.length : Int) : Int) := of_decide_eq_true (by with_reducible assumption)
         obtain ⟨go58, co58, eo58, gb58, gl58, cl58, HG58⟩ := Kd.R_form HO_8.out (by omega)
         (first | cases eo58 | (injection eo58 with ea_ en_ ec_; (first | subst ea_ | (injection ea_ with ea_; subst ea_)); subst ec_; clear en_))
         have GB58 := Aside0.mk gb58
         have GG58 := Aside0.mk HG58
         clear gb58 gl58 HG58
         (first | simp only [add_plain] at hx449_0 | skip)
         obtain ⟨hx58_0, hf58_0⟩ := Kd.R_celln 0 HO_8.out ((ji40) : Int) p58 q58
         replace p58 := eq_true p58
         replace q58 := eq_true q58
         obtain ⟨hy69_, hz69_⟩ := Kd.R_celln 0 HO_8.out ((ji40) : Int) (of_decide_eq_true (by with_reducible assumption)) (of_decide_eq_true (by with_reducible assumption))
         have HP69 := Kd.R_putg HO_8.out ((ji40) : Int) (wrap64 ((rd x8_2 (rd ((rd_T56 l0_1 x32_1).f2) x44_2)) + ((rd_T56 l0_1 x32_1).f0)))
         try go_wp2_with (first | ((with_reducible refine gate_store (t := 2) (p := 80) rfl ?_); refine store_event (t := 2) (p := 80) (v := ?vo_w70) (w1 := (w66.setCell ⟨go58, ((ji40) : Int).toNat, none⟩ (.int .i64 (wrap64 ((rd x8_2 (rd ((rd_T56 l0_1 x32_1).f2) x44_2)) + ((rd_T56 l0_1 x32_1).f0)))))) ?hg ?ho ?hn ?hr ?_; (case ho => rfl); (case hg => rfl); (case hn => rfl); (case hr => first | (go_simp; done) | (go_simp; rfl)); intro w70 hw; have hg : w66.grownBy w70 (some go58) := (by rw [hw]; exact HP69.2); have hp_ : Kd.R (Kd.int .i64) 2 w70 w.heap.size (fun k_ => some k_ ≠ (.slice (some ad450) x9_2.length co68 : Value).ownBlock) (.slice (some ⟨go58, 0, none⟩) x8_2.length co67) y456 := (by rw [hw, Ny456.out]; exact HP69.1); clear HP69; have n0_ := Aside0.mk (hp_); have n1_ := Aside0.mk (Kd.R_after (v := (.slice (some ⟨go58, 0, none⟩) x8_2.length co67)) (v1 := (.slice (some ⟨go58, 0, none⟩) x8_2.length co67)) (ok := (fun _ => True)) (by (with_reducible repeat (first | apply Kd.R_alloc | apply Kd.R_drewN | apply Kd.R_drew)); exact Kd.R_mono HO_9.out (fun _ hk => ⟨trivial, hk⟩)) hg (.inl rfl)); have n2_ := Aside0.mk (Kd.R_over' (v := (.slice (some ⟨go58, 0, none⟩) x8_2.length co67)) (by (with_reducible repeat (first | apply Kd.R_alloc | apply Kd.R_drewN | apply Kd.R_drew)); exact HO_10.out) (Kd.R_typed HO_8.out) (by decide) hg); have n3_ := Aside0.mk (blk_grown (g := gb433) (by (with_reducible repeat (first | refine blk_drewN ?_ _ | refine blk_drew ?_ | refine blk_alloc ?_ _)); exact BK433.out) hg (Kd.R_ne HO_8.out BK433.out (by decide))); have n4_ := Aside0.mk (blk_grown (g := gb446) (by (with_reducible repeat (first | refine blk_drewN ?_ _ | refine blk_drew ?_ | refine blk_alloc ?_ _)); exact BK446.out) hg (Kd.R_ne HO_8.out BK446.out (by decide))); have n5_ := Aside0.mk ((by rw [hw]; exact below_set (HB.out) GB58.out : Below w.heap.size w w70)); clear HO_8; clear HO_9; clear HO_10; clear BK433; clear BK446; clear HB; have HO_8 := n0_; have HO_9 := n1_; have HO_10 := n2_; have BK433 := n3_; have BK446 := n4_; have HB := n5_; clear n0_ n1_ n2_ n3_ n4_ n5_; clear hg hw hp_; have p60 : 0 ≤ ((ji40) : Int) := of_decide_eq_true (by with_reducible assumption); have q60 : ((ji40) : Int) < ((x9_2.length : Int) : Int) := of_decide_eq_true (by with_reducible assumption); obtain ⟨go60, co60, eo60, gb60, gl60, cl60, HG60⟩ := Kd.R_form HO_9.out (by omega); (first | cases eo60 | (injection eo60 with ea_ en_ ec_; (first | subst ea_ | (injection ea_ with ea_; subst ea_)); subst ec_; clear en_)); have GB60 := Aside0.mk gb60; have GG60 := Aside0.mk HG60; clear gb60 gl60 HG60; (first | simp only [add_plain] at hx450_0 | skip); obtain ⟨hx60_0, hf60_0⟩ := Kd.R_celln 0 HO_9.out ((ji40) : Int) p60 q60; replace p60 := eq_true p60; replace q60 := eq_true q60; have n_ := Aside0.mk (Kd.R_mono (ok' := (fun k_ => some k_ ≠ (.slice (some ⟨go58, 0, none⟩) x8_2.length co67 : Value).ownBlock)) HO_9.out (fun k_ hk => hk.2)); clear HO_9; have HO_9 := n_; clear n_; obtain ⟨hy71_, hz71_⟩ := Kd.R_celln 0 HO_9.out ((ji40) : Int) (of_decide_eq_true (by with_reducible assumption)) (of_decide_eq_true (by with_reducible assumption)); have HP71 := Kd.R_putg HO_9.out ((ji40) : Int) (wrap64 ((rd x9_2 (rd ((rd_T56 l0_1 x32_1).f2) x44_2)) + ((rd_T56 l0_1 x32_1).f1)))) | ((with_reducible refine gate_store (t := 2) (p := 81) rfl ?_); refine store_event (t := 2) (p := 81) (v := ?vo_w72) (w1 := (w70.setCell ⟨go60, ((ji40) : Int).toNat, none⟩ (.int .i64 (wrap64 ((rd x9_2 (rd ((rd_T56 l0_1 x32_1).f2) x44_2)) + ((rd_T56 l0_1 x32_1).f1)))))) ?hg ?ho ?hn ?hr ?_; (case ho => rfl); (case hg => rfl); (case hn => rfl); (case hr => first | (go_simp; done) | (go_simp; rfl)); intro w72 hw; have hg : w70.grownBy w72 (some go60) := (by rw [hw]; exact HP71.2); have hp_ : Kd.R (Kd.int .i64) 2 w72 w.heap.size (fun k_ => some k_ ≠ (.slice (some ⟨go58, 0, none⟩) x8_2.length co67 : Value).ownBlock) (.slice (some ⟨go60, 0, none⟩) x9_2.length co68) y457 := (by rw [hw, Ny457.out]; exact HP71.1); clear HP71; have n0_ := Aside0.mk (Kd.R_after (v := (.slice (some ⟨go60, 0, none⟩) x9_2.length co68)) (v1 := (.slice (some ⟨go60, 0, none⟩) x9_2.length co68)) (ok := (fun _ => True)) (by (with_reducible repeat (first | apply Kd.R_alloc | apply Kd.R_drewN | apply Kd.R_drew)); exact Kd.R_mono HO_8.out (fun _ hk => ⟨trivial, hk⟩)) hg (.inl rfl)); have n1_ := Aside0.mk (hp_); have n2_ := Aside0.mk (Kd.R_over' (v := (.slice (some ⟨go60, 0, none⟩) x9_2.length co68)) (by (with_reducible repeat (first | apply Kd.R_alloc | apply Kd.R_drewN | apply Kd.R_drew)); exact HO_10.out) (Kd.R_typed HO_9.out) (by decide) hg); have n3_ := Aside0.mk (blk_grown (g := gb433) (by (with_reducible repeat (first | refine blk_drewN ?_ _ | refine blk_drew ?_ | refine blk_alloc ?_ _)); exact BK433.out) hg (Kd.R_ne HO_9.out BK433.out (by decide))); have n4_ := Aside0.mk (blk_grown (g := gb446) (by (with_reducible repeat (first | refine blk_drewN ?_ _ | refine blk_drew ?_ | refine blk_alloc ?_ _)); exact BK446.out) hg (Kd.R_ne HO_9.out BK446.out (by decide))); have n5_ := Aside0.mk ((by rw [hw]; exact below_set (HB.out) GB60.out : Below w.heap.size w w72)); clear HO_8; clear HO_9; clear HO_10; clear BK433; clear BK446; clear HB; have HO_8 := n0_; have HO_9 := n1_; have HO_10 := n2_; have BK433 := n3_; have BK446 := n4_; have HB := n5_; clear n0_ n1_ n2_ n3_ n4_ n5_; clear hg hw hp_; have p61 : 0 ≤ ((ji40) : Int) := of_decide_eq_true (by with_reducible assumption); have q61 : ((ji40) : Int) < ((x10_2.length : Int) : Int) := of_decide_eq_true (by with_reducible assumption); obtain ⟨hx61_0, hf61_0⟩ := Kd.R_celln false HO_10.out ((ji40) : Int) p61 q61; replace p61 := eq_true p61; replace q61 := eq_true q61; obtain ⟨hy73_, hz73_⟩ := Kd.R_celln false HO_10.out ((ji40) : Int) (of_decide_eq_true (by with_reducible assumption)) (of_decide_eq_true (by with_reducible assumption)); have HP73 := Kd.R_putg HO_10.out ((ji40) : Int) true) | ((with_reducible refine gate_store (t := 4) (p := 82) rfl ?_); refine store_event (t := 4) (p := 82) (v := ?vo_w74) (w1 := (w72.setCell ⟨go9, ((ji40) : Int).toNat, none⟩ (.bool true))) ?hg ?ho ?hn ?hr ?_; (case ho => rfl); (case hg => rfl); (case hn => rfl); (case hr => first | (go_simp; done) | (go_simp; rfl)); intro w74 hw; have hg : w72.grownBy w74 (some go9) := (by rw [hw]; exact HP73.2); have hp_ : Kd.R Kd.bool 4 w74 w.heap.size (fun _ => True) (.slice (some ⟨go9, 0, none⟩) x10_2.length co9) y458 := (by rw [hw, Ny458.out]; exact HP73.1); clear HP73; have n0_ := Aside0.mk (Kd.R_over' (v := (.slice (some ⟨go9, 0, none⟩) x10_2.length co9)) (by (with_reducible repeat (first | apply Kd.R_alloc | apply Kd.R_drewN | apply Kd.R_drew)); exact HO_8.out) (Kd.R_typed HO_10.out) (by decide) hg); have n1_ := Aside0.mk (Kd.R_over' (v := (.slice (some ⟨go9, 0, none⟩) x10_2.length co9)) (by (with_reducible repeat (first | apply Kd.R_alloc | apply Kd.R_drewN | apply Kd.R_drew)); exact HO_9.out) (Kd.R_typed HO_10.out) (by decide) hg); have n2_ := Aside0.mk (hp_); have n3_ := Aside0.mk (blk_grown (g := gb433) (by (with_reducible repeat (first | refine blk_drewN ?_ _ | refine blk_drew ?_ | refine blk_alloc ?_ _)); exact BK433.out) hg (Kd.R_ne HO_10.out BK433.out (by decide))); have n4_ := Aside0.mk (blk_grown (g := gb446) (by (with_reducible repeat (first | refine blk_drewN ?_ _ | refine blk_drew ?_ | refine blk_alloc ?_ _)); exact BK446.out) hg (Kd.R_ne HO_10.out BK446.out (by decide))); have n5_ := Aside0.mk ((by rw [hw]; exact below_set (HB.out) GB9.out : Below w.heap.size w w74)); clear HO_8; clear HO_9; clear HO_10; clear BK433; clear BK446; clear HB; have HO_8 := n0_; have HO_9 := n1_; have HO_10 := n2_; have BK433 := n3_; have BK446 := n4_; have HB := n5_; clear n0_ n1_ n2_ n3_ n4_ n5_; clear hg hw hp_))
         have n0_ := Aside0.mk (Kd.R_drew HO_8.out)
         have n1_ := Aside0.mk (Kd.R_drew HO_9.out)
         have n2_ := Aside0.mk (Kd.R_drew HO_10.out)
         have n3_ := Aside0.mk (blk_drew BK433.out)
         have n4_ := Aside0.mk (blk_drew BK446.out)
         have n5_ := Aside0.mk (below_drew1 HB.out)
         clear HO_8
         clear HO_9
         clear HO_10
         clear BK433
         clear BK446
         clear HB
         have HO_8 := n0_
         have HO_9 := n1_
         have HO_10 := n2_
         have BK433 := n3_
         have BK446 := n4_
         have HB := n5_
         clear n0_ n1_ n2_ n3_ n4_ n5_
         have p459 : 0 ≤ ((ji40) : Int) := of_decide_eq_true (by with_reducible assumption)
         have q459 : (ji40) < (y456.length : Int) := (by have h_ : ((ji40) : Int) < ((x8_2.length : Int) : Int) := of_decide_eq_true (by with_reducible assumption); first | (have e_ := (Kd.R_reads' HO_8.out).1; omega) | simpa only [Ny456.out, List.length_set] using h_)
         have ql459 : (((ji40) : Int) < ((x8_2.length : Int) : Int)) = True := eq_true (of_decide_eq_true (by with_reducible assumption))
         obtain ⟨ad459, e459, hx459_0⟩ := Kd.at_int (Kd.R_reads' HO_8.out).2.2 (ji40) p459 q459
         obtain rfl : (⟨go58, 0, none⟩ : Addr) = ad459 := (by injection e459)
         (first | simp only [add_plain] at hx459_0 | simp only [add_at] at hx459_0 | simp only [Addr.add, Nat.zero_add] at hx459_0 | skip)
         replace p459 := eq_true p459
         replace q459 := eq_true q459
         have p460 : 0 ≤ ((ji40) : Int) := of_decide_eq_true (by with_reducible assumption)
         have q460 : (ji40) < (y457.length : Int) := (by have h_ : ((ji40) : Int) < ((x9_2.length : Int) : Int) := of_decide_eq_true (by with_reducible assumption); first | (have e_ := (Kd.R_reads' HO_9.out).1; omega) | simpa only [Ny457.out, List.length_set] using h_)
         have ql460 : (((ji40) : Int) < ((x9_2.length : Int) : Int)) = True := eq_true (of_decide_eq_true (by with_reducible assumption))
         obtain ⟨ad460, e460, hx460_0⟩ := Kd.at_int (Kd.R_reads' HO_9.out).2.2 (ji40) p460 q460
         obtain rfl : (⟨go60, 0, none⟩ : Addr) = ad460 := (by injection e460)
         (first | simp only [add_plain] at hx460_0 | simp only [add_at] at hx460_0 | simp only [Addr.add, Nat.zero_add] at hx460_0 | skip)
         replace p460 := eq_true p460
         replace q460 := eq_true q460
         have p64 : 0 ≤ ((ji40) : Int) := of_decide_eq_true (by with_reducible assumption)
         have q64 : ((ji40) : Int) < ((x8_2.length : Int) : Int) := of_decide_eq_true (by with_reducible assumption)
         obtain ⟨hx64_0, hf64_0⟩ := Kd.R_celln 0 HO_8.out ((ji40) : Int) p64 q64
         replace p64 := eq_true p64
         replace q64 := eq_true q64
         have HP76 := Kd.R_putn HO_8.out ((ji40) : Int) ji62
         rw [← Ny461.out] at HP76
         have HQ76 := Aside0.mk HP76
         clear HP76
         have p65 : 0 ≤ ((ji40) : Int) := of_decide_eq_true (by with_reducible assumption)
         have q65 : ((ji40) : Int) < ((x9_2.length : Int) : Int) := of_decide_eq_true (by with_reducible assumption)
         obtain ⟨hx65_0, hf65_0⟩ := Kd.R_celln 0 (Kd.R_far (p := ⟨go58, ((ji40) : Int).toNat, none⟩) (Kd.R_mono HO_9.out (fun k_ hk => (⟨hk, fun e_ => hk (by rw [e_]; rfl)⟩ : _ ∧ k_ ≠ go58))) (fun _ hk => hk.2) (.int .i64 ji62)) ((ji40) : Int) p65 q65
         replace p65 := eq_true p65
         replace q65 := eq_true q65
         have HP77 := Kd.R_putn (Kd.R_far (p := ⟨go58, ((ji40) : Int).toNat, none⟩) (Kd.R_mono HO_9.out (fun k_ hk => (⟨hk, fun e_ => hk (by rw [e_]; rfl)⟩ : _ ∧ k_ ≠ go58))) (fun _ hk => hk.2) (.int .i64 ji62)) ((ji40) : Int) ji63
         rw [← Ny462.out] at HP77
         have HQ77 := Aside0.mk HP77
         clear HP77
         refine start_ (n := 20) (S := fun w' => w'.cell? ⟨go58, ((ji40)).toNat, none⟩ = some (.int .i64 (rd y456 (ji40))) ∧ w'.cell? ⟨go60, ((ji40)).toNat, none⟩ = some (.int .i64 (rd y457 (ji40)))) (ds := [17, 19]) #[false, false, false, false, false, false, false, false, false, false, false, false, false, false, false, false, false, false, false, false] (by kernel_rfl) rfl rfl ⟨hx459_0, hx460_0⟩ (fun hHeld => ?_); refine with_tabW impl_Circuit_delays.tab15 impl_Circuit_delays.bits15 (fun HT_ HW_ => ?_)
         generalize w74.drew = w75 at HO_8 HO_9 HO_10 BK433 BK446 HB HQ76 HQ77 hf64_0 hf65_0 hx459_0 hx460_0 hx64_0 hx65_0 hHeld ⊢
         refine pure_ (i := 0) (N := some 83) (v := ?_) (a' := ?_) #[true, false, false, false, false, false, false, false, false, false, false, false, false, false, false, false, false, false, false, false] rfl rfl (any_of HT_.out (by kernel_rfl)) (fun _ _ _ h => h) (Or.inl ⟨by rfl, ?_⟩) ?_ ?_
         rotate_left
         ·intro w'
          go_simp
          with_reducible rfl
         rotate_left
         ·simp only [Act.put, List.setIfInBounds_toArray, List.set_cons_zero, List.set_cons_succ, i64_w, i32_w]
          rfl
         refine pure_ (i := 1) (N := some 84) (v := ?_) (a' := ?_) #[true, true, false, false, false, false, false, false, false, false, false, false, false, false, false, false, false, false, false, false] rfl rfl (any_of HT_.out (by kernel_rfl)) (fun _ _ _ h => h) (Or.inl ⟨by rfl, ?_⟩) ?_ ?_
         rotate_left
         ·intro w'
          go_simp
          with_reducible rfl
         rotate_left
         ·simp only [Act.put, List.setIfInBounds_toArray, List.set_cons_zero, List.set_cons_succ, i64_w, i32_w]
          rfl
         refine pure_ (i := 2) (N := some 85) (v := ?_) (a' := ?_) #[true, true, true, false, false, false, false, false, false, false, false, false, false, false, false, false, false, false, false, false] rfl rfl (any_of HT_.out (by kernel_rfl)) (fun _ _ _ h => h) (Or.inl ⟨by rfl, ?_⟩) ?_ ?_
         rotate_left
         ·intro w'
          go_simp
          with_reducible rfl
         rotate_left
         ·simp only [Act.put, List.setIfInBounds_toArray, List.set_cons_zero, List.set_cons_succ, i64_w, i32_w]
          rfl
         refine pure_ (i := 3) (N := some 86) (v := ?_) (a' := ?_) #[true, true, true, true, false, false, false, false, false, false, false, false, false, false, false, false, false, false, false, false] rfl rfl (any_of HT_.out (by kernel_rfl)) (fun _ _ _ h => h) (Or.inl ⟨by rfl, ?_⟩) ?_ ?_
         rotate_left
         ·intro w'
          go_simp
          with_reducible rfl
         rotate_left
         ·simp only [Act.put, List.setIfInBounds_toArray, List.set_cons_zero, List.set_cons_succ, i64_w, i32_w]
          rfl
         refine pure_ (i := 4) (N := some 87) (v := ?_) (a' := ?_) #[true, true, true, true, true, false, false, false, false, false, false, false, false, false, false, false, false, false, false, false] rfl rfl (any_of HT_.out (by kernel_rfl)) (fun _ _ _ h => h) (Or.inl ⟨by rfl, ?_⟩) ?_ ?_
         rotate_left
         ·intro w'
          go_simp
          with_reducible rfl
         rotate_left
         ·simp only [Act.put, List.setIfInBounds_toArray, List.set_cons_zero, List.set_cons_succ, i64_w, i32_w]
          rfl
         refine pure_ (i := 5) (N := some 88) (v := ?_) (a' := ?_) #[true, true, true, true, true, true, false, false, false, false, false, false, false, false, false, false, false, false, false, false] rfl rfl (any_of HT_.out (by kernel_rfl)) (fun _ _ _ h => h) (Or.inl ⟨by rfl, ?_⟩) ?_ ?_
         rotate_left
         ·intro w'
          go_simp
          with_reducible rfl
         rotate_left
         ·simp only [Act.put, List.setIfInBounds_toArray, List.set_cons_zero, List.set_cons_succ, i64_w, i32_w]
          rfl
         refine pure_ (i := 6) (N := some 89) (v := ?_) (a' := ?_) #[true, true, true, true, true, true, true, false, false, false, false, false, false, false, false, false, false, false, false, false] rfl rfl (any_of HT_.out (by kernel_rfl)) (fun _ _ _ h => h) (Or.inl ⟨by rfl, ?_⟩) ?_ ?_
         rotate_left
         ·intro w'
          go_simp
          with_reducible rfl
         rotate_left
         ·simp only [Act.put, List.setIfInBounds_toArray, List.set_cons_zero, List.set_cons_succ, i64_w, i32_w]
          rfl
         refine pure_ (i := 8) (N := some 91) (v := ?_) (a' := ?_) #[true, true, true, true, true, true, true, false, true, false, false, false, false, false, false, false, false, false, false, false] rfl rfl (any_of HT_.out (by kernel_rfl)) (fun _ _ _ h => h) (Or.inl ⟨by rfl, ?_⟩) ?_ ?_
         rotate_left
         ·intro w'
          go_simp
          with_reducible rfl
         rotate_left
         ·simp only [Act.put, List.setIfInBounds_toArray, List.set_cons_zero, List.set_cons_succ, i64_w, i32_w]
          rfl
         refine pure_ (i := 10) (N := some 93) (v := ?_) (a' := ?_) #[true, true, true, true, true, true, true, false, true, false, true, false, false, false, false, false, false, false, false, false] rfl rfl (any_of HT_.out (by kernel_rfl)) (fun _ _ _ h => h) (Or.inl ⟨by rfl, ?_⟩) ?_ ?_
         rotate_left
         ·intro w'
          go_simp
          with_reducible rfl
         rotate_left
         ·simp only [Act.put, List.setIfInBounds_toArray, List.set_cons_zero, List.set_cons_succ, i64_w, i32_w]
          rfl
         refine pure_ (i := 11) (N := some 94) (v := ?_) (a' := ?_) #[true, true, true, true, true, true, true, false, true, false, true, true, false, false, false, false, false, false, false, false] rfl rfl (any_of HT_.out (by kernel_rfl)) (fun _ _ _ h => h) (Or.inl ⟨by rfl, ?_⟩) ?_ ?_
         rotate_left
         ·intro w'
          go_simp
          with_reducible rfl
         rotate_left
         ·simp only [Act.put, List.setIfInBounds_toArray, List.set_cons_zero, List.set_cons_succ, i64_w, i32_w]
          rfl
         refine pure_ (i := 12) (N := some 95) (v := ?_) (a' := ?_) #[true, true, true, true, true, true, true, false, true, false, true, true, true, false, false, false, false, false, false, false] rfl rfl (any_of HT_.out (by kernel_rfl)) (fun _ _ _ h => h) (Or.inl ⟨by rfl, ?_⟩) ?_ ?_
         rotate_left
         ·intro w'
          go_simp
          with_reducible rfl
         rotate_left
         ·simp only [Act.put, List.setIfInBounds_toArray, List.set_cons_zero, List.set_cons_succ, i64_w, i32_w]
          rfl
         refine pure_ (i := 14) (N := some 97) (v := ?_) (a' := ?_) #[true, true, true, true, true, true, true, false, true, false, true, true, true, false, true, false, false, false, false, false] rfl rfl (any_of HT_.out (by kernel_rfl)) (fun _ _ _ h => h) (Or.inl ⟨by rfl, ?_⟩) ?_ ?_
         rotate_left
         ·intro w'
          go_simp
          with_reducible rfl
         rotate_left
         ·simp only [Act.put, List.setIfInBounds_toArray, List.set_cons_zero, List.set_cons_succ, i64_w, i32_w]
          rfl
         refine take_ (i := 7) (N := some 90) (v := ?_) (a' := ?_) #[true, true, true, true, true, true, true, true, true, false, true, true, true, false, true, false, false, false, false, false] rfl rfl (take_ofW HT_.out HW_.out (by kernel_rfl)) (fun _ _ _ h => h) (Or.inl ⟨by rfl, ?_⟩) hHeld ?_ ?_
         rotate_left
         ·rintro w' ⟨s0, s1⟩
          go_simp
          with_reducible rfl
         rotate_left
         ·simp only [Act.put, List.setIfInBounds_toArray, List.set_cons_zero, List.set_cons_succ, i64_w, i32_w]
          rfl
         refine pure_ (i := 9) (N := some 92) (v := ?_) (a' := ?_) #[true, true, true, true, true, true, true, true, true, true, true, true, true, false, true, false, false, false, false, false] rfl rfl (any_of HT_.out (by kernel_rfl)) (fun _ _ _ h => h) (Or.inl ⟨by rfl, ?_⟩) ?_ ?_
         rotate_left
         ·intro w'
          go_simp
          with_reducible rfl
         rotate_left
         ·simp only [Act.put, List.setIfInBounds_toArray, List.set_cons_zero, List.set_cons_succ, i64_w, i32_w]
          rfl
         refine take_ (i := 13) (N := some 96) (v := ?_) (a' := ?_) #[true, true, true, true, true, true, true, true, true, true, true, true, true, true, true, false, false, false, false, false] rfl rfl (take_ofW HT_.out HW_.out (by kernel_rfl)) (fun _ _ _ h => h) (Or.inl ⟨by rfl, ?_⟩) hHeld ?_ ?_
         rotate_left
         ·rintro w' ⟨s0, s1⟩
          go_simp
          with_reducible rfl
         rotate_left
         ·simp only [Act.put, List.setIfInBounds_toArray, List.set_cons_zero, List.set_cons_succ, i64_w, i32_w]
          rfl
         refine pure_ (i := 15) (N := some 98) (v := ?_) (a' := ?_) #[true, true, true, true, true, true, true, true, true, true, true, true, true, true, true, true, false, false, false, false] rfl rfl (any_of HT_.out (by kernel_rfl)) (fun _ _ _ h => h) (Or.inl ⟨by rfl, ?_⟩) ?_ ?_
         rotate_left
         ·intro w'
          go_simp
          with_reducible rfl
         rotate_left
         ·simp only [Act.put, List.setIfInBounds_toArray, List.set_cons_zero, List.set_cons_succ, i64_w, i32_w]
          rfl
         refine pure_ (i := 16) (N := some 99) (v := ?_) (a' := ?_) #[true, true, true, true, true, true, true, true, true, true, true, true, true, true, true, true, true, false, false, false] rfl rfl (any_of HT_.out (by kernel_rfl)) (fun _ _ _ h => h) (Or.inl ⟨by rfl, ?_⟩) ?_ ?_
         rotate_left
         ·intro w'
          go_simp
          with_reducible rfl
         rotate_left
         ·simp only [Act.put, List.setIfInBounds_toArray, List.set_cons_zero, List.set_cons_succ, i64_w, i32_w]
          rfl
         refine last_ (i := 17) (N := none) #[true, true, true, true, true, true, true, true, true, true, true, true, true, true, true, true, true, true, false, false] rfl rfl (one_of HT_.out (by kernel_rfl)) (by decide) (fun K hK => ?_)
         refine skip_ (w1 := ?_) (by rfl) rfl ?_ ?_
         rotate_left
         ·go_simp
          rfl
         refine hK.out _ _ ?_
         clear hK K
         refine pure_ (i := 18) (N := some 100) (v := ?_) (a' := ?_) #[true, true, true, true, true, true, true, true, true, true, true, true, true, true, true, true, true, true, true, false] rfl rfl (any_of HT_.out (by kernel_rfl)) (fun _ _ _ h => h) (Or.inl ⟨by rfl, ?_⟩) ?_ ?_
         rotate_left
         ·intro w'
          go_simp
          with_reducible rfl
         rotate_left
         ·simp only [Act.put, List.setIfInBounds_toArray, List.set_cons_zero, List.set_cons_succ, i64_w, i32_w]
          rfl
         refine last_ (i := 19) (N := none) #[true, true, true, true, true, true, true, true, true, true, true, true, true, true, true, true, true, true, true, true] rfl rfl (one_of HT_.out (by kernel_rfl)) (by decide) (fun K hK => ?_)
         refine skip_ (w1 := ?_) (by rfl) rfl ?_ ?_
         rotate_left
         ·go_simp
          rfl
         refine hK.out _ _ ?_
         clear hK K
         refine done_ (done_of HT_.out (by kernel_rfl)) ?_
         try go_wp2
         (try simp only [← hl10_2])
         subst hji40
         go_roundg k2
         case measure => have := HK1.out; have := HK2.out; omega
         case rel => (obtain ⟨c1_, h1_⟩ := Kd.R_typed HO_8.out go58 rfl; obtain ⟨c2_, h2_⟩ := Kd.R_typed HO_9.out go60 rfl; have GG58 := Aside0.mk h1_; have GG60 := Aside0.mk h2_; exact ⟨(y461), (y462), (y458), (wrap64 (x44_2 + 1)), (by first | rfl | (simp; done) | (simp [*]; done)), H', ⟨by have := HK1.out; have := HK2.out; omega⟩, ⟨by (try simp only [hl10_1]); (try simp only [hl10_2]); (with_reducible repeat (first | apply Kd.R_alloc | apply Kd.R_drewN | apply Kd.R_drew)); exact Kd.R_mono (Kd.R_far (p := ⟨go60, (((wrap64 (a0_0 + x32_1))) : Int).toNat, none⟩) (Kd.R_mono HQ76.out (fun k_ hk => (⟨hk, fun e_ => hk.2 (by rw [e_]; rfl)⟩ : _ ∧ k_ ≠ go60))) (fun _ hk => hk.2) (.int .i64 ji63)) (fun _ hk => hk.1.2)⟩, ⟨by (try simp only [hl10_1]); (try simp only [hl10_2]); (with_reducible repeat (first | apply Kd.R_alloc | apply Kd.R_drewN | apply Kd.R_drew)); exact Kd.R_mono HQ77.out (fun _ hk => hk.1)⟩, ⟨by (try simp only [hl10_1]); (try simp only [hl10_2]); (with_reducible repeat (first | apply Kd.R_alloc | apply Kd.R_drewN | apply Kd.R_drew)); exact Kd.R_mono (Kd.R_far (p := ⟨go60, (((wrap64 (a0_0 + x32_1))) : Int).toNat, none⟩) (Kd.R_far (p := ⟨go58, (((wrap64 (a0_0 + x32_1))) : Int).toNat, none⟩) (Kd.R_types (Kd.R_types HO_10.out GG58.out (by decide)) GG60.out (by decide)) (fun _ hk => hk.1.2) (.int .i64 ji62)) (fun _ hk => hk.2) (.int .i64 ji63)) (fun _ hk => trivial)⟩, ⟨by (try simp only [hl10_1]); (try simp only [hl10_2]); (with_reducible repeat (first | refine blk_drewN ?_ _ | refine blk_drew ?_ | refine blk_alloc ?_ _)); refine blk_far ?_ (by have h_ := Kd.R_ne HO_9.out BK433.out (by decide); intro e_; exact h_ (by rw [e_]; rfl)) _; (with_reducible repeat (first | refine blk_drewN ?_ _ | refine blk_drew ?_ | refine blk_alloc ?_ _)); refine blk_far ?_ (by have h_ := Kd.R_ne HO_8.out BK433.out (by decide); intro e_; exact h_ (by rw [e_]; rfl)) _; (with_reducible repeat (first | refine blk_drewN ?_ _ | refine blk_drew ?_ | refine blk_alloc ?_ _)); exact BK433.out⟩, ⟨by (try simp only [hl10_1]); (try simp only [hl10_2]); (with_reducible repeat (first | refine blk_drewN ?_ _ | refine blk_drew ?_ | refine blk_alloc ?_ _)); refine blk_far ?_ (by have h_ := Kd.R_ne HO_9.out BK446.out (by decide); intro e_; exact h_ (by rw [e_]; rfl)) _; (with_reducible repeat (first | refine blk_drewN ?_ _ | refine blk_drew ?_ | refine blk_alloc ?_ _)); refine blk_far ?_ (by have h_ := Kd.R_ne HO_8.out BK446.out (by decide); intro e_; exact h_ (by rw [e_]; rfl)) _; (with_reducible repeat (first | refine blk_drewN ?_ _ | refine blk_drew ?_ | refine blk_alloc ?_ _)); exact BK446.out⟩, ⟨by with_reducible repeat (first | exact HB.out | apply below_alloc | apply pw_below_drewN | apply below_drew1 | refine below_set ?_ GB58.out | refine below_set ?_ GB60.out | refine below_set ?_ GE433.out | refine below_set ?_ GE446.out)⟩⟩)
       ·replace c37 := Bool.eq_false_iff.mpr c37
        subst c37
        have H1 : (impl_Circuit_delays.l1 k2 x8_2 x9_2 x10_2 (wrap64 (a0_0 + x32_1)) l0_1 (l0_1.length : Int) x32_1 ((rd_T56 l0_1 x32_1).f2) (((rd_T56 l0_1 x32_1).f2).length : Int) (wrap64 (x44_2 + 1)) a0_0 l0_1 l0_2 a0_3 a0_4 a0_5 a0_6 ((rd_T56 l0_1 x32_1).f0) ((rd_T56 l0_1 x32_1).f1) ((rd_T56 l0_1 x32_1).f2)) = some (r1, r2, r3) := by rw [if_neg (show ¬ (false = true) by decide)] at H; exact H
        clear H
        have H := H1
        clear H1
        have H' := Aside0.mk H
        clear H
        have p447 : 0 ≤ (x44_2 : Int) := of_decide_eq_true (by with_reducible assumption)
        have q447 : x44_2 < (((rd_T56 l0_1 x32_1).f2).length : Int) := of_decide_eq_true (by with_reducible assumption)
        obtain ⟨ad447, e447, hx447_0⟩ := Kd.at_int HR445_2.out x44_2 p447 q447
        cases e447
        replace hx447_0 := (HB.out.cell (World.block_lt_of_cell? w _ hx447_0)).trans hx447_0
        replace p447 := eq_true p447
        replace q447 := eq_true q447
        have p448 : 0 ≤ ((rd ((rd_T56 l0_1 x32_1).f2) x44_2) : Int) := of_decide_eq_true (by with_reducible assumption)
        have q448 : (rd ((rd_T56 l0_1 x32_1).f2) x44_2) < (x10_2.length : Int) := of_decide_eq_true (by with_reducible assumption)
        obtain ⟨ad448, e448, hx448_0⟩ := Kd.at_bool (Kd.R_reads' HO_10.out).2.2 (rd ((rd_T56 l0_1 x32_1).f2) x44_2) p448 q448
        (try rw [← Nbq36.out] at hx448_0)
        obtain rfl : (⟨go9, 0, none⟩ : Addr) = ad448 := (by injection e448)
        (first | simp only [add_plain] at hx448_0 | simp only [add_at] at hx448_0 | simp only [Addr.add, Nat.zero_add] at hx448_0 | skip)
        replace p448 := eq_true p448
        replace q448 := eq_true q448
        go_wp2
        (try simp only [← hl10_2])
        go_roundg k2
        case measure => have := HK1.out; have := HK2.out; omega
        case rel => exact ⟨(x8_2), (x9_2), (x10_2), (wrap64 (x44_2 + 1)), (by first | rfl | (simp; done) | (simp [*]; done)), H', ⟨by have := HK1.out; have := HK2.out; omega⟩, ⟨by (try simp only [hl10_1]); (try simp only [hl10_2]); (with_reducible repeat (first | apply Kd.R_alloc | apply Kd.R_drewN | apply Kd.R_drew)); exact HO_8.out⟩, ⟨by (try simp only [hl10_1]); (try simp only [hl10_2]); (with_reducible repeat (first | apply Kd.R_alloc | apply Kd.R_drewN | apply Kd.R_drew)); exact HO_9.out⟩, ⟨by (try simp only [hl10_1]); (try simp only [hl10_2]); (with_reducible repeat (first | apply Kd.R_alloc | apply Kd.R_drewN | apply Kd.R_drew)); exact HO_10.out⟩, ⟨by (try simp only [hl10_1]); (try simp only [hl10_2]); (with_reducible repeat (first | refine blk_drewN ?_ _ | refine blk_drew ?_ | refine blk_alloc ?_ _)); exact BK433.out⟩, ⟨by (try simp only [hl10_1]); (try simp only [hl10_2]); (with_reducible repeat (first | refine blk_drewN ?_ _ | refine blk_drew ?_ | refine blk_alloc ?_ _)); exact BK446.out⟩, ⟨by with_reducible repeat (first | exact HB.out | apply below_alloc | apply pw_below_drewN | apply below_drew1 | refine below_set ?_ GE433.out | refine below_set ?_ GE446.out)⟩⟩
      ·rw [if_neg c31] at H
       have c31b0 : decide (x44_2 < (((rd_T56 l0_1 x32_1).f2).length : Int)) = false := decide_eq_false c31
       clear c31
       have H' := Aside0.mk H
       clear H
       go_wp2
       (try simp only [← hl10_1, ← hl10_2])
       go_roundg k2
       case measure => have := HK1.out; have := HK2.out; omega
       case rel => exact ⟨(x8_2), (x9_2), (x10_2), (wrap64 (x32_1 + 1)), (by first | rfl | (simp; done) | (simp [*]; done)), H', ⟨by have := HK1.out; have := HK2.out; omega⟩, ⟨by (try simp only [hl10_1]); (try simp only [hl10_2]); (with_reducible repeat (first | apply Kd.R_alloc | apply Kd.R_drewN | apply Kd.R_drew)); exact HO_8.out⟩, ⟨by (try simp only [hl10_1]); (try simp only [hl10_2]); (with_reducible repeat (first | apply Kd.R_alloc | apply Kd.R_drewN | apply Kd.R_drew)); exact HO_9.out⟩, ⟨by (try simp only [hl10_1]); (try simp only [hl10_2]); (with_reducible repeat (first | apply Kd.R_alloc | apply Kd.R_drewN | apply Kd.R_drew)); exact HO_10.out⟩, ⟨by (try simp only [hl10_1]); (try simp only [hl10_2]); (with_reducible repeat (first | refine blk_drewN ?_ _ | refine blk_drew ?_ | refine blk_alloc ?_ _)); exact BK433.out⟩, ⟨by with_reducible repeat (first | exact HB.out | apply below_alloc | apply pw_below_drewN | apply below_drew1 | refine below_set ?_ GE433.out | refine below_set ?_ GE446.out)⟩⟩
   ·rw [if_neg c24] at H
    have c24b0 : decide (x32_1 < (l0_1.length : Int)) = false := decide_eq_false c24
    clear c24
    simp only [Option.some.injEq, Prod.mk.injEq] at H
    obtain ⟨rfl, rfl, rfl⟩ := H
    go_wp2
    go_ret3
    exact ⟨_, _, _, by first | rfl | (simp [errW_none, errW_some] <;> rfl) | (simp [*, errW_none, errW_some] <;> rfl), by (with_reducible repeat (first | apply Kd.R_alloc | apply Kd.R_drewN | apply Kd.R_drew)); exact HO_8.out, by (with_reducible repeat (first | apply Kd.R_alloc | apply Kd.R_drewN | apply Kd.R_drew)); exact HO_9.out, by (with_reducible repeat (first | apply Kd.R_alloc | apply Kd.R_drewN | apply Kd.R_drew)); exact HO_10.out, by with_reducible repeat (first | exact HB.out | apply below_alloc | apply pw_below_drewN | apply below_drew1 | refine below_set ?_ GE433.out)⟩
end Go.Proofs.Ytahjcmmgdcedpaa.Pa

