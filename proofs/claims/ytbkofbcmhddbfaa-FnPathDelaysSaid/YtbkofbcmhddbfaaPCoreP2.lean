-- Written for this claim by a program of this session.
import Derived.Test.YtbkofbcmhddbfaaPPax0
import Derived.Test.YtbkofbcmhddbfaaPCoreP1
namespace Go.Proofs.Ytbkofbcmhddbfaa.Pa
open Go.RowKit Go.Proofs.YtbkofbcmhddbfaaW.PrintWords Go.Proofs.YtbkofbcmhddbfaaW.PrintLast Go.Proofs.YtbkofbcmhddbfaaW.PrintMore
attribute [local go_sem] max2_int min2_int max_two min_two max_three min_three max_four min_four   -- for this text's walks alone
set_option linter.unusedVariables false
set_option linter.unusedSimpArgs false

/-! ### impl_Circuit_delays: function 43 -/
mutual
def impl_Circuit_delays.l0 : Nat → List Int → List Int → List Bool → List (S36) → Int → Int → Int → List (S36) → List Int → Int → Int → Int → Int → Option (List Int × List Int × List Bool)
 | 0, _, _, _, _, _, _, _, _, _, _, _, _, _ => none
 | k + 1, x8, x9, x10, x30, x31, x32, x200000, x200001, x200002, x200003, x200004, x200005, x200006 => if x32 < x31 then (if 0 ≤ x32 then (if x32 < (x30.length : Int) then (impl_Circuit_delays.l1 k x8 x9 x10 (wrap64 (x200000 + x32)) x30 x31 x32 ((rd_T36 x30 x32).f2) (((rd_T36 x30 x32).f2).length : Int) 0 x200000 x200001 x200002 x200003 x200004 x200005 x200006 ((rd_T36 x30 x32).f0) ((rd_T36 x30 x32).f1) ((rd_T36 x30 x32).f2)) else (none)) else (none)) else (some (x8, x9, x10))
def impl_Circuit_delays.l1 : Nat → List Int → List Int → List Bool → Int → List (S36) → Int → Int → List Int → Int → Int → Int → List (S36) → List Int → Int → Int → Int → Int → Int → Int → List Int → Option (List Int × List Int × List Bool)
 | 0, _, _, _, _, _, _, _, _, _, _, _, _, _, _, _, _, _, _, _, _ => none
 | k + 1, x8, x9, x10, x13, x30, x31, x32, x42, x43, x44, x200000, x200001, x200002, x200003, x200004, x200005, x200006, x213000, x213001, x213002 => if x44 < x43 then (if 0 ≤ x44 then (if x44 < (x42.length : Int) then (if 0 ≤ (rd x42 x44) then (if (rd x42 x44) < (x10.length : Int) then (if (rdOf false x10 (rd x42 x44) = true) then (if (rd x42 x44) < (x8.length : Int) then (if (rd x42 x44) < (x9.length : Int) then (if 0 ≤ x13 then (if x13 < (x10.length : Int) then (if rdOf false x10 x13 = true then (if x13 < (x8.length : Int) then (if x13 < (x9.length : Int) then (impl_Circuit_delays.l1 k (x8.set (x13 : Int).toNat (mn (rd x8 x13) (wrap64 ((rd x8 (rd x42 x44)) + x213000)))) (x9.set (x13 : Int).toNat (mx (rd x9 x13) (wrap64 ((rd x9 (rd x42 x44)) + x213001)))) x10 x13 x30 x31 x32 x42 x43 (wrap64 (x44 + 1)) x200000 x200001 x200002 x200003 x200004 x200005 x200006 x213000 x213001 x213002) else (none)) else (none)) else (if x13 < (x8.length : Int) then ((some (x8.set (x13 : Int).toNat (wrap64 ((rd x8 (rd x42 x44)) + x213000)) : List Int)).bind fun y222 => (if x13 < (x9.length : Int) then ((some (x9.set (x13 : Int).toNat (wrap64 ((rd x9 (rd x42 x44)) + x213001)) : List Int)).bind fun y223 => (impl_Circuit_delays.l1 k (y222.set (x13 : Int).toNat (mn (rd y222 x13) (wrap64 ((rd x8 (rd x42 x44)) + x213000)))) (y223.set (x13 : Int).toNat (mx (rd y223 x13) (wrap64 ((rd x9 (rd x42 x44)) + x213001)))) (x10.set (x13 : Int).toNat true) x13 x30 x31 x32 x42 x43 (wrap64 (x44 + 1)) x200000 x200001 x200002 x200003 x200004 x200005 x200006 x213000 x213001 x213002)) else (none))) else (none))) else (none)) else (none)) else (none)) else (none)) else (impl_Circuit_delays.l1 k x8 x9 x10 x13 x30 x31 x32 x42 x43 (wrap64 (x44 + 1)) x200000 x200001 x200002 x200003 x200004 x200005 x200006 x213000 x213001 x213002)) else (none)) else (none)) else (none)) else (none)) else (impl_Circuit_delays.l0 k x8 x9 x10 x30 x31 (wrap64 (x32 + 1)) x200000 x200001 x200002 x200003 x200004 x200005 x200006)
end
def impl_Circuit_delays.f (k : Nat) (a0_0 : Int) (l0_1 : List (S36)) (l0_2 : List Int) (a0_3 : Int) (a0_4 : Int) (a0_5 : Int) (a0_6 : Int) (a1 : Int) : Option (List Int × List Int × List Bool) := (impl_Circuit_nodes.f a0_0 l0_1 l0_2 a0_3 a0_4 a0_5 a0_6).bind fun t200 => (if 0 ≤ t200 then (if (t200 : Int).toNat ≤ 35184372088832 then (if (t200 : Int).toNat ≤ 281474976710656 then ((some (List.replicate (t200 : Int).toNat false : List Bool)).bind fun y207 => (if 0 ≤ a1 then (if a1 < (y207.length : Int) then (impl_Circuit_delays.l0 k (List.replicate (t200 : Int).toNat 0) (List.replicate (t200 : Int).toNat 0) (y207.set (a1 : Int).toNat true) l0_1 (l0_1.length : Int) 0 a0_0 l0_1 l0_2 a0_3 a0_4 a0_5 a0_6) else (none)) else (none))) else (none)) else (none)) else (none))
def impl_Circuit_delays.T2 : Bool × List (List Nat × List Nat) := (true, [([], []), ([0, 0], [0]), ([], []), ([2, 2], [2]), ([], []), ([4, 4], [4]), ([1, 0, 1], [1]), ([3, 6, 0, 1, 2, 3, 6], [3]), ([5, 7, 0, 1, 2, 3, 4, 5, 6, 7], [5])])
def impl_Circuit_delays.B2 : List Nat := [0, 1, 0, 4, 0, 16, 3, 79, 255]
theorem impl_Circuit_delays.tab2 : rtab .any (opsOf Try.f43 2) = impl_Circuit_delays.T2 := by kernel_rfl
theorem impl_Circuit_delays.bits2 : waitsOk impl_Circuit_delays.T2.2 impl_Circuit_delays.B2 = true := by kernel_rfl
def impl_Circuit_delays.T12 : Bool × List (List Nat × List Nat) := (true, [([], []), ([], []), ([0, 1], [0, 1]), ([2], [2]), ([], []), ([4], [4]), ([3, 5], [3, 5]), ([], []), ([], []), ([7, 8], [7, 8]), ([9], [9]), ([], []), ([11], [11]), ([10, 12], [10, 12]), ([6, 0, 1, 2, 3, 4, 5, 6], [6]), ([13, 14, 0, 1, 2, 3, 4, 5, 6, 7, 8, 9, 10, 11, 12, 13, 14], [13])])
def impl_Circuit_delays.B12 : List Nat := [0, 0, 3, 7, 0, 16, 63, 0, 0, 384, 896, 0, 2048, 8064, 127, 32767]
theorem impl_Circuit_delays.tab12 : rtab .any (opsOf Try.f43 12) = impl_Circuit_delays.T12 := by kernel_rfl
theorem impl_Circuit_delays.bits12 : waitsOk impl_Circuit_delays.T12.2 impl_Circuit_delays.B12 = true := by kernel_rfl
def impl_Circuit_delays.T15 : Bool × List (List Nat × List Nat) := (true, [([], []), ([], []), ([], []), ([], []), ([], []), ([], []), ([4, 5], [4, 5]), ([6], [6]), ([], []), ([7, 8], [7, 8]), ([], []), ([], []), ([10, 11], [10, 11]), ([12], [12]), ([], []), ([13, 14], [13, 14]), ([0, 1, 0, 1, 4, 5, 6, 7, 8, 9, 13], [0, 1]), ([16, 9, 0, 1, 4, 5, 6, 7, 8, 9, 13], [9, 16]), ([2, 3, 0, 1, 2, 3, 4, 5, 6, 7, 8, 9, 10, 11, 12, 13, 14, 15, 16, 17], [2, 3]), ([18, 15, 17, 0, 1, 2, 3, 4, 5, 6, 7, 8, 9, 10, 11, 12, 13, 14, 15, 16, 17], [15, 18])])
def impl_Circuit_delays.B15 : List Nat := [0, 0, 0, 0, 0, 0, 48, 112, 0, 496, 0, 0, 3072, 7168, 0, 31744, 16371, 81907, 262143, 524287]
theorem impl_Circuit_delays.tab15 : rtab .any (opsOf Try.f43 15) = impl_Circuit_delays.T15 := by kernel_rfl
theorem impl_Circuit_delays.bits15 : waitsOk impl_Circuit_delays.T15.2 impl_Circuit_delays.B15 = true := by kernel_rfl
set_option maxHeartbeats 8000000 in
set_option maxRecDepth 100000 in
theorem impl_Circuit_delays.calls (k : Nat) (a0_0 : Int) (A0_1 : Option Addr) (c0_1 : Nat) (l0_1 : List (S36)) (A0_2 : Option Addr) (c0_2 : Nat) (l0_2 : List Int) (a0_3 : Int) (a0_4 : Int) (a0_5 : Int) (a0_6 : Int) (a1 : Int) (r1 : List Int) (r2 : List Int) (r3 : List Bool) (w : World) (hr0_1 : Kd.C k36 w A0_1 l0_1.length l0_1) (hc0_1 : l0_1.length ≤ c0_1) (hr0_2 : Kd.C (Kd.int .i64) w A0_2 l0_2.length l0_2) (hc0_2 : l0_2.length ≤ c0_2) (h : impl_Circuit_delays.f k a0_0 l0_1 l0_2 a0_3 a0_4 a0_5 a0_6 a1 = some (r1, r2, r3)) :
  Calls Try.prog 43 #[.agg #[.int .i64 a0_0, .slice A0_1 l0_1.length c0_1, .slice A0_2 l0_2.length c0_2, .int .i64 a0_3, .int .i64 a0_4, .int .i64 a0_5, .int .i64 a0_6], .int .i64 a1] w fun e w' => ∃ v0_ v1_ v2_ : Value, e = .returned (.tuple #[v0_, v1_, v2_]) ∧ Kd.R (Kd.int .i64) 2 w' w.heap.size (fun k_ => some k_ ≠ (v1_ : Value).ownBlock) v0_ r1 ∧ Kd.R (Kd.int .i64) 2 w' w.heap.size (fun k_ => some k_ ≠ (v0_ : Value).ownBlock) v1_ r2 ∧ Kd.R Kd.bool 4 w' w.heap.size (fun _ => True) v2_ r3 ∧ Below w.heap.size w w' := by
 have hu27 := Try.underlying27
 have hu36 := Try.underlying36
 have HR0_1 := Aside0.mk hr0_1
 have HC0_1 := Aside0.mk hc0_1
 clear hr0_1 hc0_1
 have HR0_2 := Aside0.mk hr0_2
 have HC0_2 := Aside0.mk hc0_2
 clear hr0_2 hc0_2
 have HB := Aside0.mk (Below.refl w.heap.size w)
 have H : ((impl_Circuit_nodes.f a0_0 l0_1 l0_2 a0_3 a0_4 a0_5 a0_6).bind fun t200 => (if 0 ≤ t200 then (if (t200 : Int).toNat ≤ 35184372088832 then (if (t200 : Int).toNat ≤ 281474976710656 then ((some (List.replicate (t200 : Int).toNat false : List Bool)).bind fun y207 => (if 0 ≤ a1 then (if a1 < (y207.length : Int) then (impl_Circuit_delays.l0 k (List.replicate (t200 : Int).toNat 0) (List.replicate (t200 : Int).toNat 0) (y207.set (a1 : Int).toNat true) l0_1 (l0_1.length : Int) 0 a0_0 l0_1 l0_2 a0_3 a0_4 a0_5 a0_6) else (none)) else (none))) else (none)) else (none)) else (none))) = some (r1, r2, r3) := h
 clear h
 replace H := Option.bind_eq_some_iff.mp H
 obtain ⟨t200, A30, H⟩ := H
 replace H : (if 0 ≤ t200 then (if (t200 : Int).toNat ≤ 35184372088832 then (if (t200 : Int).toNat ≤ 281474976710656 then ((some (List.replicate (t200 : Int).toNat false : List Bool)).bind fun y207 => (if 0 ≤ a1 then (if a1 < (y207.length : Int) then (impl_Circuit_delays.l0 k (List.replicate (t200 : Int).toNat 0) (List.replicate (t200 : Int).toNat 0) (y207.set (a1 : Int).toNat true) l0_1 (l0_1.length : Int) 0 a0_0 l0_1 l0_2 a0_3 a0_4 a0_5 a0_6) else (none)) else (none))) else (none)) else (none)) else (none)) = some (r1, r2, r3) := H
 have A3 := Aside0.mk A30
 clear A30
 by_cases c4 : 0 ≤ t200
 case neg => rw [if_neg c4] at H; exact absurd H (by simp)
 rw [if_pos c4] at H
 have c4b0 := eq_true c4
 have c4b1 : decide (0 ≤ t200) = true := decide_eq_true c4
 clear c4
 by_cases c5 : (t200 : Int).toNat ≤ 35184372088832
 case neg => rw [if_neg c5] at H; exact absurd H (by simp)
 rw [if_pos c5] at H
 have c5b0 := eq_true c5
 have c5b1 : decide ((t200 : Int).toNat ≤ 35184372088832) = true := decide_eq_true c5
 clear c5
 obtain ⟨y201, hy201⟩ : ∃ y_ : List Int, y_ = (List.replicate (t200 : Int).toNat 0) := ⟨_, rfl⟩
 replace H : (if (t200 : Int).toNat ≤ 281474976710656 then ((some (List.replicate (t200 : Int).toNat false : List Bool)).bind fun y207 => (if 0 ≤ a1 then (if a1 < (y207.length : Int) then (impl_Circuit_delays.l0 k y201 (List.replicate (t200 : Int).toNat 0) (y207.set (a1 : Int).toNat true) l0_1 (l0_1.length : Int) 0 a0_0 l0_1 l0_2 a0_3 a0_4 a0_5 a0_6) else (none)) else (none))) else (none)) = some (r1, r2, r3) := by first | (rw [hy201]; with_reducible exact H) | (have H2_ := (Option.bind_some _ _).symm.trans H; rw [hy201]; with_reducible exact H2_) | (have H2_ := (Option.bind_some _ _).symm.trans H; with_reducible exact H2_) | with_reducible exact H | (rw [hy201]; exact H) | exact H
 have Ny201 := Aside0.mk hy201
 clear hy201
 obtain ⟨y204, hy204⟩ : ∃ y_ : List Int, y_ = (List.replicate (t200 : Int).toNat 0) := ⟨_, rfl⟩
 replace H : (if (t200 : Int).toNat ≤ 281474976710656 then ((some (List.replicate (t200 : Int).toNat false : List Bool)).bind fun y207 => (if 0 ≤ a1 then (if a1 < (y207.length : Int) then (impl_Circuit_delays.l0 k y201 y204 (y207.set (a1 : Int).toNat true) l0_1 (l0_1.length : Int) 0 a0_0 l0_1 l0_2 a0_3 a0_4 a0_5 a0_6) else (none)) else (none))) else (none)) = some (r1, r2, r3) := by first | (rw [hy204]; with_reducible exact H) | (have H2_ := (Option.bind_some _ _).symm.trans H; rw [hy204]; with_reducible exact H2_) | (have H2_ := (Option.bind_some _ _).symm.trans H; with_reducible exact H2_) | with_reducible exact H | (rw [hy204]; exact H) | exact H
 have Ny204 := Aside0.mk hy204
 clear hy204
 by_cases c6 : (t200 : Int).toNat ≤ 281474976710656
 case neg => rw [if_neg c6] at H; exact absurd H (by simp)
 rw [if_pos c6] at H
 have c6b0 := eq_true c6
 have c6b1 : decide ((t200 : Int).toNat ≤ 281474976710656) = true := decide_eq_true c6
 clear c6
 obtain ⟨y207, hy207⟩ : ∃ y_ : List Bool, y_ = (List.replicate (t200 : Int).toNat false) := ⟨_, rfl⟩
 replace H : (if 0 ≤ a1 then (if a1 < (y207.length : Int) then (impl_Circuit_delays.l0 k y201 y204 (y207.set (a1 : Int).toNat true) l0_1 (l0_1.length : Int) 0 a0_0 l0_1 l0_2 a0_3 a0_4 a0_5 a0_6) else (none)) else (none)) = some (r1, r2, r3) := by first | (rw [hy207]; with_reducible exact H) | (have H2_ := (Option.bind_some _ _).symm.trans H; rw [hy207]; with_reducible exact H2_) | (have H2_ := (Option.bind_some _ _).symm.trans H; with_reducible exact H2_) | with_reducible exact H | (rw [hy207]; exact H) | exact H
 have Ny207 := Aside0.mk hy207
 clear hy207
 by_cases c7 : 0 ≤ a1
 case neg => rw [if_neg c7] at H; exact absurd H (by simp)
 rw [if_pos c7] at H
 have c7b0 : decide (0 ≤ a1) = true := decide_eq_true c7
 clear c7
 by_cases c8 : a1 < (y207.length : Int)
 case neg => rw [if_neg c8] at H; exact absurd H (by simp)
 rw [if_pos c8] at H
 have c8b0 : decide (a1 < (y207.length : Int)) = true := decide_eq_true c8
 clear c8
 obtain ⟨y210, hy210⟩ : ∃ y_ : List Bool, y_ = (y207.set (a1 : Int).toNat true) := ⟨_, rfl⟩
 replace H : (impl_Circuit_delays.l0 k y201 y204 y210 l0_1 (l0_1.length : Int) 0 a0_0 l0_1 l0_2 a0_3 a0_4 a0_5 a0_6) = some (r1, r2, r3) := by first | (rw [hy210]; with_reducible exact H) | (have H2_ := (Option.bind_some _ _).symm.trans H; rw [hy210]; with_reducible exact H2_) | (have H2_ := (Option.bind_some _ _).symm.trans H; with_reducible exact H2_) | with_reducible exact H | (rw [hy210]; exact H) | exact H
 have Ny210 := Aside0.mk hy210
 clear hy210
 have H' := Aside0.mk H
 clear H
 go_enter Try.func43, Try.ntmps43
 try go_wp2_with (first | ((with_reducible refine gate_dst (N := 2) rfl ?_); refine box_event ?hg (N := 2) ?hd (cs := #[.int .i64 a0_0, .slice A0_1 l0_1.length c0_1, .slice A0_2 l0_2.length c0_2, .int .i64 a0_3, .int .i64 a0_4, .int .i64 a0_5, .int .i64 a0_6]) (t := 27) ?hr ?_; (case hd => rfl); (case hg => rfl); (case hr => first | (go_simp; done) | (go_simp; rfl)); intro gb199 hg w10 hbox hb; have n0_ := Aside0.mk (below_step (by with_reducible repeat (first | exact HB.out | apply below_alloc | apply pw_below_drewN | apply below_drew1)) hb); have n1_ := Aside0.mk (hbox); have n2_ := Aside0.mk ((by rw [hg]; exact (below_size (by with_reducible repeat (first | exact HB.out | apply below_alloc | apply pw_below_drewN | apply below_drew1))) : w.heap.size ≤ gb199)); have n3_ := Aside0.mk ((by rw [hg]; exact (below_size (by with_reducible repeat (first | exact HB.out | apply below_alloc | apply pw_below_drewN | apply below_drew1))) : w.heap.size ≤ gb199)); clear HB; have HB := n0_; have BK199 := n1_; have GW199 := n2_; have GE199 := n3_; clear n0_ n1_ n2_ n3_; clear hb hbox hg; have hcz11_0 : w10.cell? ⟨gb199, 0, none⟩ = some (.int .i64 a0_0) := (blk_cell BK199.out 0).trans rfl; have hcz11_1 : w10.cell? ⟨gb199, 1, none⟩ = some (.slice A0_1 l0_1.length c0_1) := (blk_cell BK199.out 1).trans rfl; have hcz11_2 : w10.cell? ⟨gb199, 2, none⟩ = some (.slice A0_2 l0_2.length c0_2) := (blk_cell BK199.out 2).trans rfl; have hcz11_3 : w10.cell? ⟨gb199, 3, none⟩ = some (.int .i64 a0_3) := (blk_cell BK199.out 3).trans rfl; have hcz11_4 : w10.cell? ⟨gb199, 4, none⟩ = some (.int .i64 a0_4) := (blk_cell BK199.out 4).trans rfl; have hcz11_5 : w10.cell? ⟨gb199, 5, none⟩ = some (.int .i64 a0_5) := (blk_cell BK199.out 5).trans rfl; have hcz11_6 : w10.cell? ⟨gb199, 6, none⟩ = some (.int .i64 a0_6) := (blk_cell BK199.out 6).trans rfl; have hfz11_0 := blk_frozen BK199.out 0; have hfz11_1 := blk_frozen BK199.out 1; have hfz11_2 := blk_frozen BK199.out 2; have hfz11_3 := blk_frozen BK199.out 3; have hfz11_4 := blk_frozen BK199.out 4; have hfz11_5 := blk_frozen BK199.out 5; have hfz11_6 := blk_frozen BK199.out 6) | ((with_reducible refine gate_callee (f := 24) rfl ?_); refine goesL_ (some 19) rfl rfl Try.func24 (by kernel_rfl) rfl #[.agg #[.int .i64 a0_0, .slice A0_1 l0_1.length c0_1, .slice A0_2 l0_2.length c0_2, .int .i64 a0_3, .int .i64 a0_4, .int .i64 a0_5, .int .i64 a0_6]] rfl (by (try simp only [List.map_toArray, List.map_cons, List.map_nil]); first | done | rfl | (simp only [List.length_drop, List.length_take]; rfl)) ?_; (with_reducible refine (impl_Circuit_nodes.calls a0_0 _ _ l0_1 _ _ l0_2 a0_3 a0_4 a0_5 a0_6 t200 _ ?side1 ?side2 ?side3 ?side4 A3.out).mono ?_); (case side1 => repeat (first | exact (Kd.C_below HR0_1.out HB.out) | (with_reducible refine Kd.C_alloc ?_ _) | (with_reducible refine Kd.C_drewN ?_ _) | (with_reducible refine Kd.C_drew ?_))); (case side2 => exact HC0_1.out); (case side3 => repeat (first | exact (Kd.C_below HR0_2.out HB.out) | (with_reducible refine Kd.C_alloc ?_ _) | (with_reducible refine Kd.C_drewN ?_ _) | (with_reducible refine Kd.C_drew ?_))); (case side4 => exact HC0_2.out); rintro e w12 ⟨rfl, hb⟩; refine ⟨_, rfl, ?_⟩; have n0_ := Aside0.mk (blk_below (g := gb199) (by (with_reducible repeat (first | refine blk_drewN ?_ _ | refine blk_drew ?_ | refine blk_alloc ?_ _)); exact BK199.out) hb); have n1_ := Aside0.mk (below_step (by with_reducible repeat (first | exact HB.out | apply below_alloc | apply pw_below_drewN | apply below_drew1 | refine below_set ?_ GE199.out)) hb); clear BK199; clear HB; have BK199 := n0_; have HB := n1_; clear n0_ n1_; (try clear hb); (try clear hb2); (try clear hk); (try clear hi)))
 have n0_ := Aside0.mk (blk_drew BK199.out)
 have n1_ := Aside0.mk (below_drew1 HB.out)
 clear BK199
 clear HB
 have BK199 := n0_
 have HB := n1_
 clear n0_ n1_
 refine start_ (n := 9) (S := fun w' => True) (ds := []) #[false, false, false, false, false, false, false, false, false] (by kernel_rfl) rfl rfl trivial (fun hHeld => ?_); refine with_tabW impl_Circuit_delays.tab2 impl_Circuit_delays.bits2 (fun HT_ HW_ => ?_)
 generalize w12.drew = w13 at BK199 HB hHeld ⊢
 refine pure_ (i := 0) (N := some 20) (v := ?_) (a' := ?_) #[true, false, false, false, false, false, false, false, false] rfl rfl (any_of HT_.out (by kernel_rfl)) (fun _ _ _ h => h) (Or.inl ⟨by rfl, ?_⟩) ?_ ?_
 rotate_left
 ·intro w'
  go_simp
  with_reducible rfl
 rotate_left
 ·simp only [Act.put, List.setIfInBounds_toArray, List.set_cons_zero, List.set_cons_succ, i64_w, i32_w]
  rfl
 refine pure_ (i := 2) (N := some 22) (v := ?_) (a' := ?_) #[true, false, true, false, false, false, false, false, false] rfl rfl (any_of HT_.out (by kernel_rfl)) (fun _ _ _ h => h) (Or.inl ⟨by rfl, ?_⟩) ?_ ?_
 rotate_left
 ·intro w'
  go_simp
  with_reducible rfl
 rotate_left
 ·simp only [Act.put, List.setIfInBounds_toArray, List.set_cons_zero, List.set_cons_succ, i64_w, i32_w]
  rfl
 refine pure_ (i := 4) (N := some 24) (v := ?_) (a' := ?_) #[true, false, true, false, true, false, false, false, false] rfl rfl (any_of HT_.out (by kernel_rfl)) (fun _ _ _ h => h) (Or.inl ⟨by rfl, ?_⟩) ?_ ?_
 rotate_left
 ·intro w'
  go_simp
  with_reducible rfl
 rotate_left
 ·simp only [Act.put, List.setIfInBounds_toArray, List.set_cons_zero, List.set_cons_succ, i64_w, i32_w]
  rfl
 refine join_ (σ := Value × Value × Value) 1 #[true, true, true, true, true, true, true, true, false] (fun s_ => [(21, s_.1), (23, s_.2.1), (25, s_.2.2), (8, s_.1), (9, s_.2.1)]) (fun s_ w' => (Kd.R (Kd.int .i64) 2 w' w.heap.size (fun k_ => some k_ ≠ (s_.2.1 : Value).ownBlock) s_.1 y201) ∧ (Kd.R (Kd.int .i64) 2 w' w.heap.size (fun k_ => some k_ ≠ (s_.1 : Value).ownBlock) s_.2.1 y204) ∧ (Kd.R Kd.bool 4 w' w.heap.size (fun _ => True) s_.2.2 y207) ∧ (w'.heap[gb199]? = some (.cells #[.int .i64 a0_0, .slice A0_1 l0_1.length c0_1, .slice A0_2 l0_2.length c0_2, .int .i64 a0_3, .int .i64 a0_4, .int .i64 a0_5, .int .i64 a0_6] 27 (0, 0))) ∧ (Below w.heap.size w w')) ?_ ?_
 rotate_left
 ·intro hJ1_3_5
  refine join_ (σ := Value × Value) 2 #[true, true, true, true, true, false, true, true, false] (fun s_ => [(21, s_.1), (23, s_.2), (8, s_.1), (9, s_.2)]) (fun s_ w' => (Kd.R (Kd.int .i64) 2 w' w.heap.size (fun k_ => some k_ ≠ (s_.2 : Value).ownBlock) s_.1 y201) ∧ (Kd.R (Kd.int .i64) 2 w' w.heap.size (fun k_ => some k_ ≠ (s_.1 : Value).ownBlock) s_.2 y204) ∧ (w'.heap[gb199]? = some (.cells #[.int .i64 a0_0, .slice A0_1 l0_1.length c0_1, .slice A0_2 l0_2.length c0_2, .int .i64 a0_3, .int .i64 a0_4, .int .i64 a0_5, .int .i64 a0_6] 27 (0, 0))) ∧ (Below w.heap.size w w')) ?_ ?_
  rotate_left
  ·intro hJ1_3
   refine join_ (σ := Value × Value) 3 #[true, true, true, false, true, true, true, false, false] (fun s_ => [(21, s_.1), (25, s_.2), (8, s_.1)]) (fun s_ w' => (Kd.R (Kd.int .i64) 2 w' w.heap.size (fun _ => True) s_.1 y201) ∧ (Kd.R Kd.bool 4 w' w.heap.size (fun _ => True) s_.2 y207) ∧ (w'.heap[gb199]? = some (.cells #[.int .i64 a0_0, .slice A0_1 l0_1.length c0_1, .slice A0_2 l0_2.length c0_2, .int .i64 a0_3, .int .i64 a0_4, .int .i64 a0_5, .int .i64 a0_6] 27 (0, 0))) ∧ (Below w.heap.size w w')) ?_ ?_
   rotate_left
   ·intro hJ1_5
    refine join_ (σ := Value × Value) 4 #[true, false, true, true, true, true, false, false, false] (fun s_ => [(23, s_.1), (25, s_.2)]) (fun s_ w' => (Kd.R (Kd.int .i64) 2 w' w.heap.size (fun _ => True) s_.1 y204) ∧ (Kd.R Kd.bool 4 w' w.heap.size (fun _ => True) s_.2 y207) ∧ (w'.heap[gb199]? = some (.cells #[.int .i64 a0_0, .slice A0_1 l0_1.length c0_1, .slice A0_2 l0_2.length c0_2, .int .i64 a0_3, .int .i64 a0_4, .int .i64 a0_5, .int .i64 a0_6] 27 (0, 0))) ∧ (Below w.heap.size w w')) ?_ ?_
    rotate_left
    ·intro hJ3_5
     refine join_ (σ := Value) 4 #[true, true, true, false, true, false, true, false, false] (fun s_ => [(21, s_), (8, s_)]) (fun s_ w' => (Kd.R (Kd.int .i64) 2 w' w.heap.size (fun _ => True) s_ y201) ∧ (w'.heap[gb199]? = some (.cells #[.int .i64 a0_0, .slice A0_1 l0_1.length c0_1, .slice A0_2 l0_2.length c0_2, .int .i64 a0_3, .int .i64 a0_4, .int .i64 a0_5, .int .i64 a0_6] 27 (0, 0))) ∧ (Below w.heap.size w w')) ?_ ?_
     rotate_left
     ·intro hJ1
      refine join_ (σ := Value) 5 #[true, false, true, true, true, false, false, false, false] (fun s_ => [(23, s_)]) (fun s_ w' => (Kd.R (Kd.int .i64) 2 w' w.heap.size (fun _ => True) s_ y204) ∧ (w'.heap[gb199]? = some (.cells #[.int .i64 a0_0, .slice A0_1 l0_1.length c0_1, .slice A0_2 l0_2.length c0_2, .int .i64 a0_3, .int .i64 a0_4, .int .i64 a0_5, .int .i64 a0_6] 27 (0, 0))) ∧ (Below w.heap.size w w')) ?_ ?_
      rotate_left
      ·intro hJ3
       refine join_ (σ := Value) 5 #[true, false, true, false, true, true, false, false, false] (fun s_ => [(25, s_)]) (fun s_ w' => (Kd.R Kd.bool 4 w' w.heap.size (fun _ => True) s_ y207) ∧ (w'.heap[gb199]? = some (.cells #[.int .i64 a0_0, .slice A0_1 l0_1.length c0_1, .slice A0_2 l0_2.length c0_2, .int .i64 a0_3, .int .i64 a0_4, .int .i64 a0_5, .int .i64 a0_6] 27 (0, 0))) ∧ (Below w.heap.size w w')) ?_ ?_
       rotate_left
       ·intro hJ5
        refine three_ (i := 1) (j := 3) (k := 5) (Ni := some 21) (Nj := some 23) (Nk := some 25) #[true, true, true, false, true, false, false, false, false] #[true, false, true, true, true, false, false, false, false] #[true, false, true, false, true, true, false, false, false] rfl rfl rfl rfl rfl rfl (three_of HT_.out (by kernel_rfl)) (by decide) (by decide) (by decide) (fun K hK => ?_) (fun K hK => ?_) (fun K hK => ?_)
        ·skip
         refine Kd.R_make_step (Kd.int .i64) _ 2 (by rfl) (N := 21) rfl 25 _ _ rfl t200 rfl rfl Try.underlying25 (.int .i64 0) 8 info2 rfl (by decide) (by omega) 0 (ok := fun _ => True) (okp := fun _ => True) rfl (fun _ hk => hk) trivial (of_decide_eq_true (by with_reducible assumption)) (Nat.le_trans (Nat.mul_le_mul_right _ (of_decide_eq_true (by with_reducible assumption) : t200.toNat ≤ 35184372088832)) (by omega)) (Below.refl _ _) (Nat.le_refl _) ?_
         intro v202 w14 ho15 hb hg_ hnew_
         clear hg_ hnew_
         (first | rw [← Ny201.out] at ho15 | (simp only [Int.reduceToNat] at ho15; rw [← Ny201.out] at ho15))
         have n0_ := Aside0.mk (Kd.R_lower ho15 (below_size (by with_reducible repeat (first | exact HB.out | apply below_alloc | apply pw_below_drewN | apply below_drew1 | refine below_set ?_ GE199.out))))
         have n1_ := Aside0.mk (blk_below (g := gb199) (by (with_reducible repeat (first | refine blk_drewN ?_ _ | refine blk_drew ?_ | refine blk_alloc ?_ _)); exact BK199.out) hb)
         have n2_ := Aside0.mk (below_step (by with_reducible repeat (first | exact HB.out | apply below_alloc | apply pw_below_drewN | apply below_drew1 | refine below_set ?_ GE199.out)) hb)
         clear BK199
         clear HB
         have HO203 := n0_
         have BK199 := n1_
         have HB := n2_
         clear n0_ n1_ n2_
         clear hb ho15
         refine hK.out _ _ trivial (fun hHeld => ?_)
         clear hK K
         refine norm_ (a' := ?_) ?_ ?_
         rotate_left
         ·show Act.put _ (some 21) _ = _
          simp only [Act.put, List.setIfInBounds_toArray, List.set_cons_zero, List.set_cons_succ, i64_w, i32_w]
          rfl
         refine pure_ (i := 6) (N := some 8) (v := ?_) (a' := ?_) #[true, true, true, false, true, false, true, false, false] rfl rfl (any_of HT_.out (by kernel_rfl)) (fun _ _ _ h => h) (Or.inl ⟨by rfl, ?_⟩) ?_ ?_
         rotate_left
         ·intro w'
          go_simp
          with_reducible rfl
         rotate_left
         ·simp only [Act.put, List.setIfInBounds_toArray, List.set_cons_zero, List.set_cons_succ, i64_w, i32_w]
          rfl
         exact norm_ (by first | (simp only [putAll, Act.put, List.setIfInBounds_toArray, List.set_cons_zero, List.set_cons_succ]; done) | (simp only [putAll, Act.put, List.setIfInBounds_toArray, List.set_cons_zero, List.set_cons_succ]; rfl)) (hJ1 (v202) _ ⟨(by (with_reducible repeat (first | apply Kd.R_alloc | apply Kd.R_drewN | apply Kd.R_drew)); exact HO203.out), (by (with_reducible repeat (first | refine blk_drewN ?_ _ | refine blk_drew ?_ | refine blk_alloc ?_ _)); exact BK199.out), (by with_reducible repeat (first | exact HB.out | apply below_alloc | apply pw_below_drewN | apply below_drew1 | refine below_set ?_ GE199.out))⟩)
        ·skip
         refine Kd.R_make_step (Kd.int .i64) _ 2 (by rfl) (N := 23) rfl 25 _ _ rfl t200 rfl rfl Try.underlying25 (.int .i64 0) 8 info2 rfl (by decide) (by omega) 0 (ok := fun _ => True) (okp := fun _ => True) rfl (fun _ hk => hk) trivial (of_decide_eq_true (by with_reducible assumption)) (Nat.le_trans (Nat.mul_le_mul_right _ (of_decide_eq_true (by with_reducible assumption) : t200.toNat ≤ 35184372088832)) (by omega)) (Below.refl _ _) (Nat.le_refl _) ?_
         intro v205 w14 ho15 hb hg_ hnew_
         clear hg_ hnew_
         (first | rw [← Ny204.out] at ho15 | (simp only [Int.reduceToNat] at ho15; rw [← Ny204.out] at ho15))
         have n0_ := Aside0.mk (Kd.R_lower ho15 (below_size (by with_reducible repeat (first | exact HB.out | apply below_alloc | apply pw_below_drewN | apply below_drew1 | refine below_set ?_ GE199.out))))
         have n1_ := Aside0.mk (blk_below (g := gb199) (by (with_reducible repeat (first | refine blk_drewN ?_ _ | refine blk_drew ?_ | refine blk_alloc ?_ _)); exact BK199.out) hb)
         have n2_ := Aside0.mk (below_step (by with_reducible repeat (first | exact HB.out | apply below_alloc | apply pw_below_drewN | apply below_drew1 | refine below_set ?_ GE199.out)) hb)
         clear BK199
         clear HB
         have HO206 := n0_
         have BK199 := n1_
         have HB := n2_
         clear n0_ n1_ n2_
         clear hb ho15
         refine hK.out _ _ trivial (fun hHeld => ?_)
         clear hK K
         refine norm_ (a' := ?_) ?_ ?_
         rotate_left
         ·show Act.put _ (some 23) _ = _
          simp only [Act.put, List.setIfInBounds_toArray, List.set_cons_zero, List.set_cons_succ, i64_w, i32_w]
          rfl
         exact norm_ (by first | (simp only [putAll, Act.put, List.setIfInBounds_toArray, List.set_cons_zero, List.set_cons_succ]; done) | (simp only [putAll, Act.put, List.setIfInBounds_toArray, List.set_cons_zero, List.set_cons_succ]; rfl)) (hJ3 (v205) _ ⟨(by (with_reducible repeat (first | apply Kd.R_alloc | apply Kd.R_drewN | apply Kd.R_drew)); exact HO206.out), (by (with_reducible repeat (first | refine blk_drewN ?_ _ | refine blk_drew ?_ | refine blk_alloc ?_ _)); exact BK199.out), (by with_reducible repeat (first | exact HB.out | apply below_alloc | apply pw_below_drewN | apply below_drew1 | refine below_set ?_ GE199.out))⟩)
        ·skip
         refine Kd.R_make_step Kd.bool _ 4 (by rfl) (N := 25) rfl 76 _ _ rfl t200 rfl rfl Try.underlying76 (.bool false) 1 info4 rfl (by decide) (by omega) false (ok := fun _ => True) (okp := fun _ => True) rfl (fun _ hk => hk) trivial (of_decide_eq_true (by with_reducible assumption)) (Nat.le_trans (Nat.mul_le_mul_right _ (of_decide_eq_true (by with_reducible assumption) : t200.toNat ≤ 281474976710656)) (by omega)) (Below.refl _ _) (Nat.le_refl _) ?_
         intro v208 w14 ho15 hb hg_ hnew_
         clear hg_ hnew_
         (first | rw [← Ny207.out] at ho15 | (simp only [Int.reduceToNat] at ho15; rw [← Ny207.out] at ho15))
         have n0_ := Aside0.mk (Kd.R_lower ho15 (below_size (by with_reducible repeat (first | exact HB.out | apply below_alloc | apply pw_below_drewN | apply below_drew1 | refine below_set ?_ GE199.out))))
         have n1_ := Aside0.mk (blk_below (g := gb199) (by (with_reducible repeat (first | refine blk_drewN ?_ _ | refine blk_drew ?_ | refine blk_alloc ?_ _)); exact BK199.out) hb)
         have n2_ := Aside0.mk (below_step (by with_reducible repeat (first | exact HB.out | apply below_alloc | apply pw_below_drewN | apply below_drew1 | refine below_set ?_ GE199.out)) hb)
         clear BK199
         clear HB
         have HO209 := n0_
         have BK199 := n1_
         have HB := n2_
         clear n0_ n1_ n2_
         clear hb ho15
         refine hK.out _ _ trivial (fun hHeld => ?_)
         clear hK K
         refine norm_ (a' := ?_) ?_ ?_
         rotate_left
         ·show Act.put _ (some 25) _ = _
          simp only [Act.put, List.setIfInBounds_toArray, List.set_cons_zero, List.set_cons_succ, i64_w, i32_w]
          rfl
         exact norm_ (by first | (simp only [putAll, Act.put, List.setIfInBounds_toArray, List.set_cons_zero, List.set_cons_succ]; done) | (simp only [putAll, Act.put, List.setIfInBounds_toArray, List.set_cons_zero, List.set_cons_succ]; rfl)) (hJ5 (v208) _ ⟨(by (with_reducible repeat (first | apply Kd.R_alloc | apply Kd.R_drewN | apply Kd.R_drew)); exact HO209.out), (by (with_reducible repeat (first | refine blk_drewN ?_ _ | refine blk_drew ?_ | refine blk_alloc ?_ _)); exact BK199.out), (by with_reducible repeat (first | exact HB.out | apply below_alloc | apply pw_below_drewN | apply below_drew1 | refine below_set ?_ GE199.out))⟩)
       ·skip
        rintro v208 w16 ⟨h0_, h1_, h2_⟩
        have n0_ : Aside0 (Kd.R Kd.bool 4 w16 w.heap.size (fun _ => True) v208 y207) := ⟨h0_⟩
        have n1_ : Aside0 (w16.heap[gb199]? = some (.cells #[.int .i64 a0_0, .slice A0_1 l0_1.length c0_1, .slice A0_2 l0_2.length c0_2, .int .i64 a0_3, .int .i64 a0_4, .int .i64 a0_5, .int .i64 a0_6] 27 (0, 0))) := ⟨h1_⟩
        have n2_ : Aside0 (Below w.heap.size w w16) := ⟨h2_⟩
        clear BK199
        clear HB
        clear h0_ h1_ h2_
        have HO209 := n0_
        have BK199 := n1_
        have HB := n2_
        clear n0_ n1_ n2_
        have hHeld := trivial
        refine norm_ (a' := ?_) ?_ ?_
        rotate_left
        ·simp only [putAll, Act.put, List.setIfInBounds_toArray, List.set_cons_zero, List.set_cons_succ]
         rfl
        refine two_ (i := 1) (j := 3) (Ni := some 21) (Nj := some 23) #[true, true, true, false, true, true, false, false, false] #[true, false, true, true, true, true, false, false, false] rfl rfl rfl rfl (two_of HT_.out (by kernel_rfl)) (by decide) (by decide) (fun K hK => ?_) (fun K hK => ?_)
        ·skip
         refine Kd.R_make_step (Kd.int .i64) _ 2 (by rfl) (N := 21) rfl 25 _ _ rfl t200 rfl rfl Try.underlying25 (.int .i64 0) 8 info2 rfl (by decide) (by omega) 0 (ok := fun _ => True) (okp := fun _ => True) rfl (fun _ hk => hk) trivial (of_decide_eq_true (by with_reducible assumption)) (Nat.le_trans (Nat.mul_le_mul_right _ (of_decide_eq_true (by with_reducible assumption) : t200.toNat ≤ 35184372088832)) (by omega)) (Below.refl _ _) (Nat.le_refl _) ?_
         intro v202 w17 ho18 hb hg_ hnew_
         clear hg_ hnew_
         (first | rw [← Ny201.out] at ho18 | (simp only [Int.reduceToNat] at ho18; rw [← Ny201.out] at ho18))
         have n0_ := Aside0.mk (Kd.R_below (by (with_reducible repeat (first | apply Kd.R_alloc | apply Kd.R_drewN | apply Kd.R_drew)); exact HO209.out) hb)
         have n1_ := Aside0.mk (Kd.R_lower ho18 (below_size (by with_reducible repeat (first | exact HB.out | apply below_alloc | apply pw_below_drewN | apply below_drew1 | refine below_set ?_ GE199.out))))
         have n2_ := Aside0.mk (blk_below (g := gb199) (by (with_reducible repeat (first | refine blk_drewN ?_ _ | refine blk_drew ?_ | refine blk_alloc ?_ _)); exact BK199.out) hb)
         have n3_ := Aside0.mk (below_step (by with_reducible repeat (first | exact HB.out | apply below_alloc | apply pw_below_drewN | apply below_drew1 | refine below_set ?_ GE199.out)) hb)
         clear HO209
         clear BK199
         clear HB
         have HO209 := n0_
         have HO203 := n1_
         have BK199 := n2_
         have HB := n3_
         clear n0_ n1_ n2_ n3_
         clear hb ho18
         refine hK.out _ _ trivial (fun hHeld => ?_)
         clear hK K
         refine norm_ (a' := ?_) ?_ ?_
         rotate_left
         ·show Act.put _ (some 21) _ = _
          simp only [Act.put, List.setIfInBounds_toArray, List.set_cons_zero, List.set_cons_succ, i64_w, i32_w]
          rfl
         refine pure_ (i := 6) (N := some 8) (v := ?_) (a' := ?_) #[true, true, true, false, true, true, true, false, false] rfl rfl (any_of HT_.out (by kernel_rfl)) (fun _ _ _ h => h) (Or.inl ⟨by rfl, ?_⟩) ?_ ?_
         rotate_left
         ·intro w'
          go_simp
          with_reducible rfl
         rotate_left
         ·simp only [Act.put, List.setIfInBounds_toArray, List.set_cons_zero, List.set_cons_succ, i64_w, i32_w]
          rfl
         exact norm_ (by first | (simp only [putAll, Act.put, List.setIfInBounds_toArray, List.set_cons_zero, List.set_cons_succ]; done) | (simp only [putAll, Act.put, List.setIfInBounds_toArray, List.set_cons_zero, List.set_cons_succ]; rfl)) (hJ1_5 (v202, v208) _ ⟨(by (with_reducible repeat (first | apply Kd.R_alloc | apply Kd.R_drewN | apply Kd.R_drew)); exact HO203.out), (by (with_reducible repeat (first | apply Kd.R_alloc | apply Kd.R_drewN | apply Kd.R_drew)); exact HO209.out), (by (with_reducible repeat (first | refine blk_drewN ?_ _ | refine blk_drew ?_ | refine blk_alloc ?_ _)); exact BK199.out), (by with_reducible repeat (first | exact HB.out | apply below_alloc | apply pw_below_drewN | apply below_drew1 | refine below_set ?_ GE199.out))⟩)
        ·skip
         refine Kd.R_make_step (Kd.int .i64) _ 2 (by rfl) (N := 23) rfl 25 _ _ rfl t200 rfl rfl Try.underlying25 (.int .i64 0) 8 info2 rfl (by decide) (by omega) 0 (ok := fun _ => True) (okp := fun _ => True) rfl (fun _ hk => hk) trivial (of_decide_eq_true (by with_reducible assumption)) (Nat.le_trans (Nat.mul_le_mul_right _ (of_decide_eq_true (by with_reducible assumption) : t200.toNat ≤ 35184372088832)) (by omega)) (Below.refl _ _) (Nat.le_refl _) ?_
         intro v205 w17 ho18 hb hg_ hnew_
         clear hg_ hnew_
         (first | rw [← Ny204.out] at ho18 | (simp only [Int.reduceToNat] at ho18; rw [← Ny204.out] at ho18))
         have n0_ := Aside0.mk (Kd.R_below (by (with_reducible repeat (first | apply Kd.R_alloc | apply Kd.R_drewN | apply Kd.R_drew)); exact HO209.out) hb)
         have n1_ := Aside0.mk (Kd.R_lower ho18 (below_size (by with_reducible repeat (first | exact HB.out | apply below_alloc | apply pw_below_drewN | apply below_drew1 | refine below_set ?_ GE199.out))))
         have n2_ := Aside0.mk (blk_below (g := gb199) (by (with_reducible repeat (first | refine blk_drewN ?_ _ | refine blk_drew ?_ | refine blk_alloc ?_ _)); exact BK199.out) hb)
         have n3_ := Aside0.mk (below_step (by with_reducible repeat (first | exact HB.out | apply below_alloc | apply pw_below_drewN | apply below_drew1 | refine below_set ?_ GE199.out)) hb)
         clear HO209
         clear BK199
         clear HB
         have HO209 := n0_
         have HO206 := n1_
         have BK199 := n2_
         have HB := n3_
         clear n0_ n1_ n2_ n3_
         clear hb ho18
         refine hK.out _ _ trivial (fun hHeld => ?_)
         clear hK K
         refine norm_ (a' := ?_) ?_ ?_
         rotate_left
         ·show Act.put _ (some 23) _ = _
          simp only [Act.put, List.setIfInBounds_toArray, List.set_cons_zero, List.set_cons_succ, i64_w, i32_w]
          rfl
         exact norm_ (by first | (simp only [putAll, Act.put, List.setIfInBounds_toArray, List.set_cons_zero, List.set_cons_succ]; done) | (simp only [putAll, Act.put, List.setIfInBounds_toArray, List.set_cons_zero, List.set_cons_succ]; rfl)) (hJ3_5 (v205, v208) _ ⟨(by (with_reducible repeat (first | apply Kd.R_alloc | apply Kd.R_drewN | apply Kd.R_drew)); exact HO206.out), (by (with_reducible repeat (first | apply Kd.R_alloc | apply Kd.R_drewN | apply Kd.R_drew)); exact HO209.out), (by (with_reducible repeat (first | refine blk_drewN ?_ _ | refine blk_drew ?_ | refine blk_alloc ?_ _)); exact BK199.out), (by with_reducible repeat (first | exact HB.out | apply below_alloc | apply pw_below_drewN | apply below_drew1 | refine below_set ?_ GE199.out))⟩)
      ·skip
       rintro v205 w16 ⟨h0_, h1_, h2_⟩
       have n0_ : Aside0 (Kd.R (Kd.int .i64) 2 w16 w.heap.size (fun _ => True) v205 y204) := ⟨h0_⟩
       have n1_ : Aside0 (w16.heap[gb199]? = some (.cells #[.int .i64 a0_0, .slice A0_1 l0_1.length c0_1, .slice A0_2 l0_2.length c0_2, .int .i64 a0_3, .int .i64 a0_4, .int .i64 a0_5, .int .i64 a0_6] 27 (0, 0))) := ⟨h1_⟩
       have n2_ : Aside0 (Below w.heap.size w w16) := ⟨h2_⟩
       clear BK199
       clear HB
       clear h0_ h1_ h2_
       have HO206 := n0_
       have BK199 := n1_
       have HB := n2_
       clear n0_ n1_ n2_
       have hHeld := trivial
       refine norm_ (a' := ?_) ?_ ?_
       rotate_left
       ·simp only [putAll, Act.put, List.setIfInBounds_toArray, List.set_cons_zero, List.set_cons_succ]
        rfl
       refine two_ (i := 1) (j := 5) (Ni := some 21) (Nj := some 25) #[true, true, true, true, true, false, false, false, false] #[true, false, true, true, true, true, false, false, false] rfl rfl rfl rfl (two_of HT_.out (by kernel_rfl)) (by decide) (by decide) (fun K hK => ?_) (fun K hK => ?_)
       ·skip
        refine Kd.R_make_step (Kd.int .i64) _ 2 (by rfl) (N := 21) rfl 25 _ _ rfl t200 rfl rfl Try.underlying25 (.int .i64 0) 8 info2 rfl (by decide) (by omega) 0 (ok := fun _ => True) (okp := fun _ => True) rfl (fun _ hk => hk) trivial (of_decide_eq_true (by with_reducible assumption)) (Nat.le_trans (Nat.mul_le_mul_right _ (of_decide_eq_true (by with_reducible assumption) : t200.toNat ≤ 35184372088832)) (by omega)) (Below.refl _ _) (Nat.le_refl _) ?_
        intro v202 w17 ho18 hb hg_ hnew_
        clear hg_ hnew_
        (first | rw [← Ny201.out] at ho18 | (simp only [Int.reduceToNat] at ho18; rw [← Ny201.out] at ho18))
        have n0_ := Aside0.mk (Kd.R_elder' (by (with_reducible repeat (first | apply Kd.R_alloc | apply Kd.R_drewN | apply Kd.R_drew)); exact HO206.out) (Kd.R_base ho18) hb)
        have n1_ := Aside0.mk (Kd.R_lower (Kd.R_new' ho18 (Kd.R_lt (by (with_reducible repeat (first | apply Kd.R_alloc | apply Kd.R_drewN | apply Kd.R_drew)); exact HO206.out))) (below_size (by with_reducible repeat (first | exact HB.out | apply below_alloc | apply pw_below_drewN | apply below_drew1 | refine below_set ?_ GE199.out))))
        have n2_ := Aside0.mk (blk_below (g := gb199) (by (with_reducible repeat (first | refine blk_drewN ?_ _ | refine blk_drew ?_ | refine blk_alloc ?_ _)); exact BK199.out) hb)
        have n3_ := Aside0.mk (below_step (by with_reducible repeat (first | exact HB.out | apply below_alloc | apply pw_below_drewN | apply below_drew1 | refine below_set ?_ GE199.out)) hb)
        clear HO206
        clear BK199
        clear HB
        have HO206 := n0_
        have HO203 := n1_
        have BK199 := n2_
        have HB := n3_
        clear n0_ n1_ n2_ n3_
        clear hb ho18
        refine hK.out _ _ trivial (fun hHeld => ?_)
        clear hK K
        refine norm_ (a' := ?_) ?_ ?_
        rotate_left
        ·show Act.put _ (some 21) _ = _
         simp only [Act.put, List.setIfInBounds_toArray, List.set_cons_zero, List.set_cons_succ, i64_w, i32_w]
         rfl
        refine pure_ (i := 6) (N := some 8) (v := ?_) (a' := ?_) #[true, true, true, true, true, false, true, false, false] rfl rfl (any_of HT_.out (by kernel_rfl)) (fun _ _ _ h => h) (Or.inl ⟨by rfl, ?_⟩) ?_ ?_
        rotate_left
        ·intro w'
         go_simp
         with_reducible rfl
        rotate_left
        ·simp only [Act.put, List.setIfInBounds_toArray, List.set_cons_zero, List.set_cons_succ, i64_w, i32_w]
         rfl
        refine pure_ (i := 7) (N := some 9) (v := ?_) (a' := ?_) #[true, true, true, true, true, false, true, true, false] rfl rfl (any_of HT_.out (by kernel_rfl)) (fun _ _ _ h => h) (Or.inl ⟨by rfl, ?_⟩) ?_ ?_
        rotate_left
        ·intro w'
         go_simp
         with_reducible rfl
        rotate_left
        ·simp only [Act.put, List.setIfInBounds_toArray, List.set_cons_zero, List.set_cons_succ, i64_w, i32_w]
         rfl
        exact norm_ (by first | (simp only [putAll, Act.put, List.setIfInBounds_toArray, List.set_cons_zero, List.set_cons_succ]; done) | (simp only [putAll, Act.put, List.setIfInBounds_toArray, List.set_cons_zero, List.set_cons_succ]; rfl)) (hJ1_3 (v202, v205) _ ⟨(by (with_reducible repeat (first | apply Kd.R_alloc | apply Kd.R_drewN | apply Kd.R_drew)); exact Kd.R_mono HO203.out (fun _ hk => hk.2)), (by (with_reducible repeat (first | apply Kd.R_alloc | apply Kd.R_drewN | apply Kd.R_drew)); exact Kd.R_mono HO206.out (fun _ hk => hk.2)), (by (with_reducible repeat (first | refine blk_drewN ?_ _ | refine blk_drew ?_ | refine blk_alloc ?_ _)); exact BK199.out), (by with_reducible repeat (first | exact HB.out | apply below_alloc | apply pw_below_drewN | apply below_drew1 | refine below_set ?_ GE199.out))⟩)
       ·skip
        refine Kd.R_make_step Kd.bool _ 4 (by rfl) (N := 25) rfl 76 _ _ rfl t200 rfl rfl Try.underlying76 (.bool false) 1 info4 rfl (by decide) (by omega) false (ok := fun _ => True) (okp := fun _ => True) rfl (fun _ hk => hk) trivial (of_decide_eq_true (by with_reducible assumption)) (Nat.le_trans (Nat.mul_le_mul_right _ (of_decide_eq_true (by with_reducible assumption) : t200.toNat ≤ 281474976710656)) (by omega)) (Below.refl _ _) (Nat.le_refl _) ?_
        intro v208 w17 ho18 hb hg_ hnew_
        clear hg_ hnew_
        (first | rw [← Ny207.out] at ho18 | (simp only [Int.reduceToNat] at ho18; rw [← Ny207.out] at ho18))
        have n0_ := Aside0.mk (Kd.R_below (by (with_reducible repeat (first | apply Kd.R_alloc | apply Kd.R_drewN | apply Kd.R_drew)); exact HO206.out) hb)
        have n1_ := Aside0.mk (Kd.R_lower ho18 (below_size (by with_reducible repeat (first | exact HB.out | apply below_alloc | apply pw_below_drewN | apply below_drew1 | refine below_set ?_ GE199.out))))
        have n2_ := Aside0.mk (blk_below (g := gb199) (by (with_reducible repeat (first | refine blk_drewN ?_ _ | refine blk_drew ?_ | refine blk_alloc ?_ _)); exact BK199.out) hb)
        have n3_ := Aside0.mk (below_step (by with_reducible repeat (first | exact HB.out | apply below_alloc | apply pw_below_drewN | apply below_drew1 | refine below_set ?_ GE199.out)) hb)
        clear HO206
        clear BK199
        clear HB
        have HO206 := n0_
        have HO209 := n1_
        have BK199 := n2_
        have HB := n3_
        clear n0_ n1_ n2_ n3_
        clear hb ho18
        refine hK.out _ _ trivial (fun hHeld => ?_)
        clear hK K
        refine norm_ (a' := ?_) ?_ ?_
        rotate_left
        ·show Act.put _ (some 25) _ = _
         simp only [Act.put, List.setIfInBounds_toArray, List.set_cons_zero, List.set_cons_succ, i64_w, i32_w]
         rfl
        exact norm_ (by first | (simp only [putAll, Act.put, List.setIfInBounds_toArray, List.set_cons_zero, List.set_cons_succ]; done) | (simp only [putAll, Act.put, List.setIfInBounds_toArray, List.set_cons_zero, List.set_cons_succ]; rfl)) (hJ3_5 (v205, v208) _ ⟨(by (with_reducible repeat (first | apply Kd.R_alloc | apply Kd.R_drewN | apply Kd.R_drew)); exact HO206.out), (by (with_reducible repeat (first | apply Kd.R_alloc | apply Kd.R_drewN | apply Kd.R_drew)); exact HO209.out), (by (with_reducible repeat (first | refine blk_drewN ?_ _ | refine blk_drew ?_ | refine blk_alloc ?_ _)); exact BK199.out), (by with_reducible repeat (first | exact HB.out | apply below_alloc | apply pw_below_drewN | apply below_drew1 | refine below_set ?_ GE199.out))⟩)
     ·skip
      rintro v202 w16 ⟨h0_, h1_, h2_⟩
      have n0_ : Aside0 (Kd.R (Kd.int .i64) 2 w16 w.heap.size (fun _ => True) v202 y201) := ⟨h0_⟩
      have n1_ : Aside0 (w16.heap[gb199]? = some (.cells #[.int .i64 a0_0, .slice A0_1 l0_1.length c0_1, .slice A0_2 l0_2.length c0_2, .int .i64 a0_3, .int .i64 a0_4, .int .i64 a0_5, .int .i64 a0_6] 27 (0, 0))) := ⟨h1_⟩
      have n2_ : Aside0 (Below w.heap.size w w16) := ⟨h2_⟩
      clear BK199
      clear HB
      clear h0_ h1_ h2_
      have HO203 := n0_
      have BK199 := n1_
      have HB := n2_
      clear n0_ n1_ n2_
      have hHeld := trivial
      refine norm_ (a' := ?_) ?_ ?_
      rotate_left
      ·simp only [putAll, Act.put, List.setIfInBounds_toArray, List.set_cons_zero, List.set_cons_succ]
       rfl
      refine two_ (i := 3) (j := 5) (Ni := some 23) (Nj := some 25) #[true, true, true, true, true, false, true, false, false] #[true, true, true, false, true, true, true, false, false] rfl rfl rfl rfl (two_of HT_.out (by kernel_rfl)) (by decide) (by decide) (fun K hK => ?_) (fun K hK => ?_)
      ·skip
       refine Kd.R_make_step (Kd.int .i64) _ 2 (by rfl) (N := 23) rfl 25 _ _ rfl t200 rfl rfl Try.underlying25 (.int .i64 0) 8 info2 rfl (by decide) (by omega) 0 (ok := fun _ => True) (okp := fun _ => True) rfl (fun _ hk => hk) trivial (of_decide_eq_true (by with_reducible assumption)) (Nat.le_trans (Nat.mul_le_mul_right _ (of_decide_eq_true (by with_reducible assumption) : t200.toNat ≤ 35184372088832)) (by omega)) (Below.refl _ _) (Nat.le_refl _) ?_
       intro v205 w17 ho18 hb hg_ hnew_
       clear hg_ hnew_
       (first | rw [← Ny204.out] at ho18 | (simp only [Int.reduceToNat] at ho18; rw [← Ny204.out] at ho18))
       have n0_ := Aside0.mk (Kd.R_elder' (by (with_reducible repeat (first | apply Kd.R_alloc | apply Kd.R_drewN | apply Kd.R_drew)); exact HO203.out) (Kd.R_base ho18) hb)
       have n1_ := Aside0.mk (Kd.R_lower (Kd.R_new' ho18 (Kd.R_lt (by (with_reducible repeat (first | apply Kd.R_alloc | apply Kd.R_drewN | apply Kd.R_drew)); exact HO203.out))) (below_size (by with_reducible repeat (first | exact HB.out | apply below_alloc | apply pw_below_drewN | apply below_drew1 | refine below_set ?_ GE199.out))))
       have n2_ := Aside0.mk (blk_below (g := gb199) (by (with_reducible repeat (first | refine blk_drewN ?_ _ | refine blk_drew ?_ | refine blk_alloc ?_ _)); exact BK199.out) hb)
       have n3_ := Aside0.mk (below_step (by with_reducible repeat (first | exact HB.out | apply below_alloc | apply pw_below_drewN | apply below_drew1 | refine below_set ?_ GE199.out)) hb)
       clear HO203
       clear BK199
       clear HB
       have HO203 := n0_
       have HO206 := n1_
       have BK199 := n2_
       have HB := n3_
       clear n0_ n1_ n2_ n3_
       clear hb ho18
       refine hK.out _ _ trivial (fun hHeld => ?_)
       clear hK K
       refine norm_ (a' := ?_) ?_ ?_
       rotate_left
       ·show Act.put _ (some 23) _ = _
        simp only [Act.put, List.setIfInBounds_toArray, List.set_cons_zero, List.set_cons_succ, i64_w, i32_w]
        rfl
       refine pure_ (i := 7) (N := some 9) (v := ?_) (a' := ?_) #[true, true, true, true, true, false, true, true, false] rfl rfl (any_of HT_.out (by kernel_rfl)) (fun _ _ _ h => h) (Or.inl ⟨by rfl, ?_⟩) ?_ ?_
       rotate_left
       ·intro w'
        go_simp
        with_reducible rfl
       rotate_left
       ·simp only [Act.put, List.setIfInBounds_toArray, List.set_cons_zero, List.set_cons_succ, i64_w, i32_w]
        rfl
       exact norm_ (by first | (simp only [putAll, Act.put, List.setIfInBounds_toArray, List.set_cons_zero, List.set_cons_succ]; done) | (simp only [putAll, Act.put, List.setIfInBounds_toArray, List.set_cons_zero, List.set_cons_succ]; rfl)) (hJ1_3 (v202, v205) _ ⟨(by (with_reducible repeat (first | apply Kd.R_alloc | apply Kd.R_drewN | apply Kd.R_drew)); exact Kd.R_mono HO203.out (fun _ hk => hk.2)), (by (with_reducible repeat (first | apply Kd.R_alloc | apply Kd.R_drewN | apply Kd.R_drew)); exact Kd.R_mono HO206.out (fun _ hk => hk.2)), (by (with_reducible repeat (first | refine blk_drewN ?_ _ | refine blk_drew ?_ | refine blk_alloc ?_ _)); exact BK199.out), (by with_reducible repeat (first | exact HB.out | apply below_alloc | apply pw_below_drewN | apply below_drew1 | refine below_set ?_ GE199.out))⟩)
      ·skip
       refine Kd.R_make_step Kd.bool _ 4 (by rfl) (N := 25) rfl 76 _ _ rfl t200 rfl rfl Try.underlying76 (.bool false) 1 info4 rfl (by decide) (by omega) false (ok := fun _ => True) (okp := fun _ => True) rfl (fun _ hk => hk) trivial (of_decide_eq_true (by with_reducible assumption)) (Nat.le_trans (Nat.mul_le_mul_right _ (of_decide_eq_true (by with_reducible assumption) : t200.toNat ≤ 281474976710656)) (by omega)) (Below.refl _ _) (Nat.le_refl _) ?_
       intro v208 w17 ho18 hb hg_ hnew_
       clear hg_ hnew_
       (first | rw [← Ny207.out] at ho18 | (simp only [Int.reduceToNat] at ho18; rw [← Ny207.out] at ho18))
       have n0_ := Aside0.mk (Kd.R_below (by (with_reducible repeat (first | apply Kd.R_alloc | apply Kd.R_drewN | apply Kd.R_drew)); exact HO203.out) hb)
       have n1_ := Aside0.mk (Kd.R_lower ho18 (below_size (by with_reducible repeat (first | exact HB.out | apply below_alloc | apply pw_below_drewN | apply below_drew1 | refine below_set ?_ GE199.out))))
       have n2_ := Aside0.mk (blk_below (g := gb199) (by (with_reducible repeat (first | refine blk_drewN ?_ _ | refine blk_drew ?_ | refine blk_alloc ?_ _)); exact BK199.out) hb)
       have n3_ := Aside0.mk (below_step (by with_reducible repeat (first | exact HB.out | apply below_alloc | apply pw_below_drewN | apply below_drew1 | refine below_set ?_ GE199.out)) hb)
       clear HO203
       clear BK199
       clear HB
       have HO203 := n0_
       have HO209 := n1_
       have BK199 := n2_
       have HB := n3_
       clear n0_ n1_ n2_ n3_
       clear hb ho18
       refine hK.out _ _ trivial (fun hHeld => ?_)
       clear hK K
       refine norm_ (a' := ?_) ?_ ?_
       rotate_left
       ·show Act.put _ (some 25) _ = _
        simp only [Act.put, List.setIfInBounds_toArray, List.set_cons_zero, List.set_cons_succ, i64_w, i32_w]
        rfl
       exact norm_ (by first | (simp only [putAll, Act.put, List.setIfInBounds_toArray, List.set_cons_zero, List.set_cons_succ]; done) | (simp only [putAll, Act.put, List.setIfInBounds_toArray, List.set_cons_zero, List.set_cons_succ]; rfl)) (hJ1_5 (v202, v208) _ ⟨(by (with_reducible repeat (first | apply Kd.R_alloc | apply Kd.R_drewN | apply Kd.R_drew)); exact HO203.out), (by (with_reducible repeat (first | apply Kd.R_alloc | apply Kd.R_drewN | apply Kd.R_drew)); exact HO209.out), (by (with_reducible repeat (first | refine blk_drewN ?_ _ | refine blk_drew ?_ | refine blk_alloc ?_ _)); exact BK199.out), (by with_reducible repeat (first | exact HB.out | apply below_alloc | apply pw_below_drewN | apply below_drew1 | refine below_set ?_ GE199.out))⟩)
    ·skip
     rintro ⟨v205, v208⟩ w18 ⟨h0_, h1_, h2_, h3_⟩
     have n0_ : Aside0 (Kd.R (Kd.int .i64) 2 w18 w.heap.size (fun _ => True) v205 y204) := ⟨h0_⟩
     have n1_ : Aside0 (Kd.R Kd.bool 4 w18 w.heap.size (fun _ => True) v208 y207) := ⟨h1_⟩
     have n2_ : Aside0 (w18.heap[gb199]? = some (.cells #[.int .i64 a0_0, .slice A0_1 l0_1.length c0_1, .slice A0_2 l0_2.length c0_2, .int .i64 a0_3, .int .i64 a0_4, .int .i64 a0_5, .int .i64 a0_6] 27 (0, 0))) := ⟨h2_⟩
     have n3_ : Aside0 (Below w.heap.size w w18) := ⟨h3_⟩
     clear BK199
     clear HB
     clear h0_ h1_ h2_ h3_
     have HO206 := n0_
     have HO209 := n1_
     have BK199 := n2_
     have HB := n3_
     clear n0_ n1_ n2_ n3_
     have hHeld := trivial
     refine norm_ (a' := ?_) ?_ ?_
     rotate_left
     ·simp only [putAll, Act.put, List.setIfInBounds_toArray, List.set_cons_zero, List.set_cons_succ]
      rfl
     refine one_ (i := 1) (N := some 21) #[true, true, true, true, true, true, false, false, false] rfl rfl (one_of HT_.out (by kernel_rfl)) (by decide) (fun K hK => ?_)
     refine Kd.R_make_step (Kd.int .i64) _ 2 (by rfl) (N := 21) rfl 25 _ _ rfl t200 rfl rfl Try.underlying25 (.int .i64 0) 8 info2 rfl (by decide) (by omega) 0 (ok := fun _ => True) (okp := fun _ => True) rfl (fun _ hk => hk) trivial (of_decide_eq_true (by with_reducible assumption)) (Nat.le_trans (Nat.mul_le_mul_right _ (of_decide_eq_true (by with_reducible assumption) : t200.toNat ≤ 35184372088832)) (by omega)) (Below.refl _ _) (Nat.le_refl _) ?_
     intro v202 w19 ho20 hb hg_ hnew_
     clear hg_ hnew_
     (first | rw [← Ny201.out] at ho20 | (simp only [Int.reduceToNat] at ho20; rw [← Ny201.out] at ho20))
     have n0_ := Aside0.mk (Kd.R_elder' (by (with_reducible repeat (first | apply Kd.R_alloc | apply Kd.R_drewN | apply Kd.R_drew)); exact HO206.out) (Kd.R_base ho20) hb)
     have n1_ := Aside0.mk (Kd.R_below (by (with_reducible repeat (first | apply Kd.R_alloc | apply Kd.R_drewN | apply Kd.R_drew)); exact HO209.out) hb)
     have n2_ := Aside0.mk (Kd.R_lower (Kd.R_new' ho20 (Kd.R_lt (by (with_reducible repeat (first | apply Kd.R_alloc | apply Kd.R_drewN | apply Kd.R_drew)); exact HO206.out))) (below_size (by with_reducible repeat (first | exact HB.out | apply below_alloc | apply pw_below_drewN | apply below_drew1 | refine below_set ?_ GE199.out))))
     have n3_ := Aside0.mk (blk_below (g := gb199) (by (with_reducible repeat (first | refine blk_drewN ?_ _ | refine blk_drew ?_ | refine blk_alloc ?_ _)); exact BK199.out) hb)
     have n4_ := Aside0.mk (below_step (by with_reducible repeat (first | exact HB.out | apply below_alloc | apply pw_below_drewN | apply below_drew1 | refine below_set ?_ GE199.out)) hb)
     clear HO206
     clear HO209
     clear BK199
     clear HB
     have HO206 := n0_
     have HO209 := n1_
     have HO203 := n2_
     have BK199 := n3_
     have HB := n4_
     clear n0_ n1_ n2_ n3_ n4_
     clear hb ho20
     refine hK.out _ _ trivial (fun hHeld => ?_)
     clear hK K
     refine norm_ (a' := ?_) ?_ ?_
     rotate_left
     ·show Act.put _ (some 21) _ = _
      simp only [Act.put, List.setIfInBounds_toArray, List.set_cons_zero, List.set_cons_succ, i64_w, i32_w]
      rfl
     refine pure_ (i := 6) (N := some 8) (v := ?_) (a' := ?_) #[true, true, true, true, true, true, true, false, false] rfl rfl (any_of HT_.out (by kernel_rfl)) (fun _ _ _ h => h) (Or.inl ⟨by rfl, ?_⟩) ?_ ?_
     rotate_left
     ·intro w'
      go_simp
      with_reducible rfl
     rotate_left
     ·simp only [Act.put, List.setIfInBounds_toArray, List.set_cons_zero, List.set_cons_succ, i64_w, i32_w]
      rfl
     refine pure_ (i := 7) (N := some 9) (v := ?_) (a' := ?_) #[true, true, true, true, true, true, true, true, false] rfl rfl (any_of HT_.out (by kernel_rfl)) (fun _ _ _ h => h) (Or.inl ⟨by rfl, ?_⟩) ?_ ?_
     rotate_left
     ·intro w'
      go_simp
      with_reducible rfl
     rotate_left
     ·simp only [Act.put, List.setIfInBounds_toArray, List.set_cons_zero, List.set_cons_succ, i64_w, i32_w]
      rfl
     exact norm_ (by first | (simp only [putAll, Act.put, List.setIfInBounds_toArray, List.set_cons_zero, List.set_cons_succ]; done) | (simp only [putAll, Act.put, List.setIfInBounds_toArray, List.set_cons_zero, List.set_cons_succ]; rfl)) (hJ1_3_5 (v202, v205, v208) _ ⟨(by (with_reducible repeat (first | apply Kd.R_alloc | apply Kd.R_drewN | apply Kd.R_drew)); exact Kd.R_mono HO203.out (fun _ hk => hk.2)), (by (with_reducible repeat (first | apply Kd.R_alloc | apply Kd.R_drewN | apply Kd.R_drew)); exact Kd.R_mono HO206.out (fun _ hk => hk.2)), (by (with_reducible repeat (first | apply Kd.R_alloc | apply Kd.R_drewN | apply Kd.R_drew)); exact HO209.out), (by (with_reducible repeat (first | refine blk_drewN ?_ _ | refine blk_drew ?_ | refine blk_alloc ?_ _)); exact BK199.out), (by with_reducible repeat (first | exact HB.out | apply below_alloc | apply pw_below_drewN | apply below_drew1 | refine below_set ?_ GE199.out))⟩)
   ·skip
    rintro ⟨v202, v208⟩ w18 ⟨h0_, h1_, h2_, h3_⟩
    have n0_ : Aside0 (Kd.R (Kd.int .i64) 2 w18 w.heap.size (fun _ => True) v202 y201) := ⟨h0_⟩
    have n1_ : Aside0 (Kd.R Kd.bool 4 w18 w.heap.size (fun _ => True) v208 y207) := ⟨h1_⟩
    have n2_ : Aside0 (w18.heap[gb199]? = some (.cells #[.int .i64 a0_0, .slice A0_1 l0_1.length c0_1, .slice A0_2 l0_2.length c0_2, .int .i64 a0_3, .int .i64 a0_4, .int .i64 a0_5, .int .i64 a0_6] 27 (0, 0))) := ⟨h2_⟩
    have n3_ : Aside0 (Below w.heap.size w w18) := ⟨h3_⟩
    clear BK199
    clear HB
    clear h0_ h1_ h2_ h3_
    have HO203 := n0_
    have HO209 := n1_
    have BK199 := n2_
    have HB := n3_
    clear n0_ n1_ n2_ n3_
    have hHeld := trivial
    refine norm_ (a' := ?_) ?_ ?_
    rotate_left
    ·simp only [putAll, Act.put, List.setIfInBounds_toArray, List.set_cons_zero, List.set_cons_succ]
     rfl
    refine one_ (i := 3) (N := some 23) #[true, true, true, true, true, true, true, false, false] rfl rfl (one_of HT_.out (by kernel_rfl)) (by decide) (fun K hK => ?_)
    refine Kd.R_make_step (Kd.int .i64) _ 2 (by rfl) (N := 23) rfl 25 _ _ rfl t200 rfl rfl Try.underlying25 (.int .i64 0) 8 info2 rfl (by decide) (by omega) 0 (ok := fun _ => True) (okp := fun _ => True) rfl (fun _ hk => hk) trivial (of_decide_eq_true (by with_reducible assumption)) (Nat.le_trans (Nat.mul_le_mul_right _ (of_decide_eq_true (by with_reducible assumption) : t200.toNat ≤ 35184372088832)) (by omega)) (Below.refl _ _) (Nat.le_refl _) ?_
    intro v205 w19 ho20 hb hg_ hnew_
    clear hg_ hnew_
    (first | rw [← Ny204.out] at ho20 | (simp only [Int.reduceToNat] at ho20; rw [← Ny204.out] at ho20))
    have n0_ := Aside0.mk (Kd.R_elder' (by (with_reducible repeat (first | apply Kd.R_alloc | apply Kd.R_drewN | apply Kd.R_drew)); exact HO203.out) (Kd.R_base ho20) hb)
    have n1_ := Aside0.mk (Kd.R_below (by (with_reducible repeat (first | apply Kd.R_alloc | apply Kd.R_drewN | apply Kd.R_drew)); exact HO209.out) hb)
    have n2_ := Aside0.mk (Kd.R_lower (Kd.R_new' ho20 (Kd.R_lt (by (with_reducible repeat (first | apply Kd.R_alloc | apply Kd.R_drewN | apply Kd.R_drew)); exact HO203.out))) (below_size (by with_reducible repeat (first | exact HB.out | apply below_alloc | apply pw_below_drewN | apply below_drew1 | refine below_set ?_ GE199.out))))
    have n3_ := Aside0.mk (blk_below (g := gb199) (by (with_reducible repeat (first | refine blk_drewN ?_ _ | refine blk_drew ?_ | refine blk_alloc ?_ _)); exact BK199.out) hb)
    have n4_ := Aside0.mk (below_step (by with_reducible repeat (first | exact HB.out | apply below_alloc | apply pw_below_drewN | apply below_drew1 | refine below_set ?_ GE199.out)) hb)
    clear HO203
    clear HO209
    clear BK199
    clear HB
    have HO203 := n0_
    have HO209 := n1_
    have HO206 := n2_
    have BK199 := n3_
    have HB := n4_
    clear n0_ n1_ n2_ n3_ n4_
    clear hb ho20
    refine hK.out _ _ trivial (fun hHeld => ?_)
    clear hK K
    refine norm_ (a' := ?_) ?_ ?_
    rotate_left
    ·show Act.put _ (some 23) _ = _
     simp only [Act.put, List.setIfInBounds_toArray, List.set_cons_zero, List.set_cons_succ, i64_w, i32_w]
     rfl
    refine pure_ (i := 7) (N := some 9) (v := ?_) (a' := ?_) #[true, true, true, true, true, true, true, true, false] rfl rfl (any_of HT_.out (by kernel_rfl)) (fun _ _ _ h => h) (Or.inl ⟨by rfl, ?_⟩) ?_ ?_
    rotate_left
    ·intro w'
     go_simp
     with_reducible rfl
    rotate_left
    ·simp only [Act.put, List.setIfInBounds_toArray, List.set_cons_zero, List.set_cons_succ, i64_w, i32_w]
     rfl
    exact norm_ (by first | (simp only [putAll, Act.put, List.setIfInBounds_toArray, List.set_cons_zero, List.set_cons_succ]; done) | (simp only [putAll, Act.put, List.setIfInBounds_toArray, List.set_cons_zero, List.set_cons_succ]; rfl)) (hJ1_3_5 (v202, v205, v208) _ ⟨(by (with_reducible repeat (first | apply Kd.R_alloc | apply Kd.R_drewN | apply Kd.R_drew)); exact Kd.R_mono HO203.out (fun _ hk => hk.2)), (by (with_reducible repeat (first | apply Kd.R_alloc | apply Kd.R_drewN | apply Kd.R_drew)); exact Kd.R_mono HO206.out (fun _ hk => hk.2)), (by (with_reducible repeat (first | apply Kd.R_alloc | apply Kd.R_drewN | apply Kd.R_drew)); exact HO209.out), (by (with_reducible repeat (first | refine blk_drewN ?_ _ | refine blk_drew ?_ | refine blk_alloc ?_ _)); exact BK199.out), (by with_reducible repeat (first | exact HB.out | apply below_alloc | apply pw_below_drewN | apply below_drew1 | refine below_set ?_ GE199.out))⟩)
  ·skip
   rintro ⟨v202, v205⟩ w18 ⟨h0_, h1_, h2_, h3_⟩
   have n0_ : Aside0 (Kd.R (Kd.int .i64) 2 w18 w.heap.size (fun k_ => some k_ ≠ (v205 : Value).ownBlock) v202 y201) := ⟨h0_⟩
   have n1_ : Aside0 (Kd.R (Kd.int .i64) 2 w18 w.heap.size (fun k_ => some k_ ≠ (v202 : Value).ownBlock) v205 y204) := ⟨h1_⟩
   have n2_ : Aside0 (w18.heap[gb199]? = some (.cells #[.int .i64 a0_0, .slice A0_1 l0_1.length c0_1, .slice A0_2 l0_2.length c0_2, .int .i64 a0_3, .int .i64 a0_4, .int .i64 a0_5, .int .i64 a0_6] 27 (0, 0))) := ⟨h2_⟩
   have n3_ : Aside0 (Below w.heap.size w w18) := ⟨h3_⟩
   clear BK199
   clear HB
   clear h0_ h1_ h2_ h3_
   have HO203 := n0_
   have HO206 := n1_
   have BK199 := n2_
   have HB := n3_
   clear n0_ n1_ n2_ n3_
   have hHeld := trivial
   refine norm_ (a' := ?_) ?_ ?_
   rotate_left
   ·simp only [putAll, Act.put, List.setIfInBounds_toArray, List.set_cons_zero, List.set_cons_succ]
    rfl
   refine one_ (i := 5) (N := some 25) #[true, true, true, true, true, true, true, true, false] rfl rfl (one_of HT_.out (by kernel_rfl)) (by decide) (fun K hK => ?_)
   refine Kd.R_make_step Kd.bool _ 4 (by rfl) (N := 25) rfl 76 _ _ rfl t200 rfl rfl Try.underlying76 (.bool false) 1 info4 rfl (by decide) (by omega) false (ok := fun _ => True) (okp := fun _ => True) rfl (fun _ hk => hk) trivial (of_decide_eq_true (by with_reducible assumption)) (Nat.le_trans (Nat.mul_le_mul_right _ (of_decide_eq_true (by with_reducible assumption) : t200.toNat ≤ 281474976710656)) (by omega)) (Below.refl _ _) (Nat.le_refl _) ?_
   intro v208 w19 ho20 hb hg_ hnew_
   clear hg_ hnew_
   (first | rw [← Ny207.out] at ho20 | (simp only [Int.reduceToNat] at ho20; rw [← Ny207.out] at ho20))
   have n0_ := Aside0.mk (Kd.R_below (by (with_reducible repeat (first | apply Kd.R_alloc | apply Kd.R_drewN | apply Kd.R_drew)); exact HO203.out) hb)
   have n1_ := Aside0.mk (Kd.R_below (by (with_reducible repeat (first | apply Kd.R_alloc | apply Kd.R_drewN | apply Kd.R_drew)); exact HO206.out) hb)
   have n2_ := Aside0.mk (Kd.R_lower ho20 (below_size (by with_reducible repeat (first | exact HB.out | apply below_alloc | apply pw_below_drewN | apply below_drew1 | refine below_set ?_ GE199.out))))
   have n3_ := Aside0.mk (blk_below (g := gb199) (by (with_reducible repeat (first | refine blk_drewN ?_ _ | refine blk_drew ?_ | refine blk_alloc ?_ _)); exact BK199.out) hb)
   have n4_ := Aside0.mk (below_step (by with_reducible repeat (first | exact HB.out | apply below_alloc | apply pw_below_drewN | apply below_drew1 | refine below_set ?_ GE199.out)) hb)
   clear HO203
   clear HO206
   clear BK199
   clear HB
   have HO203 := n0_
   have HO206 := n1_
   have HO209 := n2_
   have BK199 := n3_
   have HB := n4_
   clear n0_ n1_ n2_ n3_ n4_
   clear hb ho20
   refine hK.out _ _ trivial (fun hHeld => ?_)
   clear hK K
   refine norm_ (a' := ?_) ?_ ?_
   rotate_left
   ·show Act.put _ (some 25) _ = _
    simp only [Act.put, List.setIfInBounds_toArray, List.set_cons_zero, List.set_cons_succ, i64_w, i32_w]
    rfl
   exact norm_ (by first | (simp only [putAll, Act.put, List.setIfInBounds_toArray, List.set_cons_zero, List.set_cons_succ]; done) | (simp only [putAll, Act.put, List.setIfInBounds_toArray, List.set_cons_zero, List.set_cons_succ]; rfl)) (hJ1_3_5 (v202, v205, v208) _ ⟨(by (with_reducible repeat (first | apply Kd.R_alloc | apply Kd.R_drewN | apply Kd.R_drew)); exact HO203.out), (by (with_reducible repeat (first | apply Kd.R_alloc | apply Kd.R_drewN | apply Kd.R_drew)); exact HO206.out), (by (with_reducible repeat (first | apply Kd.R_alloc | apply Kd.R_drewN | apply Kd.R_drew)); exact HO209.out), (by (with_reducible repeat (first | refine blk_drewN ?_ _ | refine blk_drew ?_ | refine blk_alloc ?_ _)); exact BK199.out), (by with_reducible repeat (first | exact HB.out | apply below_alloc | apply pw_below_drewN | apply below_drew1 | refine below_set ?_ GE199.out))⟩)
 rintro ⟨v202, v205, v208⟩ w20 ⟨h0_, h1_, h2_, h3_, h4_⟩
 have n0_ : Aside0 (Kd.R (Kd.int .i64) 2 w20 w.heap.size (fun k_ => some k_ ≠ (v205 : Value).ownBlock) v202 y201) := ⟨h0_⟩
 have n1_ : Aside0 (Kd.R (Kd.int .i64) 2 w20 w.heap.size (fun k_ => some k_ ≠ (v202 : Value).ownBlock) v205 y204) := ⟨h1_⟩
 have n2_ : Aside0 (Kd.R Kd.bool 4 w20 w.heap.size (fun _ => True) v208 y207) := ⟨h2_⟩
 have n3_ : Aside0 (w20.heap[gb199]? = some (.cells #[.int .i64 a0_0, .slice A0_1 l0_1.length c0_1, .slice A0_2 l0_2.length c0_2, .int .i64 a0_3, .int .i64 a0_4, .int .i64 a0_5, .int .i64 a0_6] 27 (0, 0))) := ⟨h3_⟩
 have n4_ : Aside0 (Below w.heap.size w w20) := ⟨h4_⟩
 clear BK199
 clear HB
 clear h0_ h1_ h2_ h3_ h4_
 have HO203 := n0_
 have HO206 := n1_
 have HO209 := n2_
 have BK199 := n3_
 have HB := n4_
 clear n0_ n1_ n2_ n3_ n4_
 have hHeld := trivial
 refine norm_ (a' := ?_) ?_ ?_
 rotate_left
 ·simp only [putAll, Act.put, List.setIfInBounds_toArray, List.set_cons_zero, List.set_cons_succ]
  rfl
 refine pure_ (i := 8) (N := some 10) (v := ?_) (a' := ?_) #[true, true, true, true, true, true, true, true, true] rfl rfl (any_of HT_.out (by kernel_rfl)) (fun _ _ _ h => h) (Or.inl ⟨by rfl, ?_⟩) ?_ ?_
 rotate_left
 ·intro w'
  go_simp
  with_reducible rfl
 rotate_left
 ·simp only [Act.put, List.setIfInBounds_toArray, List.set_cons_zero, List.set_cons_succ, i64_w, i32_w]
  rfl
 refine done_ (done_of HT_.out (by kernel_rfl)) ?_
 have p9 : 0 ≤ (a1 : Int) := of_decide_eq_true (by with_reducible assumption)
 have q9 : (a1 : Int) < ((y207.length : Int) : Int) := of_decide_eq_true (by with_reducible assumption)
 obtain ⟨go9, co9, eo9, gb9, gl9, cl9, HG9⟩ := Kd.R_form HO209.out (by omega)
 (first | cases eo9 | (injection eo9 with ea_ en_ ec_; (first | subst ea_ | (injection ea_ with ea_; subst ea_)); subst ec_; clear en_))
 have GB9 := Aside0.mk gb9
 have GG9 := Aside0.mk HG9
 clear gb9 gl9 HG9
 obtain ⟨hx9_0, hf9_0⟩ := Kd.R_celln false HO209.out (a1 : Int) p9 q9
 replace p9 := eq_true p9
 replace q9 := eq_true q9
 obtain ⟨hy21_, hz21_⟩ := Kd.R_celln false HO209.out (a1 : Int) (of_decide_eq_true (by with_reducible assumption)) (of_decide_eq_true (by with_reducible assumption))
 have HP21 := Kd.R_putg HO209.out (a1 : Int) true
 try go_wp2_with (first | ((with_reducible refine gate_store (t := 4) (p := 28) rfl ?_); refine store_event (t := 4) (p := 28) (v := ?vo_w22) (w1 := (w20.setCell ⟨go9, (a1 : Int).toNat, none⟩ (.bool true))) ?hg ?ho ?hn ?hr ?_; (case ho => rfl); (case hg => rfl); (case hn => rfl); (case hr => first | (go_simp; done) | (go_simp; rfl)); intro w22 hw; have hg : w20.grownBy w22 (some go9) := (by rw [hw]; exact HP21.2); have hp_ : Kd.R Kd.bool 4 w22 w.heap.size (fun _ => True) (.slice (some ⟨go9, 0, none⟩) y207.length co9) y210 := (by rw [hw, Ny210.out]; exact HP21.1); clear HP21; have n0_ := Aside0.mk (blk_grown (g := gb199) (by (with_reducible repeat (first | refine blk_drewN ?_ _ | refine blk_drew ?_ | refine blk_alloc ?_ _)); exact BK199.out) hg (Kd.R_ne HO209.out BK199.out (by decide))); have n1_ := Aside0.mk (Kd.R_over' (v := (.slice (some ⟨go9, 0, none⟩) y207.length co9)) (by (with_reducible repeat (first | apply Kd.R_alloc | apply Kd.R_drewN | apply Kd.R_drew)); exact HO203.out) (Kd.R_typed HO209.out) (by decide) hg); have n2_ := Aside0.mk (Kd.R_over' (v := (.slice (some ⟨go9, 0, none⟩) y207.length co9)) (by (with_reducible repeat (first | apply Kd.R_alloc | apply Kd.R_drewN | apply Kd.R_drew)); exact HO206.out) (Kd.R_typed HO209.out) (by decide) hg); have n3_ := Aside0.mk (hp_); have n4_ := Aside0.mk ((by rw [hw]; exact below_set (HB.out) GB9.out : Below w.heap.size w w22)); clear BK199; clear HO203; clear HO206; clear HO209; clear HB; have BK199 := n0_; have HO203 := n1_; have HO206 := n2_; have HO209 := n3_; have HB := n4_; clear n0_ n1_ n2_ n3_ n4_; clear hg hw hp_; have hcz23_0 : w22.cell? ⟨gb199, 0, none⟩ = some (.int .i64 a0_0) := (blk_cell BK199.out 0).trans rfl; have hcz23_1 : w22.cell? ⟨gb199, 1, none⟩ = some (.slice A0_1 l0_1.length c0_1) := (blk_cell BK199.out 1).trans rfl; have hcz23_2 : w22.cell? ⟨gb199, 2, none⟩ = some (.slice A0_2 l0_2.length c0_2) := (blk_cell BK199.out 2).trans rfl; have hcz23_3 : w22.cell? ⟨gb199, 3, none⟩ = some (.int .i64 a0_3) := (blk_cell BK199.out 3).trans rfl; have hcz23_4 : w22.cell? ⟨gb199, 4, none⟩ = some (.int .i64 a0_4) := (blk_cell BK199.out 4).trans rfl; have hcz23_5 : w22.cell? ⟨gb199, 5, none⟩ = some (.int .i64 a0_5) := (blk_cell BK199.out 5).trans rfl; have hcz23_6 : w22.cell? ⟨gb199, 6, none⟩ = some (.int .i64 a0_6) := (blk_cell BK199.out 6).trans rfl; have hfz23_0 := blk_frozen BK199.out 0; have hfz23_1 := blk_frozen BK199.out 1; have hfz23_2 := blk_frozen BK199.out 2; have hfz23_3 := blk_frozen BK199.out 3; have hfz23_4 := blk_frozen BK199.out 4; have hfz23_5 := blk_frozen BK199.out 5; have hfz23_6 := blk_frozen BK199.out 6))
 go_loopg [32] k (fun kq v32 w' => ∃ (x8_1 : List Int) (x9_1 : List Int) (x10_1 : List Bool) (x32_1 : Int), v32 = .int .i64 x32_1 ∧ Aside0 (impl_Circuit_delays.l0 kq x8_1 x9_1 x10_1 l0_1 (l0_1.length : Int) x32_1 a0_0 l0_1 l0_2 a0_3 a0_4 a0_5 a0_6 = some (r1, r2, r3)) ∧ Aside0 (kq ≤ k) ∧ Aside0 (Kd.R (Kd.int .i64) 2 w' w.heap.size (fun k_ => some k_ ≠ (v205 : Value).ownBlock) v202 x8_1) ∧ Aside0 (Kd.R (Kd.int .i64) 2 w' w.heap.size (fun k_ => some k_ ≠ (v202 : Value).ownBlock) v205 x9_1) ∧ Aside0 (Kd.R Kd.bool 4 w' w.heap.size (fun _ => True) (.slice (some ⟨go9, 0, none⟩) y207.length co9) x10_1) ∧ Aside0 (w'.heap[gb199]? = some (.cells #[.int .i64 a0_0, (.slice A0_1 l0_1.length c0_1), (.slice A0_2 l0_2.length c0_2), .int .i64 a0_3, .int .i64 a0_4, .int .i64 a0_5, .int .i64 a0_6] 27 (0, 0))) ∧ Aside0 (Below w.heap.size w w'))
 case atStart => exact ⟨(y201), (y204), (y210), (0), (by first | rfl | (simp; done) | (simp [*]; done)), H', ⟨Nat.le_refl _⟩, ⟨by (with_reducible repeat (first | apply Kd.R_alloc | apply Kd.R_drewN | apply Kd.R_drew)); exact HO203.out⟩, ⟨by (with_reducible repeat (first | apply Kd.R_alloc | apply Kd.R_drewN | apply Kd.R_drew)); exact HO206.out⟩, ⟨by (with_reducible repeat (first | apply Kd.R_alloc | apply Kd.R_drewN | apply Kd.R_drew)); exact HO209.out⟩, ⟨by (with_reducible repeat (first | refine blk_drewN ?_ _ | refine blk_drew ?_ | refine blk_alloc ?_ _)); exact BK199.out⟩, ⟨by with_reducible repeat (first | exact HB.out | apply below_alloc | apply pw_below_drewN | apply below_drew1 | refine below_set ?_ GE199.out)⟩⟩
 case round =>
  clear H'
  try clear c2
  try clear p2
  try clear c4
  try clear c8
  try clear c8b0
  try clear p9
  try clear q9
  try clear hx9
  try clear hf9
  try clear hcz11_0
  try clear hcz11_1
  try clear hcz11_2
  try clear hcz11_3
  try clear hcz11_4
  try clear hcz11_5
  try clear hcz11_6
  try clear hcz23_0
  try clear hcz23_1
  try clear hcz23_2
  try clear hcz23_3
  try clear hcz23_4
  try clear hcz23_5
  try clear hcz23_6
  try clear hfz11_0
  try clear hfz11_1
  try clear hfz11_2
  try clear hfz11_3
  try clear hfz11_4
  try clear hfz11_5
  try clear hfz11_6
  try clear hfz23_0
  try clear hfz23_1
  try clear hfz23_2
  try clear hfz23_3
  try clear hfz23_4
  try clear hfz23_5
  try clear hfz23_6
  try clear hx9_0
  try clear p9
  try clear q9
  obtain ⟨x8_1, x9_1, x10_1, x32_1, rfl, HA, HK1, HO_8, HO_9, HO_10, BK199, HB⟩ := hrel
  have hl10_1 := (Kd.R_reads' HO_10.out).1
  rw [hl10_1] at HO_10
  (try simp only [hl10_1])
  (try simp only [hl10_1] at BK199)
  (try simp only [hl10_1] at HO_8)
  (try simp only [hl10_1] at HO_9)
  cases gk with
  | zero => exact absurd HA.out (by simp [impl_Circuit_delays.l0])
  | succ k1 =>
   have H := HA.out
   clear HA
   simp only [impl_Circuit_delays.l0] at H
   by_cases c24 : x32_1 < (l0_1.length : Int)
   ·rw [if_pos c24] at H
    have c24b0 : decide (x32_1 < (l0_1.length : Int)) = true := decide_eq_true c24
    clear c24
    by_cases c25 : 0 ≤ x32_1
    case neg => rw [if_neg c25] at H; exact absurd H (by simp)
    rw [if_pos c25] at H
    have c25b0 : decide (0 ≤ x32_1) = true := decide_eq_true c25
    clear c25
    by_cases c26 : x32_1 < (l0_1.length : Int)
    case neg => rw [if_neg c26] at H; exact absurd H (by simp)
    rw [if_pos c26] at H
    have c26b0 : decide (x32_1 < (l0_1.length : Int)) = true := decide_eq_true c26
    clear c26
    have H' := Aside0.mk H
    clear H
    have p211 : 0 ≤ (x32_1 : Int) := of_decide_eq_true (by with_reducible assumption)
    have q211 : x32_1 < (l0_1.length : Int) := of_decide_eq_true (by with_reducible assumption)
    obtain ⟨ad211, A211_2, c211_2, e211, hx211_0, hx211_1, hx211_2, hl211_2, hi211_2⟩ := at_T36 HR0_1.out x32_1 p211 q211
    cases e211
    replace hx211_0 := (HB.out.cell (World.block_lt_of_cell? w _ hx211_0)).trans hx211_0
    replace hx211_1 := (HB.out.cell (World.block_lt_of_cell? w _ hx211_1)).trans hx211_1
    replace hx211_2 := (HB.out.cell (World.block_lt_of_cell? w _ hx211_2)).trans hx211_2
    have HR211_2 := Aside0.mk hi211_2
    have HC211_2 := Aside0.mk hl211_2
    clear hi211_2 hl211_2
    replace p211 := eq_true p211
    replace q211 := eq_true q211
    go_wp2_with (first | ((with_reducible refine gate_dst (N := 12) rfl ?_); refine box_event ?hg (N := 12) ?hd (cs := #[.int .i64 0, .int .i64 0, .slice none 0 0]) (t := 36) ?hr ?_; (case hd => rfl); (case hg => rfl); (case hr => first | (go_simp; done) | (go_simp; rfl)); intro gb212 hg w27 hbox hb; have n0_ := Aside0.mk (Kd.R_below (by (with_reducible repeat (first | apply Kd.R_alloc | apply Kd.R_drewN | apply Kd.R_drew)); exact HO_8.out) hb); have n1_ := Aside0.mk (Kd.R_below (by (with_reducible repeat (first | apply Kd.R_alloc | apply Kd.R_drewN | apply Kd.R_drew)); exact HO_9.out) hb); have n2_ := Aside0.mk (Kd.R_below (by (with_reducible repeat (first | apply Kd.R_alloc | apply Kd.R_drewN | apply Kd.R_drew)); exact HO_10.out) hb); have n3_ := Aside0.mk (blk_below (g := gb199) (by (with_reducible repeat (first | refine blk_drewN ?_ _ | refine blk_drew ?_ | refine blk_alloc ?_ _)); exact BK199.out) hb); have n4_ := Aside0.mk (below_step (by with_reducible repeat (first | exact HB.out | apply below_alloc | apply pw_below_drewN | apply below_drew1 | refine below_set ?_ GE199.out)) hb); have n5_ := Aside0.mk (hbox); have n6_ := Aside0.mk ((by rw [hg]; exact (below_size (by with_reducible repeat (first | exact HB.out | apply below_alloc | apply pw_below_drewN | apply below_drew1 | refine below_set ?_ GE199.out))) : w.heap.size ≤ gb212)); have n7_ := Aside0.mk ((by rw [hg]; exact (below_size (by with_reducible repeat (first | exact HB.out | apply below_alloc | apply pw_below_drewN | apply below_drew1 | refine below_set ?_ GE199.out))) : w.heap.size ≤ gb212)); have n8_ := Aside0.mk ((by rw [hg]; exact Nat.ne_of_lt (blk_lt (g := gb199) (by (with_reducible repeat (first | refine blk_drewN ?_ _ | refine blk_drew ?_ | refine blk_alloc ?_ _)); exact BK199.out)) : gb199 ≠ gb212)); have n9_ := Aside0.mk ((by rw [hg]; exact Nat.ne_of_gt (blk_lt (g := gb199) (by (with_reducible repeat (first | refine blk_drewN ?_ _ | refine blk_drew ?_ | refine blk_alloc ?_ _)); exact BK199.out)) : gb212 ≠ gb199)); clear HO_8; clear HO_9; clear HO_10; clear BK199; clear HB; have HO_8 := n0_; have HO_9 := n1_; have HO_10 := n2_; have BK199 := n3_; have HB := n4_; have BK212 := n5_; have GW212 := n6_; have GE212 := n7_; have NB199_212 := n8_; have NB212_199 := n9_; clear n0_ n1_ n2_ n3_ n4_ n5_ n6_ n7_ n8_ n9_; clear hb hbox hg; have hnb28 := NB212_199.out; have hnc28 := NB199_212.out; have hcz29_0 : w27.cell? ⟨gb212, 0, none⟩ = some (.int .i64 0) := (blk_cell BK212.out 0).trans rfl; have hcz29_1 : w27.cell? ⟨gb212, 1, none⟩ = some (.int .i64 0) := (blk_cell BK212.out 1).trans rfl; have hcz29_2 : w27.cell? ⟨gb212, 2, none⟩ = some (.slice none 0 0) := (blk_cell BK212.out 2).trans rfl; have hfz29_0 := blk_frozen BK212.out 0; have hfz29_1 := blk_frozen BK212.out 1; have hfz29_2 := blk_frozen BK212.out 2; have hcz30_0 : w27.cell? ⟨gb199, 0, none⟩ = some (.int .i64 a0_0) := (blk_cell BK199.out 0).trans rfl; have hcz30_1 : w27.cell? ⟨gb199, 1, none⟩ = some (.slice (some ad211) l0_1.length c0_1) := (blk_cell BK199.out 1).trans rfl; have hcz30_2 : w27.cell? ⟨gb199, 2, none⟩ = some (.slice A0_2 l0_2.length c0_2) := (blk_cell BK199.out 2).trans rfl; have hcz30_3 : w27.cell? ⟨gb199, 3, none⟩ = some (.int .i64 a0_3) := (blk_cell BK199.out 3).trans rfl; have hcz30_4 : w27.cell? ⟨gb199, 4, none⟩ = some (.int .i64 a0_4) := (blk_cell BK199.out 4).trans rfl; have hcz30_5 : w27.cell? ⟨gb199, 5, none⟩ = some (.int .i64 a0_5) := (blk_cell BK199.out 5).trans rfl; have hcz30_6 : w27.cell? ⟨gb199, 6, none⟩ = some (.int .i64 a0_6) := (blk_cell BK199.out 6).trans rfl; have hfz30_0 := blk_frozen BK199.out 0; have hfz30_1 := blk_frozen BK199.out 1; have hfz30_2 := blk_frozen BK199.out 2; have hfz30_3 := blk_frozen BK199.out 3; have hfz30_4 := blk_frozen BK199.out 4; have hfz30_5 := blk_frozen BK199.out 5; have hfz30_6 := blk_frozen BK199.out 6))
    go_loopg [44] k1 (fun kq v44 w' => ∃ (x8_2 : List Int) (x9_2 : List Int) (x10_2 : List Bool) (x44_2 : Int), v44 = .int .i64 x44_2 ∧ Aside0 (impl_Circuit_delays.l1 kq x8_2 x9_2 x10_2 (wrap64 (a0_0 + x32_1)) l0_1 (l0_1.length : Int) x32_1 ((rd_T36 l0_1 x32_1).f2) (((rd_T36 l0_1 x32_1).f2).length : Int) x44_2 a0_0 l0_1 l0_2 a0_3 a0_4 a0_5 a0_6 ((rd_T36 l0_1 x32_1).f0) ((rd_T36 l0_1 x32_1).f1) ((rd_T36 l0_1 x32_1).f2) = some (r1, r2, r3)) ∧ Aside0 (kq ≤ k1) ∧ Aside0 (Kd.R (Kd.int .i64) 2 w' w.heap.size (fun k_ => some k_ ≠ (v205 : Value).ownBlock) v202 x8_2) ∧ Aside0 (Kd.R (Kd.int .i64) 2 w' w.heap.size (fun k_ => some k_ ≠ (v202 : Value).ownBlock) v205 x9_2) ∧ Aside0 (Kd.R Kd.bool 4 w' w.heap.size (fun _ => True) (.slice (some ⟨go9, 0, none⟩) x10_1.length co9) x10_2) ∧ Aside0 (w'.heap[gb199]? = some (.cells #[.int .i64 a0_0, (.slice (some ad211) l0_1.length c0_1), (.slice A0_2 l0_2.length c0_2), .int .i64 a0_3, .int .i64 a0_4, .int .i64 a0_5, .int .i64 a0_6] 27 (0, 0))) ∧ Aside0 (w'.heap[gb212]? = some (.cells #[.int .i64 ((rd_T36 l0_1 x32_1).f0), .int .i64 ((rd_T36 l0_1 x32_1).f1), (.slice A211_2 ((rd_T36 l0_1 x32_1).f2).length c211_2)] 36 (0, 0))) ∧ Aside0 (Below w.heap.size w w'))
    case atStart => exact ⟨(x8_1), (x9_1), (x10_1), (0), (by first | rfl | (simp; done) | (simp [*]; done)), H', ⟨Nat.le_refl _⟩, ⟨by (try simp only [hl10_1]); (with_reducible repeat (first | apply Kd.R_alloc | apply Kd.R_drewN | apply Kd.R_drew)); exact Kd.R_mono (Kd.R_far (p := ⟨gb212, 2, none⟩) (Kd.R_far (p := ⟨gb212, 1, none⟩) (Kd.R_far (p := ⟨gb212, 0, none⟩) (Kd.R_types HO_8.out BK212.out (by decide)) (fun _ hk => hk.2) (.int .i64 ((rd_T36 l0_1 x32_1).f0))) (fun _ hk => hk.2) (.int .i64 ((rd_T36 l0_1 x32_1).f1))) (fun _ hk => hk.2) (.slice A211_2 ((rd_T36 l0_1 x32_1).f2).length c211_2)) (fun _ hk => hk.1)⟩, ⟨by (try simp only [hl10_1]); (with_reducible repeat (first | apply Kd.R_alloc | apply Kd.R_drewN | apply Kd.R_drew)); exact Kd.R_mono (Kd.R_far (p := ⟨gb212, 2, none⟩) (Kd.R_far (p := ⟨gb212, 1, none⟩) (Kd.R_far (p := ⟨gb212, 0, none⟩) (Kd.R_types HO_9.out BK212.out (by decide)) (fun _ hk => hk.2) (.int .i64 ((rd_T36 l0_1 x32_1).f0))) (fun _ hk => hk.2) (.int .i64 ((rd_T36 l0_1 x32_1).f1))) (fun _ hk => hk.2) (.slice A211_2 ((rd_T36 l0_1 x32_1).f2).length c211_2)) (fun _ hk => hk.1)⟩, ⟨by (try simp only [hl10_1]); (with_reducible repeat (first | apply Kd.R_alloc | apply Kd.R_drewN | apply Kd.R_drew)); exact Kd.R_mono (Kd.R_far (p := ⟨gb212, 2, none⟩) (Kd.R_far (p := ⟨gb212, 1, none⟩) (Kd.R_far (p := ⟨gb212, 0, none⟩) (Kd.R_types HO_10.out BK212.out (by decide)) (fun _ hk => hk.2) (.int .i64 ((rd_T36 l0_1 x32_1).f0))) (fun _ hk => hk.2) (.int .i64 ((rd_T36 l0_1 x32_1).f1))) (fun _ hk => hk.2) (.slice A211_2 ((rd_T36 l0_1 x32_1).f2).length c211_2)) (fun _ hk => trivial)⟩, ⟨by (try simp only [hl10_1]); (with_reducible repeat (first | refine blk_drewN ?_ _ | refine blk_drew ?_ | refine blk_alloc ?_ _)); refine blk_far ?_ NB199_212.out _; (with_reducible repeat (first | refine blk_drewN ?_ _ | refine blk_drew ?_ | refine blk_alloc ?_ _)); refine blk_far ?_ NB199_212.out _; (with_reducible repeat (first | refine blk_drewN ?_ _ | refine blk_drew ?_ | refine blk_alloc ?_ _)); refine blk_far ?_ NB199_212.out _; (with_reducible repeat (first | refine blk_drewN ?_ _ | refine blk_drew ?_ | refine blk_alloc ?_ _)); exact BK199.out⟩, ⟨by (try simp only [hl10_1]); (with_reducible repeat (first | refine blk_drewN ?_ _ | refine blk_drew ?_ | refine blk_alloc ?_ _)); refine blk_put (cs := #[.int .i64 ((rd_T36 l0_1 x32_1).f0), .int .i64 ((rd_T36 l0_1 x32_1).f1), .slice none 0 0]) ?_ 2 _ rfl; (with_reducible repeat (first | refine blk_drewN ?_ _ | refine blk_drew ?_ | refine blk_alloc ?_ _)); refine blk_put (cs := #[.int .i64 ((rd_T36 l0_1 x32_1).f0), .int .i64 0, .slice none 0 0]) ?_ 1 _ rfl; (with_reducible repeat (first | refine blk_drewN ?_ _ | refine blk_drew ?_ | refine blk_alloc ?_ _)); refine blk_put (cs := #[.int .i64 0, .int .i64 0, .slice none 0 0]) ?_ 0 _ rfl; (with_reducible repeat (first | refine blk_drewN ?_ _ | refine blk_drew ?_ | refine blk_alloc ?_ _)); exact BK212.out⟩, ⟨by with_reducible repeat (first | exact HB.out | apply below_alloc | apply pw_below_drewN | apply below_drew1 | refine below_set ?_ GE199.out | refine below_set ?_ GE212.out)⟩⟩
    case round =>
     clear H'
     try clear c2
     try clear p2
     try clear q2
     try clear hx2
     try clear c4
     try clear p6
     try clear c8
     try clear c8b0
     try clear p9
     try clear q9
     try clear hx9
     try clear hf9
     try clear c21
     try clear p21
     try clear q21
     try clear hx21
     try clear c24
     try clear c24b0
     try clear c25
     try clear c25b0
     try clear c26
     try clear c26b0
     try clear c28
     try clear hcz11_0
     try clear hcz11_1
     try clear hcz11_2
     try clear hcz11_3
     try clear hcz11_4
     try clear hcz11_5
     try clear hcz11_6
     try clear hcz23_0
     try clear hcz23_1
     try clear hcz23_2
     try clear hcz23_3
     try clear hcz23_4
     try clear hcz23_5
     try clear hcz23_6
     try clear hcz29_0
     try clear hcz29_1
     try clear hcz29_2
     try clear hcz30_0
     try clear hcz30_1
     try clear hcz30_2
     try clear hcz30_3
     try clear hcz30_4
     try clear hcz30_5
     try clear hcz30_6
     try clear hfz11_0
     try clear hfz11_1
     try clear hfz11_2
     try clear hfz11_3
     try clear hfz11_4
     try clear hfz11_5
     try clear hfz11_6
     try clear hfz23_0
     try clear hfz23_1
     try clear hfz23_2
     try clear hfz23_3
     try clear hfz23_4
     try clear hfz23_5
     try clear hfz23_6
     try clear hfz29_0
     try clear hfz29_1
     try clear hfz29_2
     try clear hfz30_0
     try clear hfz30_1
     try clear hfz30_2
     try clear hfz30_3
     try clear hfz30_4
     try clear hfz30_5
     try clear hfz30_6
     try clear hx211_0
     try clear hx211_1
     try clear hx211_2
     try clear hx9_0
     try clear p2
     try clear p211
     try clear p9
     try clear q211
     try clear q9
     obtain ⟨x8_2, x9_2, x10_2, x44_2, rfl, HA, HK2, HO_8, HO_9, HO_10, BK199, BK212, HB⟩ := hrel
     have hl10_2 := (Kd.R_reads' HO_10.out).1
     rw [hl10_2] at HO_10
     (try simp only [hl10_2])
     (try simp only [hl10_2] at BK199)
     (try simp only [hl10_2] at BK212)
     (try simp only [hl10_2] at HO_8)
     (try simp only [hl10_2] at HO_9)
     cases gk with
     | zero => exact absurd HA.out (by simp [impl_Circuit_delays.l1])
     | succ k2 =>
      have H := HA.out
      clear HA
      simp only [impl_Circuit_delays.l1] at H
      by_cases c31 : x44_2 < (((rd_T36 l0_1 x32_1).f2).length : Int)
      ·rw [if_pos c31] at H
       have c31b0 : decide (x44_2 < (((rd_T36 l0_1 x32_1).f2).length : Int)) = true := decide_eq_true c31
       clear c31
       by_cases c32 : 0 ≤ x44_2
       case neg => rw [if_neg c32] at H; exact absurd H (by simp)
       rw [if_pos c32] at H
       have c32b0 : decide (0 ≤ x44_2) = true := decide_eq_true c32
       clear c32
       by_cases c33 : x44_2 < (((rd_T36 l0_1 x32_1).f2).length : Int)
       case neg => rw [if_neg c33] at H; exact absurd H (by simp)
       rw [if_pos c33] at H
       have c33b0 : decide (x44_2 < (((rd_T36 l0_1 x32_1).f2).length : Int)) = true := decide_eq_true c33
       clear c33
       by_cases c34 : 0 ≤ (rd ((rd_T36 l0_1 x32_1).f2) x44_2)
       case neg => rw [if_neg c34] at H; exact absurd H (by simp)
       rw [if_pos c34] at H
       have c34b0 : decide (0 ≤ (rd ((rd_T36 l0_1 x32_1).f2) x44_2)) = true := decide_eq_true c34
       clear c34
       by_cases c35 : (rd ((rd_T36 l0_1 x32_1).f2) x44_2) < (x10_2.length : Int)
       case neg => rw [if_neg c35] at H; exact absurd H (by simp)
       rw [if_pos c35] at H
       have c35b0 : decide ((rd ((rd_T36 l0_1 x32_1).f2) x44_2) < (x10_2.length : Int)) = true := decide_eq_true c35
       clear c35
       obtain ⟨bq36, hbq36⟩ : ∃ b_ : Bool, b_ = (rdOf false x10_2 (rd ((rd_T36 l0_1 x32_1).f2) x44_2)) := ⟨_, rfl⟩
       replace H : (if (bq36 = true) then (if (rd ((rd_T36 l0_1 x32_1).f2) x44_2) < (x8_2.length : Int) then (if (rd ((rd_T36 l0_1 x32_1).f2) x44_2) < (x9_2.length : Int) then (if 0 ≤ (wrap64 (a0_0 + x32_1)) then (if (wrap64 (a0_0 + x32_1)) < (x10_2.length : Int) then (if rdOf false x10_2 (wrap64 (a0_0 + x32_1)) = true then (if (wrap64 (a0_0 + x32_1)) < (x8_2.length : Int) then (if (wrap64 (a0_0 + x32_1)) < (x9_2.length : Int) then (impl_Circuit_delays.l1 k2 (x8_2.set ((wrap64 (a0_0 + x32_1)) : Int).toNat (mn (rd x8_2 (wrap64 (a0_0 + x32_1))) (wrap64 ((rd x8_2 (rd ((rd_T36 l0_1 x32_1).f2) x44_2)) + ((rd_T36 l0_1 x32_1).f0))))) (x9_2.set ((wrap64 (a0_0 + x32_1)) : Int).toNat (mx (rd x9_2 (wrap64 (a0_0 + x32_1))) (wrap64 ((rd x9_2 (rd ((rd_T36 l0_1 x32_1).f2) x44_2)) + ((rd_T36 l0_1 x32_1).f1))))) x10_2 (wrap64 (a0_0 + x32_1)) l0_1 (l0_1.length : Int) x32_1 ((rd_T36 l0_1 x32_1).f2) (((rd_T36 l0_1 x32_1).f2).length : Int) (wrap64 (x44_2 + 1)) a0_0 l0_1 l0_2 a0_3 a0_4 a0_5 a0_6 ((rd_T36 l0_1 x32_1).f0) ((rd_T36 l0_1 x32_1).f1) ((rd_T36 l0_1 x32_1).f2)) else (none)) else (none)) else (if (wrap64 (a0_0 + x32_1)) < (x8_2.length : Int) then ((some (x8_2.set ((wrap64 (a0_0 + x32_1)) : Int).toNat (wrap64 ((rd x8_2 (rd ((rd_T36 l0_1 x32_1).f2) x44_2)) + ((rd_T36 l0_1 x32_1).f0))) : List Int)).bind fun y222 => (if (wrap64 (a0_0 + x32_1)) < (x9_2.length : Int) then ((some (x9_2.set ((wrap64 (a0_0 + x32_1)) : Int).toNat (wrap64 ((rd x9_2 (rd ((rd_T36 l0_1 x32_1).f2) x44_2)) + ((rd_T36 l0_1 x32_1).f1))) : List Int)).bind fun y223 => (impl_Circuit_delays.l1 k2 (y222.set ((wrap64 (a0_0 + x32_1)) : Int).toNat (mn (rd y222 (wrap64 (a0_0 + x32_1))) (wrap64 ((rd x8_2 (rd ((rd_T36 l0_1 x32_1).f2) x44_2)) + ((rd_T36 l0_1 x32_1).f0))))) (y223.set ((wrap64 (a0_0 + x32_1)) : Int).toNat (mx (rd y223 (wrap64 (a0_0 + x32_1))) (wrap64 ((rd x9_2 (rd ((rd_T36 l0_1 x32_1).f2) x44_2)) + ((rd_T36 l0_1 x32_1).f1))))) (x10_2.set ((wrap64 (a0_0 + x32_1)) : Int).toNat true) (wrap64 (a0_0 + x32_1)) l0_1 (l0_1.length : Int) x32_1 ((rd_T36 l0_1 x32_1).f2) (((rd_T36 l0_1 x32_1).f2).length : Int) (wrap64 (x44_2 + 1)) a0_0 l0_1 l0_2 a0_3 a0_4 a0_5 a0_6 ((rd_T36 l0_1 x32_1).f0) ((rd_T36 l0_1 x32_1).f1) ((rd_T36 l0_1 x32_1).f2))) else (none))) else (none))) else (none)) else (none)) else (none)) else (none)) else (impl_Circuit_delays.l1 k2 x8_2 x9_2 x10_2 (wrap64 (a0_0 + x32_1)) l0_1 (l0_1.length : Int) x32_1 ((rd_T36 l0_1 x32_1).f2) (((rd_T36 l0_1 x32_1).f2).length : Int) (wrap64 (x44_2 + 1)) a0_0 l0_1 l0_2 a0_3 a0_4 a0_5 a0_6 ((rd_T36 l0_1 x32_1).f0) ((rd_T36 l0_1 x32_1).f1) ((rd_T36 l0_1 x32_1).f2))) = some (r1, r2, r3) := by rw [← hbq36] at H; exact H
       have Nbq36 := Aside0.mk hbq36
       clear hbq36
       by_cases c37 : (bq36 = true)
       ·subst c37
        have H1 : (if (rd ((rd_T36 l0_1 x32_1).f2) x44_2) < (x8_2.length : Int) then (if (rd ((rd_T36 l0_1 x32_1).f2) x44_2) < (x9_2.length : Int) then (if 0 ≤ (wrap64 (a0_0 + x32_1)) then (if (wrap64 (a0_0 + x32_1)) < (x10_2.length : Int) then (if rdOf false x10_2 (wrap64 (a0_0 + x32_1)) = true then (if (wrap64 (a0_0 + x32_1)) < (x8_2.length : Int) then (if (wrap64 (a0_0 + x32_1)) < (x9_2.length : Int) then (impl_Circuit_delays.l1 k2 (x8_2.set ((wrap64 (a0_0 + x32_1)) : Int).toNat (mn (rd x8_2 (wrap64 (a0_0 + x32_1))) (wrap64 ((rd x8_2 (rd ((rd_T36 l0_1 x32_1).f2) x44_2)) + ((rd_T36 l0_1 x32_1).f0))))) (x9_2.set ((wrap64 (a0_0 + x32_1)) : Int).toNat (mx (rd x9_2 (wrap64 (a0_0 + x32_1))) (wrap64 ((rd x9_2 (rd ((rd_T36 l0_1 x32_1).f2) x44_2)) + ((rd_T36 l0_1 x32_1).f1))))) x10_2 (wrap64 (a0_0 + x32_1)) l0_1 (l0_1.length : Int) x32_1 ((rd_T36 l0_1 x32_1).f2) (((rd_T36 l0_1 x32_1).f2).length : Int) (wrap64 (x44_2 + 1)) a0_0 l0_1 l0_2 a0_3 a0_4 a0_5 a0_6 ((rd_T36 l0_1 x32_1).f0) ((rd_T36 l0_1 x32_1).f1) ((rd_T36 l0_1 x32_1).f2)) else (none)) else (none)) else (if (wrap64 (a0_0 + x32_1)) < (x8_2.length : Int) then ((some (x8_2.set ((wrap64 (a0_0 + x32_1)) : Int).toNat (wrap64 ((rd x8_2 (rd ((rd_T36 l0_1 x32_1).f2) x44_2)) + ((rd_T36 l0_1 x32_1).f0))) : List Int)).bind fun y222 => (if (wrap64 (a0_0 + x32_1)) < (x9_2.length : Int) then ((some (x9_2.set ((wrap64 (a0_0 + x32_1)) : Int).toNat (wrap64 ((rd x9_2 (rd ((rd_T36 l0_1 x32_1).f2) x44_2)) + ((rd_T36 l0_1 x32_1).f1))) : List Int)).bind fun y223 => (impl_Circuit_delays.l1 k2 (y222.set ((wrap64 (a0_0 + x32_1)) : Int).toNat (mn (rd y222 (wrap64 (a0_0 + x32_1))) (wrap64 ((rd x8_2 (rd ((rd_T36 l0_1 x32_1).f2) x44_2)) + ((rd_T36 l0_1 x32_1).f0))))) (y223.set ((wrap64 (a0_0 + x32_1)) : Int).toNat (mx (rd y223 (wrap64 (a0_0 + x32_1))) (wrap64 ((rd x9_2 (rd ((rd_T36 l0_1 x32_1).f2) x44_2)) + ((rd_T36 l0_1 x32_1).f1))))) (x10_2.set ((wrap64 (a0_0 + x32_1)) : Int).toNat true) (wrap64 (a0_0 + x32_1)) l0_1 (l0_1.length : Int) x32_1 ((rd_T36 l0_1 x32_1).f2) (((rd_T36 l0_1 x32_1).f2).length : Int) (wrap64 (x44_2 + 1)) a0_0 l0_1 l0_2 a0_3 a0_4 a0_5 a0_6 ((rd_T36 l0_1 x32_1).f0) ((rd_T36 l0_1 x32_1).f1) ((rd_T36 l0_1 x32_1).f2))) else (none))) else (none))) else (none)) else (none)) else (none)) else (none)) = some (r1, r2, r3) := by rw [if_pos rfl] at H; exact H
        clear H
        have H := H1
        clear H1
        by_cases c38 : (rd ((rd_T36 l0_1 x32_1).f2) x44_2) < (x8_2.length : Int)
        case neg => rw [if_neg c38] at H; exact absurd H (by simp)
        rw [if_pos c38] at H
        have c38b0 : decide ((rd ((rd_T36 l0_1 x32_1).f2) x44_2) < (x8_2.length : Int)) = true := decide_eq_true c38
        clear c38
        by_cases c39 : (rd ((rd_T36 l0_1 x32_1).f2) x44_2) < (x9_2.length : Int)
        case neg => rw [if_neg c39] at H; exact absurd H (by simp)
        rw [if_pos c39] at H
        have c39b0 : decide ((rd ((rd_T36 l0_1 x32_1).f2) x44_2) < (x9_2.length : Int)) = true := decide_eq_true c39
        clear c39
        obtain ⟨ji40, hji40⟩ : ∃ j_ : Int, (wrap64 (a0_0 + x32_1)) = j_ := ⟨_, rfl⟩
        replace H : (if 0 ≤ (ji40) then (if (ji40) < (x10_2.length : Int) then (if rdOf false x10_2 (ji40) = true then (if (ji40) < (x8_2.length : Int) then (if (ji40) < (x9_2.length : Int) then (impl_Circuit_delays.l1 k2 (x8_2.set ((ji40) : Int).toNat (mn (rd x8_2 (ji40)) (wrap64 ((rd x8_2 (rd ((rd_T36 l0_1 x32_1).f2) x44_2)) + ((rd_T36 l0_1 x32_1).f0))))) (x9_2.set ((ji40) : Int).toNat (mx (rd x9_2 (ji40)) (wrap64 ((rd x9_2 (rd ((rd_T36 l0_1 x32_1).f2) x44_2)) + ((rd_T36 l0_1 x32_1).f1))))) x10_2 (ji40) l0_1 (l0_1.length : Int) x32_1 ((rd_T36 l0_1 x32_1).f2) (((rd_T36 l0_1 x32_1).f2).length : Int) (wrap64 (x44_2 + 1)) a0_0 l0_1 l0_2 a0_3 a0_4 a0_5 a0_6 ((rd_T36 l0_1 x32_1).f0) ((rd_T36 l0_1 x32_1).f1) ((rd_T36 l0_1 x32_1).f2)) else (none)) else (none)) else (if (ji40) < (x8_2.length : Int) then ((some (x8_2.set ((ji40) : Int).toNat (wrap64 ((rd x8_2 (rd ((rd_T36 l0_1 x32_1).f2) x44_2)) + ((rd_T36 l0_1 x32_1).f0))) : List Int)).bind fun y222 => (if (ji40) < (x9_2.length : Int) then ((some (x9_2.set ((ji40) : Int).toNat (wrap64 ((rd x9_2 (rd ((rd_T36 l0_1 x32_1).f2) x44_2)) + ((rd_T36 l0_1 x32_1).f1))) : List Int)).bind fun y223 => (impl_Circuit_delays.l1 k2 (y222.set ((ji40) : Int).toNat (mn (rd y222 (ji40)) (wrap64 ((rd x8_2 (rd ((rd_T36 l0_1 x32_1).f2) x44_2)) + ((rd_T36 l0_1 x32_1).f0))))) (y223.set ((ji40) : Int).toNat (mx (rd y223 (ji40)) (wrap64 ((rd x9_2 (rd ((rd_T36 l0_1 x32_1).f2) x44_2)) + ((rd_T36 l0_1 x32_1).f1))))) (x10_2.set ((ji40) : Int).toNat true) (ji40) l0_1 (l0_1.length : Int) x32_1 ((rd_T36 l0_1 x32_1).f2) (((rd_T36 l0_1 x32_1).f2).length : Int) (wrap64 (x44_2 + 1)) a0_0 l0_1 l0_2 a0_3 a0_4 a0_5 a0_6 ((rd_T36 l0_1 x32_1).f0) ((rd_T36 l0_1 x32_1).f1) ((rd_T36 l0_1 x32_1).f2))) else (none))) else (none))) else (none)) else (none)) = some (r1, r2, r3) := by first | (rw [hji40] at H; exact H) | (simp only [hji40] at H ⊢; exact H)
        have hji40w : (IntKind.i64.wrap (a0_0 + x32_1)) = ji40 := (i64_w _).trans hji40
        by_cases c41 : 0 ≤ (ji40)
        case neg => rw [if_neg c41] at H; exact absurd H (by simp)
        rw [if_pos c41] at H
        have c41b0 : decide (0 ≤ (ji40)) = true := decide_eq_true c41
        clear c41
        by_cases c42 : (ji40) < (x10_2.length : Int)
        case neg => rw [if_neg c42] at H; exact absurd H (by simp)
        rw [if_pos c42] at H
        have c42b0 : decide ((ji40) < (x10_2.length : Int)) = true := decide_eq_true c42
        clear c42
        obtain ⟨bq43, hbq43⟩ : ∃ b_ : Bool, b_ = (rdOf false x10_2 (ji40)) := ⟨_, rfl⟩
        replace H : (if bq43 = true then (if (ji40) < (x8_2.length : Int) then (if (ji40) < (x9_2.length : Int) then (impl_Circuit_delays.l1 k2 (x8_2.set ((ji40) : Int).toNat (mn (rd x8_2 (ji40)) (wrap64 ((rd x8_2 (rd ((rd_T36 l0_1 x32_1).f2) x44_2)) + ((rd_T36 l0_1 x32_1).f0))))) (x9_2.set ((ji40) : Int).toNat (mx (rd x9_2 (ji40)) (wrap64 ((rd x9_2 (rd ((rd_T36 l0_1 x32_1).f2) x44_2)) + ((rd_T36 l0_1 x32_1).f1))))) x10_2 (ji40) l0_1 (l0_1.length : Int) x32_1 ((rd_T36 l0_1 x32_1).f2) (((rd_T36 l0_1 x32_1).f2).length : Int) (wrap64 (x44_2 + 1)) a0_0 l0_1 l0_2 a0_3 a0_4 a0_5 a0_6 ((rd_T36 l0_1 x32_1).f0) ((rd_T36 l0_1 x32_1).f1) ((rd_T36 l0_1 x32_1).f2)) else (none)) else (none)) else (if (ji40) < (x8_2.length : Int) then ((some (x8_2.set ((ji40) : Int).toNat (wrap64 ((rd x8_2 (rd ((rd_T36 l0_1 x32_1).f2) x44_2)) + ((rd_T36 l0_1 x32_1).f0))) : List Int)).bind fun y222 => (if (ji40) < (x9_2.length : Int) then ((some (x9_2.set ((ji40) : Int).toNat (wrap64 ((rd x9_2 (rd ((rd_T36 l0_1 x32_1).f2) x44_2)) + ((rd_T36 l0_1 x32_1).f1))) : List Int)).bind fun y223 => (impl_Circuit_delays.l1 k2 (y222.set ((ji40) : Int).toNat (mn (rd y222 (ji40)) (wrap64 ((rd x8_2 (rd ((rd_T36 l0_1 x32_1).f2) x44_2)) + ((rd_T36 l0_1 x32_1).f0))))) (y223.set ((ji40) : Int).toNat (mx (rd y223 (ji40)) (wrap64 ((rd x9_2 (rd ((rd_T36 l0_1 x32_1).f2) x44_2)) + ((rd_T36 l0_1 x32_1).f1))))) (x10_2.set ((ji40) : Int).toNat true) (ji40) l0_1 (l0_1.length : Int) x32_1 ((rd_T36 l0_1 x32_1).f2) (((rd_T36 l0_1 x32_1).f2).length : Int) (wrap64 (x44_2 + 1)) a0_0 l0_1 l0_2 a0_3 a0_4 a0_5 a0_6 ((rd_T36 l0_1 x32_1).f0) ((rd_T36 l0_1 x32_1).f1) ((rd_T36 l0_1 x32_1).f2))) else (none))) else (none))) = some (r1, r2, r3) := by rw [← hbq43] at H; exact H
        have Nbq43 := Aside0.mk hbq43
        clear hbq43
        by_cases c44 : bq43 = true
        ·subst c44
         have H1 : (if (ji40) < (x8_2.length : Int) then (if (ji40) < (x9_2.length : Int) then (impl_Circuit_delays.l1 k2 (x8_2.set ((ji40) : Int).toNat (mn (rd x8_2 (ji40)) (wrap64 ((rd x8_2 (rd ((rd_T36 l0_1 x32_1).f2) x44_2)) + ((rd_T36 l0_1 x32_1).f0))))) (x9_2.set ((ji40) : Int).toNat (mx (rd x9_2 (ji40)) (wrap64 ((rd x9_2 (rd ((rd_T36 l0_1 x32_1).f2) x44_2)) + ((rd_T36 l0_1 x32_1).f1))))) x10_2 (ji40) l0_1 (l0_1.length : Int) x32_1 ((rd_T36 l0_1 x32_1).f2) (((rd_T36 l0_1 x32_1).f2).length : Int) (wrap64 (x44_2 + 1)) a0_0 l0_1 l0_2 a0_3 a0_4 a0_5 a0_6 ((rd_T36 l0_1 x32_1).f0) ((rd_T36 l0_1 x32_1).f1) ((rd_T36 l0_1 x32_1).f2)) else (none)) else (none)) = some (r1, r2, r3) := by rw [if_pos rfl] at H; exact H
         clear H
         have H := H1
         clear H1
         by_cases c45 : (ji40) < (x8_2.length : Int)
         case neg => rw [if_neg c45] at H; exact absurd H (by simp)
         rw [if_pos c45] at H
         have c45b0 : decide ((ji40) < (x8_2.length : Int)) = true := decide_eq_true c45
         clear c45
         obtain ⟨ji46, hji46⟩ : ∃ j_ : Int, (mn (rd x8_2 (ji40)) (wrap64 ((rd x8_2 (rd ((rd_T36 l0_1 x32_1).f2) x44_2)) + ((rd_T36 l0_1 x32_1).f0)))) = j_ := ⟨_, rfl⟩
         replace H : (if (ji40) < (x9_2.length : Int) then (impl_Circuit_delays.l1 k2 (x8_2.set ((ji40) : Int).toNat (ji46)) (x9_2.set ((ji40) : Int).toNat (mx (rd x9_2 (ji40)) (wrap64 ((rd x9_2 (rd ((rd_T36 l0_1 x32_1).f2) x44_2)) + ((rd_T36 l0_1 x32_1).f1))))) x10_2 (ji40) l0_1 (l0_1.length : Int) x32_1 ((rd_T36 l0_1 x32_1).f2) (((rd_T36 l0_1 x32_1).f2).length : Int) (wrap64 (x44_2 + 1)) a0_0 l0_1 l0_2 a0_3 a0_4 a0_5 a0_6 ((rd_T36 l0_1 x32_1).f0) ((rd_T36 l0_1 x32_1).f1) ((rd_T36 l0_1 x32_1).f2)) else (none)) = some (r1, r2, r3) := by first | (rw [hji46] at H; exact H) | (simp only [hji46] at H ⊢; exact H)
         have hji46_ : (if (wrap64 ((rd x8_2 (rd ((rd_T36 l0_1 x32_1).f2) x44_2)) + ((rd_T36 l0_1 x32_1).f0))) < (rd x8_2 (ji40)) then (wrap64 ((rd x8_2 (rd ((rd_T36 l0_1 x32_1).f2) x44_2)) + ((rd_T36 l0_1 x32_1).f0))) else (rd x8_2 (ji40))) = ji46 := hji46
         by_cases c47 : (ji40) < (x9_2.length : Int)
         case neg => rw [if_neg c47] at H; exact absurd H (by simp)
         rw [if_pos c47] at H
         have c47b0 : decide ((ji40) < (x9_2.length : Int)) = true := decide_eq_true c47
         clear c47
         obtain ⟨ji48, hji48⟩ : ∃ j_ : Int, (mx (rd x9_2 (ji40)) (wrap64 ((rd x9_2 (rd ((rd_T36 l0_1 x32_1).f2) x44_2)) + ((rd_T36 l0_1 x32_1).f1)))) = j_ := ⟨_, rfl⟩
         replace H : (impl_Circuit_delays.l1 k2 (x8_2.set ((ji40) : Int).toNat (ji46)) (x9_2.set ((ji40) : Int).toNat (ji48)) x10_2 (ji40) l0_1 (l0_1.length : Int) x32_1 ((rd_T36 l0_1 x32_1).f2) (((rd_T36 l0_1 x32_1).f2).length : Int) (wrap64 (x44_2 + 1)) a0_0 l0_1 l0_2 a0_3 a0_4 a0_5 a0_6 ((rd_T36 l0_1 x32_1).f0) ((rd_T36 l0_1 x32_1).f1) ((rd_T36 l0_1 x32_1).f2)) = some (r1, r2, r3) := by first | (rw [hji48] at H; exact H) | (simp only [hji48] at H ⊢; exact H)
         have hji48_ : (if (rd x9_2 (ji40)) < (wrap64 ((rd x9_2 (rd ((rd_T36 l0_1 x32_1).f2) x44_2)) + ((rd_T36 l0_1 x32_1).f1))) then (wrap64 ((rd x9_2 (rd ((rd_T36 l0_1 x32_1).f2) x44_2)) + ((rd_T36 l0_1 x32_1).f1))) else (rd x9_2 (ji40))) = ji48 := hji48
         obtain ⟨y220, hy220⟩ : ∃ y_ : List Int, y_ = (x8_2.set ((ji40) : Int).toNat (ji46)) := ⟨_, rfl⟩
         replace H : (impl_Circuit_delays.l1 k2 y220 (x9_2.set ((ji40) : Int).toNat (ji48)) x10_2 (ji40) l0_1 (l0_1.length : Int) x32_1 ((rd_T36 l0_1 x32_1).f2) (((rd_T36 l0_1 x32_1).f2).length : Int) (wrap64 (x44_2 + 1)) a0_0 l0_1 l0_2 a0_3 a0_4 a0_5 a0_6 ((rd_T36 l0_1 x32_1).f0) ((rd_T36 l0_1 x32_1).f1) ((rd_T36 l0_1 x32_1).f2)) = some (r1, r2, r3) := by first | (rw [hy220]; with_reducible exact H) | (have H2_ := (Option.bind_some _ _).symm.trans H; rw [hy220]; with_reducible exact H2_) | (have H2_ := (Option.bind_some _ _).symm.trans H; with_reducible exact H2_) | with_reducible exact H | (rw [hy220]; exact H) | exact H
         have Ny220 := Aside0.mk hy220
         clear hy220
         obtain ⟨y221, hy221⟩ : ∃ y_ : List Int, y_ = (x9_2.set ((ji40) : Int).toNat (ji48)) := ⟨_, rfl⟩
         replace H : (impl_Circuit_delays.l1 k2 y220 y221 x10_2 (ji40) l0_1 (l0_1.length : Int) x32_1 ((rd_T36 l0_1 x32_1).f2) (((rd_T36 l0_1 x32_1).f2).length : Int) (wrap64 (x44_2 + 1)) a0_0 l0_1 l0_2 a0_3 a0_4 a0_5 a0_6 ((rd_T36 l0_1 x32_1).f0) ((rd_T36 l0_1 x32_1).f1) ((rd_T36 l0_1 x32_1).f2)) = some (r1, r2, r3) := by first | (rw [hy221]; with_reducible exact H) | (have H2_ := (Option.bind_some _ _).symm.trans H; rw [hy221]; with_reducible exact H2_) | (have H2_ := (Option.bind_some _ _).symm.trans H; with_reducible exact H2_) | with_reducible exact H | (rw [hy221]; exact H) | exact H
         have Ny221 := Aside0.mk hy221
         clear hy221
         have H' := Aside0.mk H
         clear H
         have p213 : 0 ≤ (x44_2 : Int) := of_decide_eq_true (by with_reducible assumption)
         have q213 : x44_2 < (((rd_T36 l0_1 x32_1).f2).length : Int) := of_decide_eq_true (by with_reducible assumption)
         obtain ⟨ad213, e213, hx213_0⟩ := Kd.at_int HR211_2.out x44_2 p213 q213
         cases e213
         replace hx213_0 := (HB.out.cell (World.block_lt_of_cell? w _ hx213_0)).trans hx213_0
         replace p213 := eq_true p213
         replace q213 := eq_true q213
         have p214 : 0 ≤ ((rd ((rd_T36 l0_1 x32_1).f2) x44_2) : Int) := of_decide_eq_true (by with_reducible assumption)
         have q214 : (rd ((rd_T36 l0_1 x32_1).f2) x44_2) < (x10_2.length : Int) := of_decide_eq_true (by with_reducible assumption)
         obtain ⟨ad214, e214, hx214_0⟩ := Kd.at_bool (Kd.R_reads' HO_10.out).2.2 (rd ((rd_T36 l0_1 x32_1).f2) x44_2) p214 q214
         (try rw [← Nbq36.out] at hx214_0)
         (try rw [← Nbq43.out] at hx214_0)
         obtain rfl : (⟨go9, 0, none⟩ : Addr) = ad214 := (by injection e214)
         (first | simp only [add_plain] at hx214_0 | simp only [add_at] at hx214_0 | simp only [Addr.add, Nat.zero_add] at hx214_0 | skip)
         replace p214 := eq_true p214
         replace q214 := eq_true q214
         try go_wp2
         have n0_ := Aside0.mk (Kd.R_drew HO_8.out)
         have n1_ := Aside0.mk (Kd.R_drew HO_9.out)
         have n2_ := Aside0.mk (Kd.R_drew HO_10.out)
         have n3_ := Aside0.mk (blk_drew BK199.out)
         have n4_ := Aside0.mk (blk_drew BK212.out)
         have n5_ := Aside0.mk (below_drew1 HB.out)
         clear HO_8
         clear HO_9
         clear HO_10
         clear BK199
         clear BK212
         clear HB
         have HO_8 := n0_
         have HO_9 := n1_
         have HO_10 := n2_
         have BK199 := n3_
         have BK212 := n4_
         have HB := n5_
         clear n0_ n1_ n2_ n3_ n4_ n5_
         obtain ⟨Ao52, co52, eo52⟩ := Kd.R_slice HO_8.out
         (first | subst eo52 | (injection eo52 with f1_ f2_ f3_; have f4_ := f1_.symm; have f5_ := f3_.symm; clear f1_ f2_ f3_; subst f4_; subst f5_))
         have p215 : 0 ≤ ((rd ((rd_T36 l0_1 x32_1).f2) x44_2) : Int) := of_decide_eq_true (by with_reducible assumption)
         have q215 : (rd ((rd_T36 l0_1 x32_1).f2) x44_2) < (x8_2.length : Int) := of_decide_eq_true (by with_reducible assumption)
         obtain ⟨ad215, e215, hx215_0⟩ := Kd.at_int (Kd.R_reads' HO_8.out).2.2 (rd ((rd_T36 l0_1 x32_1).f2) x44_2) p215 q215
         cases e215
         replace p215 := eq_true p215
         replace q215 := eq_true q215
         obtain ⟨Ao53, co53, eo53⟩ := Kd.R_slice HO_9.out
         (first | subst eo53 | (injection eo53 with f1_ f2_ f3_; have f4_ := f1_.symm; have f5_ := f3_.symm; clear f1_ f2_ f3_; subst f4_; subst f5_))
         have p216 : 0 ≤ ((rd ((rd_T36 l0_1 x32_1).f2) x44_2) : Int) := of_decide_eq_true (by with_reducible assumption)
         have q216 : (rd ((rd_T36 l0_1 x32_1).f2) x44_2) < (x9_2.length : Int) := of_decide_eq_true (by with_reducible assumption)
         obtain ⟨ad216, e216, hx216_0⟩ := Kd.at_int (Kd.R_reads' HO_9.out).2.2 (rd ((rd_T36 l0_1 x32_1).f2) x44_2) p216 q216
         cases e216
         replace p216 := eq_true p216
         replace q216 := eq_true q216
         refine start_ (n := 16) (S := fun w' => w'.cell? ⟨gb212, 0, none⟩ = some (.int .i64 ((rd_T36 l0_1 x32_1).f0)) ∧ w'.cell? ⟨gb212, 1, none⟩ = some (.int .i64 ((rd_T36 l0_1 x32_1).f1)) ∧ w'.cell? ⟨gb212, 2, none⟩ = some (.slice (some ad213) ((rd_T36 l0_1 x32_1).f2).length c211_2) ∧ w'.cell? (ad215.add ((rd ((rd_T36 l0_1 x32_1).f2) x44_2)).toNat) = some (.int .i64 (rd x8_2 (rd ((rd_T36 l0_1 x32_1).f2) x44_2))) ∧ w'.cell? (ad216.add ((rd ((rd_T36 l0_1 x32_1).f2) x44_2)).toNat) = some (.int .i64 (rd x9_2 (rd ((rd_T36 l0_1 x32_1).f2) x44_2)))) (ds := []) #[false, false, false, false, false, false, false, false, false, false, false, false, false, false, false, false] (by kernel_rfl) rfl rfl ⟨(blk_cell BK212.out 0).trans rfl, (blk_cell BK212.out 1).trans rfl, (blk_cell BK212.out 2).trans rfl, hx215_0, hx216_0⟩ (fun hHeld => ?_); refine with_tabW impl_Circuit_delays.tab12 impl_Circuit_delays.bits12 (fun HT_ HW_ => ?_)
         generalize wr.drew = w51 at HO_8 HO_9 HO_10 BK199 BK212 HB hx215_0 hx216_0 hHeld ⊢
         refine pure_ (i := 0) (N := some 53) (v := ?_) (a' := ?_) #[true, false, false, false, false, false, false, false, false, false, false, false, false, false, false, false] rfl rfl (any_of HT_.out (by kernel_rfl)) (fun _ _ _ h => h) (Or.inl ⟨by rfl, ?_⟩) ?_ ?_
         rotate_left
         ·intro w'
          go_simp
          with_reducible rfl
         rotate_left
         ·simp only [Act.put, List.setIfInBounds_toArray, List.set_cons_zero, List.set_cons_succ, i64_w, i32_w]
          rfl
         refine pure_ (i := 1) (N := some 54) (v := ?_) (a' := ?_) #[true, true, false, false, false, false, false, false, false, false, false, false, false, false, false, false] rfl rfl (any_of HT_.out (by kernel_rfl)) (fun _ _ _ h => h) (Or.inl ⟨by rfl, ?_⟩) ?_ ?_
         rotate_left
         ·intro w'
          go_simp
          with_reducible rfl
         rotate_left
         ·simp only [Act.put, List.setIfInBounds_toArray, List.set_cons_zero, List.set_cons_succ, i64_w, i32_w]
          rfl
         refine pure_ (i := 2) (N := some 55) (v := ?_) (a' := ?_) #[true, true, true, false, false, false, false, false, false, false, false, false, false, false, false, false] rfl rfl (any_of HT_.out (by kernel_rfl)) (fun _ _ _ h => h) (Or.inl ⟨by rfl, ?_⟩) ?_ ?_
         rotate_left
         ·intro w'
          go_simp
          with_reducible rfl
         rotate_left
         ·simp only [Act.put, List.setIfInBounds_toArray, List.set_cons_zero, List.set_cons_succ, i64_w, i32_w]
          rfl
         refine pure_ (i := 4) (N := some 57) (v := ?_) (a' := ?_) #[true, true, true, false, true, false, false, false, false, false, false, false, false, false, false, false] rfl rfl (any_of HT_.out (by kernel_rfl)) (fun _ _ _ h => h) (Or.inl ⟨by rfl, ?_⟩) ?_ ?_
         rotate_left
         ·intro w'
          go_simp
          with_reducible rfl
         rotate_left
         ·simp only [Act.put, List.setIfInBounds_toArray, List.set_cons_zero, List.set_cons_succ, i64_w, i32_w]
          rfl
         refine pure_ (i := 7) (N := some 60) (v := ?_) (a' := ?_) #[true, true, true, false, true, false, false, true, false, false, false, false, false, false, false, false] rfl rfl (any_of HT_.out (by kernel_rfl)) (fun _ _ _ h => h) (Or.inl ⟨by rfl, ?_⟩) ?_ ?_
         rotate_left
         ·intro w'
          go_simp
          with_reducible rfl
         rotate_left
         ·simp only [Act.put, List.setIfInBounds_toArray, List.set_cons_zero, List.set_cons_succ, i64_w, i32_w]
          rfl
         refine pure_ (i := 8) (N := some 61) (v := ?_) (a' := ?_) #[true, true, true, false, true, false, false, true, true, false, false, false, false, false, false, false] rfl rfl (any_of HT_.out (by kernel_rfl)) (fun _ _ _ h => h) (Or.inl ⟨by rfl, ?_⟩) ?_ ?_
         rotate_left
         ·intro w'
          go_simp
          with_reducible rfl
         rotate_left
         ·simp only [Act.put, List.setIfInBounds_toArray, List.set_cons_zero, List.set_cons_succ, i64_w, i32_w]
          rfl
         refine pure_ (i := 9) (N := some 62) (v := ?_) (a' := ?_) #[true, true, true, false, true, false, false, true, true, true, false, false, false, false, false, false] rfl rfl (any_of HT_.out (by kernel_rfl)) (fun _ _ _ h => h) (Or.inl ⟨by rfl, ?_⟩) ?_ ?_
         rotate_left
         ·intro w'
          go_simp
          with_reducible rfl
         rotate_left
         ·simp only [Act.put, List.setIfInBounds_toArray, List.set_cons_zero, List.set_cons_succ, i64_w, i32_w]
          rfl
         refine pure_ (i := 11) (N := some 64) (v := ?_) (a' := ?_) #[true, true, true, false, true, false, false, true, true, true, false, true, false, false, false, false] rfl rfl (any_of HT_.out (by kernel_rfl)) (fun _ _ _ h => h) (Or.inl ⟨by rfl, ?_⟩) ?_ ?_
         rotate_left
         ·intro w'
          go_simp
          with_reducible rfl
         rotate_left
         ·simp only [Act.put, List.setIfInBounds_toArray, List.set_cons_zero, List.set_cons_succ, i64_w, i32_w]
          rfl
         refine take_ (i := 3) (N := some 56) (v := ?_) (a' := ?_) #[true, true, true, true, true, false, false, true, true, true, false, true, false, false, false, false] rfl rfl (take_ofW HT_.out HW_.out (by kernel_rfl)) (fun _ _ _ h => h) (Or.inl ⟨by rfl, ?_⟩) hHeld ?_ ?_
         rotate_left
         ·rintro w' ⟨s0, s1, s2, s3, s4⟩
          go_simp
          with_reducible rfl
         rotate_left
         ·simp only [Act.put, List.setIfInBounds_toArray, List.set_cons_zero, List.set_cons_succ, i64_w, i32_w]
          rfl
         refine take_ (i := 5) (N := some 58) (v := ?_) (a' := ?_) #[true, true, true, true, true, true, false, true, true, true, false, true, false, false, false, false] rfl rfl (take_ofW HT_.out HW_.out (by kernel_rfl)) (fun _ _ _ h => h) (Or.inl ⟨by rfl, ?_⟩) hHeld ?_ ?_
         rotate_left
         ·rintro w' ⟨s0, s1, s2, s3, s4⟩
          go_simp
          with_reducible rfl
         rotate_left
         ·simp only [Act.put, List.setIfInBounds_toArray, List.set_cons_zero, List.set_cons_succ, i64_w, i32_w]
          rfl
         refine pure_ (i := 6) (N := some 59) (v := ?_) (a' := ?_) #[true, true, true, true, true, true, true, true, true, true, false, true, false, false, false, false] rfl rfl (any_of HT_.out (by kernel_rfl)) (fun _ _ _ h => h) (Or.inl ⟨by rfl, ?_⟩) ?_ ?_
         rotate_left
         ·intro w'
          go_simp
          with_reducible rfl
         rotate_left
         ·simp only [Act.put, List.setIfInBounds_toArray, List.set_cons_zero, List.set_cons_succ, i64_w, i32_w]
          rfl
         refine pure_ (i := 14) (N := some 16) (v := ?_) (a' := ?_) #[true, true, true, true, true, true, true, true, true, true, false, true, false, false, true, false] rfl rfl (any_of HT_.out (by kernel_rfl)) (fun _ _ _ h => h) (Or.inl ⟨by rfl, ?_⟩) ?_ ?_
         rotate_left
         ·intro w'
          go_simp
          with_reducible rfl
         rotate_left
         ·simp only [Act.put, List.setIfInBounds_toArray, List.set_cons_zero, List.set_cons_succ, i64_w, i32_w]
          rfl
         refine take_ (i := 10) (N := some 63) (v := ?_) (a' := ?_) #[true, true, true, true, true, true, true, true, true, true, true, true, false, false, true, false] rfl rfl (take_ofW HT_.out HW_.out (by kernel_rfl)) (fun _ _ _ h => h) (Or.inl ⟨by rfl, ?_⟩) hHeld ?_ ?_
         rotate_left
         ·rintro w' ⟨s0, s1, s2, s3, s4⟩
          go_simp
          with_reducible rfl
         rotate_left
         ·simp only [Act.put, List.setIfInBounds_toArray, List.set_cons_zero, List.set_cons_succ, i64_w, i32_w]
          rfl
         refine take_ (i := 12) (N := some 65) (v := ?_) (a' := ?_) #[true, true, true, true, true, true, true, true, true, true, true, true, true, false, true, false] rfl rfl (take_ofW HT_.out HW_.out (by kernel_rfl)) (fun _ _ _ h => h) (Or.inl ⟨by rfl, ?_⟩) hHeld ?_ ?_
         rotate_left
         ·rintro w' ⟨s0, s1, s2, s3, s4⟩
          go_simp
          with_reducible rfl
         rotate_left
         ·simp only [Act.put, List.setIfInBounds_toArray, List.set_cons_zero, List.set_cons_succ, i64_w, i32_w]
          rfl
         refine pure_ (i := 13) (N := some 66) (v := ?_) (a' := ?_) #[true, true, true, true, true, true, true, true, true, true, true, true, true, true, true, false] rfl rfl (any_of HT_.out (by kernel_rfl)) (fun _ _ _ h => h) (Or.inl ⟨by rfl, ?_⟩) ?_ ?_
         rotate_left
         ·intro w'
          go_simp
          with_reducible rfl
         rotate_left
         ·simp only [Act.put, List.setIfInBounds_toArray, List.set_cons_zero, List.set_cons_succ, i64_w, i32_w]
          rfl
         refine pure_ (i := 15) (N := some 17) (v := ?_) (a' := ?_) #[true, true, true, true, true, true, true, true, true, true, true, true, true, true, true, true] rfl rfl (any_of HT_.out (by kernel_rfl)) (fun _ _ _ h => h) (Or.inl ⟨by rfl, ?_⟩) ?_ ?_
         rotate_left
         ·intro w'
          go_simp
          with_reducible rfl
         rotate_left
         ·simp only [Act.put, List.setIfInBounds_toArray, List.set_cons_zero, List.set_cons_succ, i64_w, i32_w]
          rfl
         refine done_ (done_of HT_.out (by kernel_rfl)) ?_
         have p217 : 0 ≤ ((ji40) : Int) := of_decide_eq_true (by with_reducible assumption)
         have q217 : (ji40) < (x10_2.length : Int) := of_decide_eq_true (by with_reducible assumption)
         obtain ⟨ad217, e217, hx217_0⟩ := Kd.at_bool (Kd.R_reads' HO_10.out).2.2 (ji40) p217 q217
         (try rw [← Nbq36.out] at hx217_0)
         (try rw [← Nbq43.out] at hx217_0)
         obtain rfl : (⟨go9, 0, none⟩ : Addr) = ad217 := (by injection e217)
         (first | simp only [add_plain] at hx217_0 | simp only [add_at] at hx217_0 | simp only [Addr.add, Nat.zero_add] at hx217_0 | skip)
         replace p217 := eq_true p217
         replace q217 := eq_true q217
         try go_wp2
         have n0_ := Aside0.mk (Kd.R_drew HO_8.out)
         have n1_ := Aside0.mk (Kd.R_drew HO_9.out)
         have n2_ := Aside0.mk (Kd.R_drew HO_10.out)
         have n3_ := Aside0.mk (blk_drew BK199.out)
         have n4_ := Aside0.mk (blk_drew BK212.out)
         have n5_ := Aside0.mk (below_drew1 HB.out)
         clear HO_8
         clear HO_9
         clear HO_10
         clear BK199
         clear BK212
         clear HB
         have HO_8 := n0_
         have HO_9 := n1_
         have HO_10 := n2_
         have BK199 := n3_
         have BK212 := n4_
         have HB := n5_
         clear n0_ n1_ n2_ n3_ n4_ n5_
         have p218 : 0 ≤ ((ji40) : Int) := of_decide_eq_true (by with_reducible assumption)
         have q218 : (ji40) < (x8_2.length : Int) := of_decide_eq_true (by with_reducible assumption)
         obtain ⟨ad218, e218, hx218_0⟩ := Kd.at_int (Kd.R_reads' HO_8.out).2.2 (ji40) p218 q218
         obtain rfl : ad215 = ad218 := (by injection e218)
         replace p218 := eq_true p218
         replace q218 := eq_true q218
         have p219 : 0 ≤ ((ji40) : Int) := of_decide_eq_true (by with_reducible assumption)
         have q219 : (ji40) < (x9_2.length : Int) := of_decide_eq_true (by with_reducible assumption)
         obtain ⟨ad219, e219, hx219_0⟩ := Kd.at_int (Kd.R_reads' HO_9.out).2.2 (ji40) p219 q219
         obtain rfl : ad216 = ad219 := (by injection e219)
         replace p219 := eq_true p219
         replace q219 := eq_true q219
         have p49 : 0 ≤ ((ji40) : Int) := of_decide_eq_true (by with_reducible assumption)
         have q49 : ((ji40) : Int) < ((x8_2.length : Int) : Int) := of_decide_eq_true (by with_reducible assumption)
         obtain ⟨go49, co49, eo49, gb49, gl49, cl49, HG49⟩ := Kd.R_form HO_8.out (by omega)
         (first | cases eo49 | (injection eo49 with ea_ en_ ec_; (first | subst ea_ | (injection ea_ with ea_; subst ea_)); subst ec_; clear en_))
         have GB49 := Aside0.mk gb49
         have GG49 := Aside0.mk HG49
         clear gb49 gl49 HG49
         (first | simp only [add_plain] at hx215_0 | skip)
         (first | simp only [add_plain] at hx218_0 | skip)
         obtain ⟨hx49_0, hf49_0⟩ := Kd.R_celln 0 HO_8.out ((ji40) : Int) p49 q49
         replace p49 := eq_true p49
         replace q49 := eq_true q49
         have HP55 := Kd.R_putn HO_8.out ((ji40) : Int) ji46
         rw [← Ny220.out] at HP55
         have HQ55 := Aside0.mk HP55
         clear HP55
         have p50 : 0 ≤ ((ji40) : Int) := of_decide_eq_true (by with_reducible assumption)
         have q50 : ((ji40) : Int) < ((x9_2.length : Int) : Int) := of_decide_eq_true (by with_reducible assumption)
         obtain ⟨go50, co50, eo50, gb50, gl50, cl50, HG50⟩ := Kd.R_form HO_9.out (by omega)
         (first | cases eo50 | (injection eo50 with ea_ en_ ec_; (first | subst ea_ | (injection ea_ with ea_; subst ea_)); subst ec_; clear en_))
         have GB50 := Aside0.mk gb50
         have GG50 := Aside0.mk HG50
         clear gb50 gl50 HG50
         (first | simp only [add_plain] at hx216_0 | skip)
         (first | simp only [add_plain] at hx219_0 | skip)
         obtain ⟨hx50_0, hf50_0⟩ := Kd.R_celln 0 (Kd.R_far (p := ⟨go49, ((ji40) : Int).toNat, none⟩) (Kd.R_mono HO_9.out (fun k_ hk => (⟨hk, fun e_ => hk (by rw [e_]; rfl)⟩ : _ ∧ k_ ≠ go49))) (fun _ hk => hk.2) (.int .i64 ji46)) ((ji40) : Int) p50 q50
         replace p50 := eq_true p50
         replace q50 := eq_true q50
         have HP56 := Kd.R_putn (Kd.R_far (p := ⟨go49, ((ji40) : Int).toNat, none⟩) (Kd.R_mono HO_9.out (fun k_ hk => (⟨hk, fun e_ => hk (by rw [e_]; rfl)⟩ : _ ∧ k_ ≠ go49))) (fun _ hk => hk.2) (.int .i64 ji46)) ((ji40) : Int) ji48
         rw [← Ny221.out] at HP56
         have HQ56 := Aside0.mk HP56
         clear HP56
         refine start_ (n := 20) (S := fun w' => w'.cell? ⟨go49, ((ji40)).toNat, none⟩ = some (.int .i64 (rd x8_2 (ji40))) ∧ w'.cell? ⟨go50, ((ji40)).toNat, none⟩ = some (.int .i64 (rd x9_2 (ji40)))) (ds := [17, 19]) #[false, false, false, false, false, false, false, false, false, false, false, false, false, false, false, false, false, false, false, false] (by kernel_rfl) rfl rfl ⟨hx218_0, hx219_0⟩ (fun hHeld => ?_); refine with_tabW impl_Circuit_delays.tab15 impl_Circuit_delays.bits15 (fun HT_ HW_ => ?_)
         generalize w51.drew = w54 at HO_8 HO_9 HO_10 BK199 BK212 HB GG49 GG50 HQ55 HQ56 hf49_0 hf50_0 hx215_0 hx216_0 hx218_0 hx219_0 hx49_0 hx50_0 hHeld ⊢
         refine pure_ (i := 0) (N := some 83) (v := ?_) (a' := ?_) #[true, false, false, false, false, false, false, false, false, false, false, false, false, false, false, false, false, false, false, false] rfl rfl (any_of HT_.out (by kernel_rfl)) (fun _ _ _ h => h) (Or.inl ⟨by rfl, ?_⟩) ?_ ?_
         rotate_left
         ·intro w'
          go_simp
          with_reducible rfl
         rotate_left
         ·simp only [Act.put, List.setIfInBounds_toArray, List.set_cons_zero, List.set_cons_succ, i64_w, i32_w]
          rfl
         refine pure_ (i := 1) (N := some 84) (v := ?_) (a' := ?_) #[true, true, false, false, false, false, false, false, false, false, false, false, false, false, false, false, false, false, false, false] rfl rfl (any_of HT_.out (by kernel_rfl)) (fun _ _ _ h => h) (Or.inl ⟨by rfl, ?_⟩) ?_ ?_
         rotate_left
         ·intro w'
          go_simp
          with_reducible rfl
         rotate_left
         ·simp only [Act.put, List.setIfInBounds_toArray, List.set_cons_zero, List.set_cons_succ, i64_w, i32_w]
          rfl
         refine pure_ (i := 2) (N := some 85) (v := ?_) (a' := ?_) #[true, true, true, false, false, false, false, false, false, false, false, false, false, false, false, false, false, false, false, false] rfl rfl (any_of HT_.out (by kernel_rfl)) (fun _ _ _ h => h) (Or.inl ⟨by rfl, ?_⟩) ?_ ?_
         rotate_left
         ·intro w'
          go_simp
          with_reducible rfl
         rotate_left
         ·simp only [Act.put, List.setIfInBounds_toArray, List.set_cons_zero, List.set_cons_succ, i64_w, i32_w]
          rfl
         refine pure_ (i := 3) (N := some 86) (v := ?_) (a' := ?_) #[true, true, true, true, false, false, false, false, false, false, false, false, false, false, false, false, false, false, false, false] rfl rfl (any_of HT_.out (by kernel_rfl)) (fun _ _ _ h => h) (Or.inl ⟨by rfl, ?_⟩) ?_ ?_
         rotate_left
         ·intro w'
          go_simp
          with_reducible rfl
         rotate_left
         ·simp only [Act.put, List.setIfInBounds_toArray, List.set_cons_zero, List.set_cons_succ, i64_w, i32_w]
          rfl
         refine pure_ (i := 4) (N := some 87) (v := ?_) (a' := ?_) #[true, true, true, true, true, false, false, false, false, false, false, false, false, false, false, false, false, false, false, false] rfl rfl (any_of HT_.out (by kernel_rfl)) (fun _ _ _ h => h) (Or.inl ⟨by rfl, ?_⟩) ?_ ?_
         rotate_left
         ·intro w'
          go_simp
          with_reducible rfl
         rotate_left
         ·simp only [Act.put, List.setIfInBounds_toArray, List.set_cons_zero, List.set_cons_succ, i64_w, i32_w]
          rfl
         refine pure_ (i := 5) (N := some 88) (v := ?_) (a' := ?_) #[true, true, true, true, true, true, false, false, false, false, false, false, false, false, false, false, false, false, false, false] rfl rfl (any_of HT_.out (by kernel_rfl)) (fun _ _ _ h => h) (Or.inl ⟨by rfl, ?_⟩) ?_ ?_
         rotate_left
         ·intro w'
          go_simp
          with_reducible rfl
         rotate_left
         ·simp only [Act.put, List.setIfInBounds_toArray, List.set_cons_zero, List.set_cons_succ, i64_w, i32_w]
          rfl
         refine pure_ (i := 6) (N := some 89) (v := ?_) (a' := ?_) #[true, true, true, true, true, true, true, false, false, false, false, false, false, false, false, false, false, false, false, false] rfl rfl (any_of HT_.out (by kernel_rfl)) (fun _ _ _ h => h) (Or.inl ⟨by rfl, ?_⟩) ?_ ?_
         rotate_left
         ·intro w'
          go_simp
          with_reducible rfl
         rotate_left
         ·simp only [Act.put, List.setIfInBounds_toArray, List.set_cons_zero, List.set_cons_succ, i64_w, i32_w]
          rfl
         refine pure_ (i := 8) (N := some 91) (v := ?_) (a' := ?_) #[true, true, true, true, true, true, true, false, true, false, false, false, false, false, false, false, false, false, false, false] rfl rfl (any_of HT_.out (by kernel_rfl)) (fun _ _ _ h => h) (Or.inl ⟨by rfl, ?_⟩) ?_ ?_
         rotate_left
         ·intro w'
          go_simp
          with_reducible rfl
         rotate_left
         ·simp only [Act.put, List.setIfInBounds_toArray, List.set_cons_zero, List.set_cons_succ, i64_w, i32_w]
          rfl
         refine pure_ (i := 10) (N := some 93) (v := ?_) (a' := ?_) #[true, true, true, true, true, true, true, false, true, false, true, false, false, false, false, false, false, false, false, false] rfl rfl (any_of HT_.out (by kernel_rfl)) (fun _ _ _ h => h) (Or.inl ⟨by rfl, ?_⟩) ?_ ?_
         rotate_left
         ·intro w'
          go_simp
          with_reducible rfl
         rotate_left
         ·simp only [Act.put, List.setIfInBounds_toArray, List.set_cons_zero, List.set_cons_succ, i64_w, i32_w]
          rfl
         refine pure_ (i := 11) (N := some 94) (v := ?_) (a' := ?_) #[true, true, true, true, true, true, true, false, true, false, true, true, false, false, false, false, false, false, false, false] rfl rfl (any_of HT_.out (by kernel_rfl)) (fun _ _ _ h => h) (Or.inl ⟨by rfl, ?_⟩) ?_ ?_
         rotate_left
         ·intro w'
          go_simp
          with_reducible rfl
         rotate_left
         ·simp only [Act.put, List.setIfInBounds_toArray, List.set_cons_zero, List.set_cons_succ, i64_w, i32_w]
          rfl
         refine pure_ (i := 12) (N := some 95) (v := ?_) (a' := ?_) #[true, true, true, true, true, true, true, false, true, false, true, true, true, false, false, false, false, false, false, false] rfl rfl (any_of HT_.out (by kernel_rfl)) (fun _ _ _ h => h) (Or.inl ⟨by rfl, ?_⟩) ?_ ?_
         rotate_left
         ·intro w'
          go_simp
          with_reducible rfl
         rotate_left
         ·simp only [Act.put, List.setIfInBounds_toArray, List.set_cons_zero, List.set_cons_succ, i64_w, i32_w]
          rfl
         refine pure_ (i := 14) (N := some 97) (v := ?_) (a' := ?_) #[true, true, true, true, true, true, true, false, true, false, true, true, true, false, true, false, false, false, false, false] rfl rfl (any_of HT_.out (by kernel_rfl)) (fun _ _ _ h => h) (Or.inl ⟨by rfl, ?_⟩) ?_ ?_
         rotate_left
         ·intro w'
          go_simp
          with_reducible rfl
         rotate_left
         ·simp only [Act.put, List.setIfInBounds_toArray, List.set_cons_zero, List.set_cons_succ, i64_w, i32_w]
          rfl
         refine take_ (i := 7) (N := some 90) (v := ?_) (a' := ?_) #[true, true, true, true, true, true, true, true, true, false, true, true, true, false, true, false, false, false, false, false] rfl rfl (take_ofW HT_.out HW_.out (by kernel_rfl)) (fun _ _ _ h => h) (Or.inl ⟨by rfl, ?_⟩) hHeld ?_ ?_
         rotate_left
         ·rintro w' ⟨s0, s1⟩
          go_simp
          with_reducible rfl
         rotate_left
         ·simp only [Act.put, List.setIfInBounds_toArray, List.set_cons_zero, List.set_cons_succ, i64_w, i32_w]
          rfl
         refine pure_ (i := 9) (N := some 92) (v := ?_) (a' := ?_) #[true, true, true, true, true, true, true, true, true, true, true, true, true, false, true, false, false, false, false, false] rfl rfl (any_of HT_.out (by kernel_rfl)) (fun _ _ _ h => h) (Or.inl ⟨by rfl, ?_⟩) ?_ ?_
         rotate_left
         ·intro w'
          go_simp
          with_reducible rfl
         rotate_left
         ·simp only [Act.put, List.setIfInBounds_toArray, List.set_cons_zero, List.set_cons_succ, i64_w, i32_w]
          rfl
         refine take_ (i := 13) (N := some 96) (v := ?_) (a' := ?_) #[true, true, true, true, true, true, true, true, true, true, true, true, true, true, true, false, false, false, false, false] rfl rfl (take_ofW HT_.out HW_.out (by kernel_rfl)) (fun _ _ _ h => h) (Or.inl ⟨by rfl, ?_⟩) hHeld ?_ ?_
         rotate_left
         ·rintro w' ⟨s0, s1⟩
          go_simp
          with_reducible rfl
         rotate_left
         ·simp only [Act.put, List.setIfInBounds_toArray, List.set_cons_zero, List.set_cons_succ, i64_w, i32_w]
          rfl
         refine pure_ (i := 15) (N := some 98) (v := ?_) (a' := ?_) #[true, true, true, true, true, true, true, true, true, true, true, true, true, true, true, true, false, false, false, false] rfl rfl (any_of HT_.out (by kernel_rfl)) (fun _ _ _ h => h) (Or.inl ⟨by rfl, ?_⟩) ?_ ?_
         rotate_left
         ·intro w'
          go_simp
          with_reducible rfl
         rotate_left
         ·simp only [Act.put, List.setIfInBounds_toArray, List.set_cons_zero, List.set_cons_succ, i64_w, i32_w]
          rfl
         refine pure_ (i := 16) (N := some 99) (v := ?_) (a' := ?_) #[true, true, true, true, true, true, true, true, true, true, true, true, true, true, true, true, true, false, false, false] rfl rfl (any_of HT_.out (by kernel_rfl)) (fun _ _ _ h => h) (Or.inl ⟨by rfl, ?_⟩) ?_ ?_
         rotate_left
         ·intro w'
          go_simp
          with_reducible rfl
         rotate_left
         ·simp only [Act.put, List.setIfInBounds_toArray, List.set_cons_zero, List.set_cons_succ, i64_w, i32_w]
          rfl
         refine last_ (i := 17) (N := none) #[true, true, true, true, true, true, true, true, true, true, true, true, true, true, true, true, true, true, false, false] rfl rfl (one_of HT_.out (by kernel_rfl)) (by decide) (fun K hK => ?_)
         refine skip_ (w1 := ?_) (by rfl) rfl ?_ ?_
         rotate_left
         ·go_simp
          rfl
         refine hK.out _ _ ?_
         clear hK K
         refine pure_ (i := 18) (N := some 100) (v := ?_) (a' := ?_) #[true, true, true, true, true, true, true, true, true, true, true, true, true, true, true, true, true, true, true, false] rfl rfl (any_of HT_.out (by kernel_rfl)) (fun _ _ _ h => h) (Or.inl ⟨by rfl, ?_⟩) ?_ ?_
         rotate_left
         ·intro w'
          go_simp
          with_reducible rfl
         rotate_left
         ·simp only [Act.put, List.setIfInBounds_toArray, List.set_cons_zero, List.set_cons_succ, i64_w, i32_w]
          rfl
         refine last_ (i := 19) (N := none) #[true, true, true, true, true, true, true, true, true, true, true, true, true, true, true, true, true, true, true, true] rfl rfl (one_of HT_.out (by kernel_rfl)) (by decide) (fun K hK => ?_)
         refine skip_ (w1 := ?_) (by rfl) rfl ?_ ?_
         rotate_left
         ·go_simp
          rfl
         refine hK.out _ _ ?_
         clear hK K
         refine done_ (done_of HT_.out (by kernel_rfl)) ?_
         try go_wp2
         (try simp only [← hl10_2])
         subst hji40
         go_roundg k2
         case measure => have := HK1.out; have := HK2.out; omega
         case rel => exact ⟨(y220), (y221), (x10_2), (wrap64 (x44_2 + 1)), (by first | rfl | (simp; done) | (simp [*]; done)), H', ⟨by have := HK1.out; have := HK2.out; omega⟩, ⟨by (try simp only [hl10_1]); (try simp only [hl10_2]); (with_reducible repeat (first | apply Kd.R_alloc | apply Kd.R_drewN | apply Kd.R_drew)); exact Kd.R_mono (Kd.R_far (p := ⟨go50, (((wrap64 (a0_0 + x32_1))) : Int).toNat, none⟩) (Kd.R_mono HQ55.out (fun k_ hk => (⟨hk, fun e_ => hk (by rw [e_]; rfl)⟩ : _ ∧ k_ ≠ go50))) (fun _ hk => hk.2) (.int .i64 ji48)) (fun _ hk => hk.1)⟩, ⟨by (try simp only [hl10_1]); (try simp only [hl10_2]); (with_reducible repeat (first | apply Kd.R_alloc | apply Kd.R_drewN | apply Kd.R_drew)); exact Kd.R_mono HQ56.out (fun _ hk => hk.1)⟩, ⟨by (try simp only [hl10_1]); (try simp only [hl10_2]); (with_reducible repeat (first | apply Kd.R_alloc | apply Kd.R_drewN | apply Kd.R_drew)); exact Kd.R_mono (Kd.R_far (p := ⟨go50, (((wrap64 (a0_0 + x32_1))) : Int).toNat, none⟩) (Kd.R_far (p := ⟨go49, (((wrap64 (a0_0 + x32_1))) : Int).toNat, none⟩) (Kd.R_types (Kd.R_types HO_10.out GG49.out (by decide)) GG50.out (by decide)) (fun _ hk => hk.1.2) (.int .i64 ji46)) (fun _ hk => hk.2) (.int .i64 ji48)) (fun _ hk => trivial)⟩, ⟨by (try simp only [hl10_1]); (try simp only [hl10_2]); (with_reducible repeat (first | refine blk_drewN ?_ _ | refine blk_drew ?_ | refine blk_alloc ?_ _)); refine blk_far ?_ (by have h_ := Kd.R_ne HO_9.out BK199.out (by decide); intro e_; exact h_ (by rw [e_]; rfl)) _; (with_reducible repeat (first | refine blk_drewN ?_ _ | refine blk_drew ?_ | refine blk_alloc ?_ _)); refine blk_far ?_ (by have h_ := Kd.R_ne HO_8.out BK199.out (by decide); intro e_; exact h_ (by rw [e_]; rfl)) _; (with_reducible repeat (first | refine blk_drewN ?_ _ | refine blk_drew ?_ | refine blk_alloc ?_ _)); exact BK199.out⟩, ⟨by (try simp only [hl10_1]); (try simp only [hl10_2]); (with_reducible repeat (first | refine blk_drewN ?_ _ | refine blk_drew ?_ | refine blk_alloc ?_ _)); refine blk_far ?_ (by have h_ := Kd.R_ne HO_9.out BK212.out (by decide); intro e_; exact h_ (by rw [e_]; rfl)) _; (with_reducible repeat (first | refine blk_drewN ?_ _ | refine blk_drew ?_ | refine blk_alloc ?_ _)); refine blk_far ?_ (by have h_ := Kd.R_ne HO_8.out BK212.out (by decide); intro e_; exact h_ (by rw [e_]; rfl)) _; (with_reducible repeat (first | refine blk_drewN ?_ _ | refine blk_drew ?_ | refine blk_alloc ?_ _)); exact BK212.out⟩, ⟨by with_reducible repeat (first | exact HB.out | apply below_alloc | apply pw_below_drewN | apply below_drew1 | refine below_set ?_ GB49.out | refine below_set ?_ GB50.out | refine below_set ?_ GE199.out | refine below_set ?_ GE212.out)⟩⟩
        ·replace c44 := Bool.eq_false_iff.mpr c44
         subst c44
         have H1 : (if (ji40) < (x8_2.length : Int) then ((some (x8_2.set ((ji40) : Int).toNat (wrap64 ((rd x8_2 (rd ((rd_T36 l0_1 x32_1).f2) x44_2)) + ((rd_T36 l0_1 x32_1).f0))) : List Int)).bind fun y222 => (if (ji40) < (x9_2.length : Int) then ((some (x9_2.set ((ji40) : Int).toNat (wrap64 ((rd x9_2 (rd ((rd_T36 l0_1 x32_1).f2) x44_2)) + ((rd_T36 l0_1 x32_1).f1))) : List Int)).bind fun y223 => (impl_Circuit_delays.l1 k2 (y222.set ((ji40) : Int).toNat (mn (rd y222 (ji40)) (wrap64 ((rd x8_2 (rd ((rd_T36 l0_1 x32_1).f2) x44_2)) + ((rd_T36 l0_1 x32_1).f0))))) (y223.set ((ji40) : Int).toNat (mx (rd y223 (ji40)) (wrap64 ((rd x9_2 (rd ((rd_T36 l0_1 x32_1).f2) x44_2)) + ((rd_T36 l0_1 x32_1).f1))))) (x10_2.set ((ji40) : Int).toNat true) (ji40) l0_1 (l0_1.length : Int) x32_1 ((rd_T36 l0_1 x32_1).f2) (((rd_T36 l0_1 x32_1).f2).length : Int) (wrap64 (x44_2 + 1)) a0_0 l0_1 l0_2 a0_3 a0_4 a0_5 a0_6 ((rd_T36 l0_1 x32_1).f0) ((rd_T36 l0_1 x32_1).f1) ((rd_T36 l0_1 x32_1).f2))) else (none))) else (none)) = some (r1, r2, r3) := by rw [if_neg (show ¬ (false = true) by decide)] at H; exact H
         clear H
         have H := H1
         clear H1
         by_cases c57 : (ji40) < (x8_2.length : Int)
         case neg => rw [if_neg c57] at H; exact absurd H (by simp)
         rw [if_pos c57] at H
         have c57b0 : decide ((ji40) < (x8_2.length : Int)) = true := decide_eq_true c57
         clear c57
         obtain ⟨y222, hy222⟩ : ∃ y_ : List Int, y_ = (x8_2.set ((ji40) : Int).toNat (wrap64 ((rd x8_2 (rd ((rd_T36 l0_1 x32_1).f2) x44_2)) + ((rd_T36 l0_1 x32_1).f0)))) := ⟨_, rfl⟩
         replace H : (if (ji40) < (x9_2.length : Int) then ((some (x9_2.set ((ji40) : Int).toNat (wrap64 ((rd x9_2 (rd ((rd_T36 l0_1 x32_1).f2) x44_2)) + ((rd_T36 l0_1 x32_1).f1))) : List Int)).bind fun y223 => (impl_Circuit_delays.l1 k2 (y222.set ((ji40) : Int).toNat (mn (rd y222 (ji40)) (wrap64 ((rd x8_2 (rd ((rd_T36 l0_1 x32_1).f2) x44_2)) + ((rd_T36 l0_1 x32_1).f0))))) (y223.set ((ji40) : Int).toNat (mx (rd y223 (ji40)) (wrap64 ((rd x9_2 (rd ((rd_T36 l0_1 x32_1).f2) x44_2)) + ((rd_T36 l0_1 x32_1).f1))))) (x10_2.set ((ji40) : Int).toNat true) (ji40) l0_1 (l0_1.length : Int) x32_1 ((rd_T36 l0_1 x32_1).f2) (((rd_T36 l0_1 x32_1).f2).length : Int) (wrap64 (x44_2 + 1)) a0_0 l0_1 l0_2 a0_3 a0_4 a0_5 a0_6 ((rd_T36 l0_1 x32_1).f0) ((rd_T36 l0_1 x32_1).f1) ((rd_T36 l0_1 x32_1).f2))) else (none)) = some (r1, r2, r3) := by first | (rw [hy222]; with_reducible exact H) | (have H2_ := (Option.bind_some _ _).symm.trans H; rw [hy222]; with_reducible exact H2_) | (have H2_ := (Option.bind_some _ _).symm.trans H; with_reducible exact H2_) | with_reducible exact H | (rw [hy222]; exact H) | exact H
         have Ny222 := Aside0.mk hy222
         clear hy222
         by_cases c59 : (ji40) < (x9_2.length : Int)
         case neg => rw [if_neg c59] at H; exact absurd H (by simp)
         rw [if_pos c59] at H
         have c59b0 : decide ((ji40) < (x9_2.length : Int)) = true := decide_eq_true c59
         clear c59
         obtain ⟨y223, hy223⟩ : ∃ y_ : List Int, y_ = (x9_2.set ((ji40) : Int).toNat (wrap64 ((rd x9_2 (rd ((rd_T36 l0_1 x32_1).f2) x44_2)) + ((rd_T36 l0_1 x32_1).f1)))) := ⟨_, rfl⟩
         replace H : (impl_Circuit_delays.l1 k2 (y222.set ((ji40) : Int).toNat (mn (rd y222 (ji40)) (wrap64 ((rd x8_2 (rd ((rd_T36 l0_1 x32_1).f2) x44_2)) + ((rd_T36 l0_1 x32_1).f0))))) (y223.set ((ji40) : Int).toNat (mx (rd y223 (ji40)) (wrap64 ((rd x9_2 (rd ((rd_T36 l0_1 x32_1).f2) x44_2)) + ((rd_T36 l0_1 x32_1).f1))))) (x10_2.set ((ji40) : Int).toNat true) (ji40) l0_1 (l0_1.length : Int) x32_1 ((rd_T36 l0_1 x32_1).f2) (((rd_T36 l0_1 x32_1).f2).length : Int) (wrap64 (x44_2 + 1)) a0_0 l0_1 l0_2 a0_3 a0_4 a0_5 a0_6 ((rd_T36 l0_1 x32_1).f0) ((rd_T36 l0_1 x32_1).f1) ((rd_T36 l0_1 x32_1).f2)) = some (r1, r2, r3) := by first | (rw [hy223]; with_reducible exact H) | (have H2_ := (Option.bind_some _ _).symm.trans H; rw [hy223]; with_reducible exact H2_) | (have H2_ := (Option.bind_some _ _).symm.trans H; with_reducible exact H2_) | with_reducible exact H | (rw [hy223]; exact H) | exact H
         have Ny223 := Aside0.mk hy223
         clear hy223
         obtain ⟨y224, hy224⟩ : ∃ y_ : List Bool, y_ = (x10_2.set ((ji40) : Int).toNat true) := ⟨_, rfl⟩
         replace H : (impl_Circuit_delays.l1 k2 (y222.set ((ji40) : Int).toNat (mn (rd y222 (ji40)) (wrap64 ((rd x8_2 (rd ((rd_T36 l0_1 x32_1).f2) x44_2)) + ((rd_T36 l0_1 x32_1).f0))))) (y223.set ((ji40) : Int).toNat (mx (rd y223 (ji40)) (wrap64 ((rd x9_2 (rd ((rd_T36 l0_1 x32_1).f2) x44_2)) + ((rd_T36 l0_1 x32_1).f1))))) y224 (ji40) l0_1 (l0_1.length : Int) x32_1 ((rd_T36 l0_1 x32_1).f2) (((rd_T36 l0_1 x32_1).f2).length : Int) (wrap64 (x44_2 + 1)) a0_0 l0_1 l0_2 a0_3 a0_4 a0_5 a0_6 ((rd_T36 l0_1 x32_1).f0) ((rd_T36 l0_1 x32_1).f1) ((rd_T36 l0_1 x32_1).f2)) = some (r1, r2, r3) := by first | (rw [hy224]; with_reducible exact H) | (have H2_ := (Option.bind_some _ _).symm.trans H; rw [hy224]; with_reducible exact H2_) | (have H2_ := (Option.bind_some _ _).symm.trans H; with_reducible exact H2_) | with_reducible exact H | (rw [hy224]; exact H) | exact H
         have Ny224 := Aside0.mk hy224
         clear hy224
         obtain ⟨ji62, hji62⟩ : ∃ j_ : Int, (mn (rd y222 (ji40)) (wrap64 ((rd x8_2 (rd ((rd_T36 l0_1 x32_1).f2) x44_2)) + ((rd_T36 l0_1 x32_1).f0)))) = j_ := ⟨_, rfl⟩
         replace H : (impl_Circuit_delays.l1 k2 (y222.set ((ji40) : Int).toNat (ji62)) (y223.set ((ji40) : Int).toNat (mx (rd y223 (ji40)) (wrap64 ((rd x9_2 (rd ((rd_T36 l0_1 x32_1).f2) x44_2)) + ((rd_T36 l0_1 x32_1).f1))))) y224 (ji40) l0_1 (l0_1.length : Int) x32_1 ((rd_T36 l0_1 x32_1).f2) (((rd_T36 l0_1 x32_1).f2).length : Int) (wrap64 (x44_2 + 1)) a0_0 l0_1 l0_2 a0_3 a0_4 a0_5 a0_6 ((rd_T36 l0_1 x32_1).f0) ((rd_T36 l0_1 x32_1).f1) ((rd_T36 l0_1 x32_1).f2)) = some (r1, r2, r3) := by first | (rw [hji62] at H; exact H) | (simp only [hji62] at H ⊢; exact H)
         have hji62_ : (if (wrap64 ((rd x8_2 (rd ((rd_T36 l0_1 x32_1).f2) x44_2)) + ((rd_T36 l0_1 x32_1).f0))) < (rd y222 (ji40)) then (wrap64 ((rd x8_2 (rd ((rd_T36 l0_1 x32_1).f2) x44_2)) + ((rd_T36 l0_1 x32_1).f0))) else (rd y222 (ji40))) = ji62 := hji62
         obtain ⟨ji63, hji63⟩ : ∃ j_ : Int, (mx (rd y223 (ji40)) (wrap64 ((rd x9_2 (rd ((rd_T36 l0_1 x32_1).f2) x44_2)) + ((rd_T36 l0_1 x32_1).f1)))) = j_ := ⟨_, rfl⟩
         replace H : (impl_Circuit_delays.l1 k2 (y222.set ((ji40) : Int).toNat (ji62)) (y223.set ((ji40) : Int).toNat (ji63)) y224 (ji40) l0_1 (l0_1.length : Int) x32_1 ((rd_T36 l0_1 x32_1).f2) (((rd_T36 l0_1 x32_1).f2).length : Int) (wrap64 (x44_2 + 1)) a0_0 l0_1 l0_2 a0_3 a0_4 a0_5 a0_6 ((rd_T36 l0_1 x32_1).f0) ((rd_T36 l0_1 x32_1).f1) ((rd_T36 l0_1 x32_1).f2)) = some (r1, r2, r3) := by first | (rw [hji63] at H; exact H) | (simp only [hji63] at H ⊢; exact H)
         have hji63_ : (if (rd y223 (ji40)) < (wrap64 ((rd x9_2 (rd ((rd_T36 l0_1 x32_1).f2) x44_2)) + ((rd_T36 l0_1 x32_1).f1))) then (wrap64 ((rd x9_2 (rd ((rd_T36 l0_1 x32_1).f2) x44_2)) + ((rd_T36 l0_1 x32_1).f1))) else (rd y223 (ji40))) = ji63 := hji63
         obtain ⟨y227, hy227⟩ : ∃ y_ : List Int, y_ = (y222.set ((ji40) : Int).toNat (ji62)) := ⟨_, rfl⟩
         replace H : (impl_Circuit_delays.l1 k2 y227 (y223.set ((ji40) : Int).toNat (ji63)) y224 (ji40) l0_1 (l0_1.length : Int) x32_1 ((rd_T36 l0_1 x32_1).f2) (((rd_T36 l0_1 x32_1).f2).length : Int) (wrap64 (x44_2 + 1)) a0_0 l0_1 l0_2 a0_3 a0_4 a0_5 a0_6 ((rd_T36 l0_1 x32_1).f0) ((rd_T36 l0_1 x32_1).f1) ((rd_T36 l0_1 x32_1).f2)) = some (r1, r2, r3) := by first | (rw [hy227]; with_reducible exact H) | (have H2_ := (Option.bind_some _ _).symm.trans H; rw [hy227]; with_reducible exact H2_) | (have H2_ := (Option.bind_some _ _).symm.trans H; with_reducible exact H2_) | with_reducible exact H | (rw [hy227]; exact H) | exact H
         have Ny227 := Aside0.mk hy227
         clear hy227
         obtain ⟨y228, hy228⟩ : ∃ y_ : List Int, y_ = (y223.set ((ji40) : Int).toNat (ji63)) := ⟨_, rfl⟩
         replace H : (impl_Circuit_delays.l1 k2 y227 y228 y224 (ji40) l0_1 (l0_1.length : Int) x32_1 ((rd_T36 l0_1 x32_1).f2) (((rd_T36 l0_1 x32_1).f2).length : Int) (wrap64 (x44_2 + 1)) a0_0 l0_1 l0_2 a0_3 a0_4 a0_5 a0_6 ((rd_T36 l0_1 x32_1).f0) ((rd_T36 l0_1 x32_1).f1) ((rd_T36 l0_1 x32_1).f2)) = some (r1, r2, r3) := by first | (rw [hy228]; with_reducible exact H) | (have H2_ := (Option.bind_some _ _).symm.trans H; rw [hy228]; with_reducible exact H2_) | (have H2_ := (Option.bind_some _ _).symm.trans H; with_reducible exact H2_) | with_reducible exact H | (rw [hy228]; exact H) | exact H
         have Ny228 := Aside0.mk hy228
         clear hy228
         have H' := Aside0.mk H
         clear H
         have p213 : 0 ≤ (x44_2 : Int) := of_decide_eq_true (by with_reducible assumption)
         have q213 : x44_2 < (((rd_T36 l0_1 x32_1).f2).length : Int) := of_decide_eq_true (by with_reducible assumption)
         obtain ⟨ad213, e213, hx213_0⟩ := Kd.at_int HR211_2.out x44_2 p213 q213
         cases e213
         replace hx213_0 := (HB.out.cell (World.block_lt_of_cell? w _ hx213_0)).trans hx213_0
         replace p213 := eq_true p213
         replace q213 := eq_true q213
         have p214 : 0 ≤ ((rd ((rd_T36 l0_1 x32_1).f2) x44_2) : Int) := of_decide_eq_true (by with_reducible assumption)
         have q214 : (rd ((rd_T36 l0_1 x32_1).f2) x44_2) < (x10_2.length : Int) := of_decide_eq_true (by with_reducible assumption)
         obtain ⟨ad214, e214, hx214_0⟩ := Kd.at_bool (Kd.R_reads' HO_10.out).2.2 (rd ((rd_T36 l0_1 x32_1).f2) x44_2) p214 q214
         (try rw [← Nbq36.out] at hx214_0)
         (try rw [← Nbq43.out] at hx214_0)
         obtain rfl : (⟨go9, 0, none⟩ : Addr) = ad214 := (by injection e214)
         (first | simp only [add_plain] at hx214_0 | simp only [add_at] at hx214_0 | simp only [Addr.add, Nat.zero_add] at hx214_0 | skip)
         replace p214 := eq_true p214
         replace q214 := eq_true q214
         try go_wp2
         have n0_ := Aside0.mk (Kd.R_drew HO_8.out)
         have n1_ := Aside0.mk (Kd.R_drew HO_9.out)
         have n2_ := Aside0.mk (Kd.R_drew HO_10.out)
         have n3_ := Aside0.mk (blk_drew BK199.out)
         have n4_ := Aside0.mk (blk_drew BK212.out)
         have n5_ := Aside0.mk (below_drew1 HB.out)
         clear HO_8
         clear HO_9
         clear HO_10
         clear BK199
         clear BK212
         clear HB
         have HO_8 := n0_
         have HO_9 := n1_
         have HO_10 := n2_
         have BK199 := n3_
         have BK212 := n4_
         have HB := n5_
         clear n0_ n1_ n2_ n3_ n4_ n5_
         obtain ⟨Ao67, co67, eo67⟩ := Kd.R_slice HO_8.out
         (first | subst eo67 | (injection eo67 with f1_ f2_ f3_; have f4_ := f1_.symm; have f5_ := f3_.symm; clear f1_ f2_ f3_; subst f4_; subst f5_))
         have p215 : 0 ≤ ((rd ((rd_T36 l0_1 x32_1).f2) x44_2) : Int) := of_decide_eq_true (by with_reducible assumption)
         have q215 : (rd ((rd_T36 l0_1 x32_1).f2) x44_2) < (x8_2.length : Int) := of_decide_eq_true (by with_reducible assumption)
         obtain ⟨ad215, e215, hx215_0⟩ := Kd.at_int (Kd.R_reads' HO_8.out).2.2 (rd ((rd_T36 l0_1 x32_1).f2) x44_2) p215 q215
         cases e215
         replace p215 := eq_true p215
         replace q215 := eq_true q215
         obtain ⟨Ao68, co68, eo68⟩ := Kd.R_slice HO_9.out
         (first | subst eo68 | (injection eo68 with f1_ f2_ f3_; have f4_ := f1_.symm; have f5_ := f3_.symm; clear f1_ f2_ f3_; subst f4_; subst f5_))
         have p216 : 0 ≤ ((rd ((rd_T36 l0_1 x32_1).f2) x44_2) : Int) := of_decide_eq_true (by with_reducible assumption)
         have q216 : (rd ((rd_T36 l0_1 x32_1).f2) x44_2) < (x9_2.length : Int) := of_decide_eq_true (by with_reducible assumption)
         obtain ⟨ad216, e216, hx216_0⟩ := Kd.at_int (Kd.R_reads' HO_9.out).2.2 (rd ((rd_T36 l0_1 x32_1).f2) x44_2) p216 q216
         cases e216
         replace p216 := eq_true p216
         replace q216 := eq_true q216
         refine start_ (n := 16) (S := fun w' => w'.cell? ⟨gb212, 0, none⟩ = some (.int .i64 ((rd_T36 l0_1 x32_1).f0)) ∧ w'.cell? ⟨gb212, 1, none⟩ = some (.int .i64 ((rd_T36 l0_1 x32_1).f1)) ∧ w'.cell? ⟨gb212, 2, none⟩ = some (.slice (some ad213) ((rd_T36 l0_1 x32_1).f2).length c211_2) ∧ w'.cell? (ad215.add ((rd ((rd_T36 l0_1 x32_1).f2) x44_2)).toNat) = some (.int .i64 (rd x8_2 (rd ((rd_T36 l0_1 x32_1).f2) x44_2))) ∧ w'.cell? (ad216.add ((rd ((rd_T36 l0_1 x32_1).f2) x44_2)).toNat) = some (.int .i64 (rd x9_2 (rd ((rd_T36 l0_1 x32_1).f2) x44_2)))) (ds := []) #[false, false, false, false, false, false, false, false, false, false, false, false, false, false, false, false] (by kernel_rfl) rfl rfl ⟨(blk_cell BK212.out 0).trans rfl, (blk_cell BK212.out 1).trans rfl, (blk_cell BK212.out 2).trans rfl, hx215_0, hx216_0⟩ (fun hHeld => ?_); refine with_tabW impl_Circuit_delays.tab12 impl_Circuit_delays.bits12 (fun HT_ HW_ => ?_)
         generalize wr.drew = w66 at HO_8 HO_9 HO_10 BK199 BK212 HB hx215_0 hx216_0 hHeld ⊢
         refine pure_ (i := 0) (N := some 53) (v := ?_) (a' := ?_) #[true, false, false, false, false, false, false, false, false, false, false, false, false, false, false, false] rfl rfl (any_of HT_.out (by kernel_rfl)) (fun _ _ _ h => h) (Or.inl ⟨by rfl, ?_⟩) ?_ ?_
         rotate_left
         ·intro w'
          go_simp
          with_reducible rfl
         rotate_left
         ·simp only [Act.put, List.setIfInBounds_toArray, List.set_cons_zero, List.set_cons_succ, i64_w, i32_w]
          rfl
         refine pure_ (i := 1) (N := some 54) (v := ?_) (a' := ?_) #[true, true, false, false, false, false, false, false, false, false, false, false, false, false, false, false] rfl rfl (any_of HT_.out (by kernel_rfl)) (fun _ _ _ h => h) (Or.inl ⟨by rfl, ?_⟩) ?_ ?_
         rotate_left
         ·intro w'
          go_simp
          with_reducible rfl
         rotate_left
         ·simp only [Act.put, List.setIfInBounds_toArray, List.set_cons_zero, List.set_cons_succ, i64_w, i32_w]
          rfl
         refine pure_ (i := 2) (N := some 55) (v := ?_) (a' := ?_) #[true, true, true, false, false, false, false, false, false, false, false, false, false, false, false, false] rfl rfl (any_of HT_.out (by kernel_rfl)) (fun _ _ _ h => h) (Or.inl ⟨by rfl, ?_⟩) ?_ ?_
         rotate_left
         ·intro w'
          go_simp
          with_reducible rfl
         rotate_left
         ·simp only [Act.put, List.setIfInBounds_toArray, List.set_cons_zero, List.set_cons_succ, i64_w, i32_w]
          rfl
         refine pure_ (i := 4) (N := some 57) (v := ?_) (a' := ?_) #[true, true, true, false, true, false, false, false, false, false, false, false, false, false, false, false] rfl rfl (any_of HT_.out (by kernel_rfl)) (fun _ _ _ h => h) (Or.inl ⟨by rfl, ?_⟩) ?_ ?_
         rotate_left
         ·intro w'
          go_simp
          with_reducible rfl
         rotate_left
         ·simp only [Act.put, List.setIfInBounds_toArray, List.set_cons_zero, List.set_cons_succ, i64_w, i32_w]
          rfl
         refine pure_ (i := 7) (N := some 60) (v := ?_) (a' := ?_) #[true, true, true, false, true, false, false, true, false, false, false, false, false, false, false, false] rfl rfl (any_of HT_.out (by kernel_rfl)) (fun _ _ _ h => h) (Or.inl ⟨by rfl, ?_⟩) ?_ ?_
         rotate_left
         ·intro w'
          go_simp
          with_reducible rfl
         rotate_left
         ·simp only [Act.put, List.setIfInBounds_toArray, List.set_cons_zero, List.set_cons_succ, i64_w, i32_w]
          rfl
         refine pure_ (i := 8) (N := some 61) (v := ?_) (a' := ?_) #[true, true, true, false, true, false, false, true, true, false, false, false, false, false, false, false] rfl rfl (any_of HT_.out (by kernel_rfl)) (fun _ _ _ h => h) (Or.inl ⟨by rfl, ?_⟩) ?_ ?_
         rotate_left
         ·intro w'
          go_simp
          with_reducible rfl
         rotate_left
         ·simp only [Act.put, List.setIfInBounds_toArray, List.set_cons_zero, List.set_cons_succ, i64_w, i32_w]
          rfl
         refine pure_ (i := 9) (N := some 62) (v := ?_) (a' := ?_) #[true, true, true, false, true, false, false, true, true, true, false, false, false, false, false, false] rfl rfl (any_of HT_.out (by kernel_rfl)) (fun _ _ _ h => h) (Or.inl ⟨by rfl, ?_⟩) ?_ ?_
         rotate_left
         ·intro w'
          go_simp
          with_reducible rfl
         rotate_left
         ·simp only [Act.put, List.setIfInBounds_toArray, List.set_cons_zero, List.set_cons_succ, i64_w, i32_w]
          rfl
         refine pure_ (i := 11) (N := some 64) (v := ?_) (a' := ?_) #[true, true, true, false, true, false, false, true, true, true, false, true, false, false, false, false] rfl rfl (any_of HT_.out (by kernel_rfl)) (fun _ _ _ h => h) (Or.inl ⟨by rfl, ?_⟩) ?_ ?_
         rotate_left
         ·intro w'
          go_simp
          with_reducible rfl
         rotate_left
         ·simp only [Act.put, List.setIfInBounds_toArray, List.set_cons_zero, List.set_cons_succ, i64_w, i32_w]
          rfl
         refine take_ (i := 3) (N := some 56) (v := ?_) (a' := ?_) #[true, true, true, true, true, false, false, true, true, true, false, true, false, false, false, false] rfl rfl (take_ofW HT_.out HW_.out (by kernel_rfl)) (fun _ _ _ h => h) (Or.inl ⟨by rfl, ?_⟩) hHeld ?_ ?_
         rotate_left
         ·rintro w' ⟨s0, s1, s2, s3, s4⟩
          go_simp
          with_reducible rfl
         rotate_left
         ·simp only [Act.put, List.setIfInBounds_toArray, List.set_cons_zero, List.set_cons_succ, i64_w, i32_w]
          rfl
         refine take_ (i := 5) (N := some 58) (v := ?_) (a' := ?_) #[true, true, true, true, true, true, false, true, true, true, false, true, false, false, false, false] rfl rfl (take_ofW HT_.out HW_.out (by kernel_rfl)) (fun _ _ _ h => h) (Or.inl ⟨by rfl, ?_⟩) hHeld ?_ ?_
         rotate_left
         ·rintro w' ⟨s0, s1, s2, s3, s4⟩
          go_simp
          with_reducible rfl
         rotate_left
         ·simp only [Act.put, List.setIfInBounds_toArray, List.set_cons_zero, List.set_cons_succ, i64_w, i32_w]
          rfl
         refine pure_ (i := 6) (N := some 59) (v := ?_) (a' := ?_) #[true, true, true, true, true, true, true, true, true, true, false, true, false, false, false, false] rfl rfl (any_of HT_.out (by kernel_rfl)) (fun _ _ _ h => h) (Or.inl ⟨by rfl, ?_⟩) ?_ ?_
         rotate_left
         ·intro w'
          go_simp
          with_reducible rfl
         rotate_left
         ·simp only [Act.put, List.setIfInBounds_toArray, List.set_cons_zero, List.set_cons_succ, i64_w, i32_w]
          rfl
         refine pure_ (i := 14) (N := some 16) (v := ?_) (a' := ?_) #[true, true, true, true, true, true, true, true, true, true, false, true, false, false, true, false] rfl rfl (any_of HT_.out (by kernel_rfl)) (fun _ _ _ h => h) (Or.inl ⟨by rfl, ?_⟩) ?_ ?_
         rotate_left
         ·intro w'
          go_simp
          with_reducible rfl
         rotate_left
         ·simp only [Act.put, List.setIfInBounds_toArray, List.set_cons_zero, List.set_cons_succ, i64_w, i32_w]
          rfl
         refine take_ (i := 10) (N := some 63) (v := ?_) (a' := ?_) #[true, true, true, true, true, true, true, true, true, true, true, true, false, false, true, false] rfl rfl (take_ofW HT_.out HW_.out (by kernel_rfl)) (fun _ _ _ h => h) (Or.inl ⟨by rfl, ?_⟩) hHeld ?_ ?_
         rotate_left
         ·rintro w' ⟨s0, s1, s2, s3, s4⟩
          go_simp
          with_reducible rfl
         rotate_left
         ·simp only [Act.put, List.setIfInBounds_toArray, List.set_cons_zero, List.set_cons_succ, i64_w, i32_w]
          rfl
         refine take_ (i := 12) (N := some 65) (v := ?_) (a' := ?_) #[true, true, true, true, true, true, true, true, true, true, true, true, true, false, true, false] rfl rfl (take_ofW HT_.out HW_.out (by kernel_rfl)) (fun _ _ _ h => h) (Or.inl ⟨by rfl, ?_⟩) hHeld ?_ ?_
         rotate_left
         ·rintro w' ⟨s0, s1, s2, s3, s4⟩
          go_simp
          with_reducible rfl
         rotate_left
         ·simp only [Act.put, List.setIfInBounds_toArray, List.set_cons_zero, List.set_cons_succ, i64_w, i32_w]
          rfl
         refine pure_ (i := 13) (N := some 66) (v := ?_) (a' := ?_) #[true, true, true, true, true, true, true, true, true, true, true, true, true, true, true, false] rfl rfl (any_of HT_.out (by kernel_rfl)) (fun _ _ _ h => h) (Or.inl ⟨by rfl, ?_⟩) ?_ ?_
         rotate_left
         ·intro w'
          go_simp
          with_reducible rfl
         rotate_left
         ·simp only [Act.put, List.setIfInBounds_toArray, List.set_cons_zero, List.set_cons_succ, i64_w, i32_w]
          rfl
         refine pure_ (i := 15) (N := some 17) (v := ?_) (a' := ?_) #[true, true, true, true, true, true, true, true, true, true, true, true, true, true, true, true] rfl rfl (any_of HT_.out (by kernel_rfl)) (fun _ _ _ h => h) (Or.inl ⟨by rfl, ?_⟩) ?_ ?_
         rotate_left
         ·intro w'
          go_simp
          with_reducible rfl
         rotate_left
         ·simp only [Act.put, List.setIfInBounds_toArray, List.set_cons_zero, List.set_cons_succ, i64_w, i32_w]
          rfl
         refine done_ (done_of HT_.out (by kernel_rfl)) ?_
         have p217 : 0 ≤ ((ji40) : Int) := of_decide_eq_true (by with_reducible assumption)
         have q217 : (ji40) < (x10_2.length : Int) := of_decide_eq_true (by with_reducible assumption)
         obtain ⟨ad217, e217, hx217_0⟩ := Kd.at_bool (Kd.R_reads' HO_10.out).2.2 (ji40) p217 q217
         (try rw [← Nbq36.out] at hx217_0)
         (try rw [← Nbq43.out] at hx217_0)
         obtain rfl : (⟨go9, 0, none⟩ : Addr) = ad217 := (by injection e217)
         (first | simp only [add_plain] at hx217_0 | simp only [add_at] at hx217_0 | simp only [Addr.add, Nat.zero_add] at hx217_0 | skip)
         replace p217 := eq_true p217
         replace q217 := eq_true q217
         have p58 : 0 ≤ ((ji40) : Int) := of_decide_eq_true (by with_reducible assumption)
         have q58 : ((ji40) : Int) < ((x8_2.length : Int) : Int) := of_decide_eq_true (by with_reducible assumption)
         obtain ⟨go58, co58, eo58, gb58, gl58, cl58, HG58⟩ := Kd.R_form HO_8.out (by omega)
         (first | cases eo58 | (injection eo58 with ea_ en_ ec_; (first | subst ea_ | (injection ea_ with ea_; subst ea_)); subst ec_; clear en_))
         have GB58 := Aside0.mk gb58
         have GG58 := Aside0.mk HG58
         clear gb58 gl58 HG58
         (first | simp only [add_plain] at hx215_0 | skip)
         obtain ⟨hx58_0, hf58_0⟩ := Kd.R_celln 0 HO_8.out ((ji40) : Int) p58 q58
         replace p58 := eq_true p58
         replace q58 := eq_true q58
         obtain ⟨hy69_, hz69_⟩ := Kd.R_celln 0 HO_8.out ((ji40) : Int) (of_decide_eq_true (by with_reducible assumption)) (of_decide_eq_true (by with_reducible assumption))
         have HP69 := Kd.R_putg HO_8.out ((ji40) : Int) (wrap64 ((rd x8_2 (rd ((rd_T36 l0_1 x32_1).f2) x44_2)) + ((rd_T36 l0_1 x32_1).f0)))
         try go_wp2_with (first | ((with_reducible refine gate_store (t := 2) (p := 80) rfl ?_); refine store_event (t := 2) (p := 80) (v := ?vo_w70) (w1 := (w66.setCell ⟨go58, ((ji40) : Int).toNat, none⟩ (.int .i64 (wrap64 ((rd x8_2 (rd ((rd_T36 l0_1 x32_1).f2) x44_2)) + ((rd_T36 l0_1 x32_1).f0)))))) ?hg ?ho ?hn ?hr ?_; (case ho => rfl); (case hg => rfl); (case hn => rfl); (case hr => first | (go_simp; done) | (go_simp; rfl)); intro w70 hw; have hg : w66.grownBy w70 (some go58) := (by rw [hw]; exact HP69.2); have hp_ : Kd.R (Kd.int .i64) 2 w70 w.heap.size (fun k_ => some k_ ≠ (.slice (some ad216) x9_2.length co68 : Value).ownBlock) (.slice (some ⟨go58, 0, none⟩) x8_2.length co67) y222 := (by rw [hw, Ny222.out]; exact HP69.1); clear HP69; have n0_ := Aside0.mk (hp_); have n1_ := Aside0.mk (Kd.R_after (v := (.slice (some ⟨go58, 0, none⟩) x8_2.length co67)) (v1 := (.slice (some ⟨go58, 0, none⟩) x8_2.length co67)) (ok := (fun _ => True)) (by (with_reducible repeat (first | apply Kd.R_alloc | apply Kd.R_drewN | apply Kd.R_drew)); exact Kd.R_mono HO_9.out (fun _ hk => ⟨trivial, hk⟩)) hg (.inl rfl)); have n2_ := Aside0.mk (Kd.R_over' (v := (.slice (some ⟨go58, 0, none⟩) x8_2.length co67)) (by (with_reducible repeat (first | apply Kd.R_alloc | apply Kd.R_drewN | apply Kd.R_drew)); exact HO_10.out) (Kd.R_typed HO_8.out) (by decide) hg); have n3_ := Aside0.mk (blk_grown (g := gb199) (by (with_reducible repeat (first | refine blk_drewN ?_ _ | refine blk_drew ?_ | refine blk_alloc ?_ _)); exact BK199.out) hg (Kd.R_ne HO_8.out BK199.out (by decide))); have n4_ := Aside0.mk (blk_grown (g := gb212) (by (with_reducible repeat (first | refine blk_drewN ?_ _ | refine blk_drew ?_ | refine blk_alloc ?_ _)); exact BK212.out) hg (Kd.R_ne HO_8.out BK212.out (by decide))); have n5_ := Aside0.mk ((by rw [hw]; exact below_set (HB.out) GB58.out : Below w.heap.size w w70)); clear HO_8; clear HO_9; clear HO_10; clear BK199; clear BK212; clear HB; have HO_8 := n0_; have HO_9 := n1_; have HO_10 := n2_; have BK199 := n3_; have BK212 := n4_; have HB := n5_; clear n0_ n1_ n2_ n3_ n4_ n5_; clear hg hw hp_; have p60 : 0 ≤ ((ji40) : Int) := of_decide_eq_true (by with_reducible assumption); have q60 : ((ji40) : Int) < ((x9_2.length : Int) : Int) := of_decide_eq_true (by with_reducible assumption); obtain ⟨go60, co60, eo60, gb60, gl60, cl60, HG60⟩ := Kd.R_form HO_9.out (by omega); (first | cases eo60 | (injection eo60 with ea_ en_ ec_; (first | subst ea_ | (injection ea_ with ea_; subst ea_)); subst ec_; clear en_)); have GB60 := Aside0.mk gb60; have GG60 := Aside0.mk HG60; clear gb60 gl60 HG60; (first | simp only [add_plain] at hx216_0 | skip); obtain ⟨hx60_0, hf60_0⟩ := Kd.R_celln 0 HO_9.out ((ji40) : Int) p60 q60; replace p60 := eq_true p60; replace q60 := eq_true q60; have n_ := Aside0.mk (Kd.R_mono (ok' := (fun k_ => some k_ ≠ (.slice (some ⟨go58, 0, none⟩) x8_2.length co67 : Value).ownBlock)) HO_9.out (fun k_ hk => hk.2)); clear HO_9; have HO_9 := n_; clear n_; obtain ⟨hy71_, hz71_⟩ := Kd.R_celln 0 HO_9.out ((ji40) : Int) (of_decide_eq_true (by with_reducible assumption)) (of_decide_eq_true (by with_reducible assumption)); have HP71 := Kd.R_putg HO_9.out ((ji40) : Int) (wrap64 ((rd x9_2 (rd ((rd_T36 l0_1 x32_1).f2) x44_2)) + ((rd_T36 l0_1 x32_1).f1)))) | ((with_reducible refine gate_store (t := 2) (p := 81) rfl ?_); refine store_event (t := 2) (p := 81) (v := ?vo_w72) (w1 := (w70.setCell ⟨go60, ((ji40) : Int).toNat, none⟩ (.int .i64 (wrap64 ((rd x9_2 (rd ((rd_T36 l0_1 x32_1).f2) x44_2)) + ((rd_T36 l0_1 x32_1).f1)))))) ?hg ?ho ?hn ?hr ?_; (case ho => rfl); (case hg => rfl); (case hn => rfl); (case hr => first | (go_simp; done) | (go_simp; rfl)); intro w72 hw; have hg : w70.grownBy w72 (some go60) := (by rw [hw]; exact HP71.2); have hp_ : Kd.R (Kd.int .i64) 2 w72 w.heap.size (fun k_ => some k_ ≠ (.slice (some ⟨go58, 0, none⟩) x8_2.length co67 : Value).ownBlock) (.slice (some ⟨go60, 0, none⟩) x9_2.length co68) y223 := (by rw [hw, Ny223.out]; exact HP71.1); clear HP71; have n0_ := Aside0.mk (Kd.R_after (v := (.slice (some ⟨go60, 0, none⟩) x9_2.length co68)) (v1 := (.slice (some ⟨go60, 0, none⟩) x9_2.length co68)) (ok := (fun _ => True)) (by (with_reducible repeat (first | apply Kd.R_alloc | apply Kd.R_drewN | apply Kd.R_drew)); exact Kd.R_mono HO_8.out (fun _ hk => ⟨trivial, hk⟩)) hg (.inl rfl)); have n1_ := Aside0.mk (hp_); have n2_ := Aside0.mk (Kd.R_over' (v := (.slice (some ⟨go60, 0, none⟩) x9_2.length co68)) (by (with_reducible repeat (first | apply Kd.R_alloc | apply Kd.R_drewN | apply Kd.R_drew)); exact HO_10.out) (Kd.R_typed HO_9.out) (by decide) hg); have n3_ := Aside0.mk (blk_grown (g := gb199) (by (with_reducible repeat (first | refine blk_drewN ?_ _ | refine blk_drew ?_ | refine blk_alloc ?_ _)); exact BK199.out) hg (Kd.R_ne HO_9.out BK199.out (by decide))); have n4_ := Aside0.mk (blk_grown (g := gb212) (by (with_reducible repeat (first | refine blk_drewN ?_ _ | refine blk_drew ?_ | refine blk_alloc ?_ _)); exact BK212.out) hg (Kd.R_ne HO_9.out BK212.out (by decide))); have n5_ := Aside0.mk ((by rw [hw]; exact below_set (HB.out) GB60.out : Below w.heap.size w w72)); clear HO_8; clear HO_9; clear HO_10; clear BK199; clear BK212; clear HB; have HO_8 := n0_; have HO_9 := n1_; have HO_10 := n2_; have BK199 := n3_; have BK212 := n4_; have HB := n5_; clear n0_ n1_ n2_ n3_ n4_ n5_; clear hg hw hp_; have p61 : 0 ≤ ((ji40) : Int) := of_decide_eq_true (by with_reducible assumption); have q61 : ((ji40) : Int) < ((x10_2.length : Int) : Int) := of_decide_eq_true (by with_reducible assumption); obtain ⟨hx61_0, hf61_0⟩ := Kd.R_celln false HO_10.out ((ji40) : Int) p61 q61; replace p61 := eq_true p61; replace q61 := eq_true q61; obtain ⟨hy73_, hz73_⟩ := Kd.R_celln false HO_10.out ((ji40) : Int) (of_decide_eq_true (by with_reducible assumption)) (of_decide_eq_true (by with_reducible assumption)); have HP73 := Kd.R_putg HO_10.out ((ji40) : Int) true) | ((with_reducible refine gate_store (t := 4) (p := 82) rfl ?_); refine store_event (t := 4) (p := 82) (v := ?vo_w74) (w1 := (w72.setCell ⟨go9, ((ji40) : Int).toNat, none⟩ (.bool true))) ?hg ?ho ?hn ?hr ?_; (case ho => rfl); (case hg => rfl); (case hn => rfl); (case hr => first | (go_simp; done) | (go_simp; rfl)); intro w74 hw; have hg : w72.grownBy w74 (some go9) := (by rw [hw]; exact HP73.2); have hp_ : Kd.R Kd.bool 4 w74 w.heap.size (fun _ => True) (.slice (some ⟨go9, 0, none⟩) x10_2.length co9) y224 := (by rw [hw, Ny224.out]; exact HP73.1); clear HP73; have n0_ := Aside0.mk (Kd.R_over' (v := (.slice (some ⟨go9, 0, none⟩) x10_2.length co9)) (by (with_reducible repeat (first | apply Kd.R_alloc | apply Kd.R_drewN | apply Kd.R_drew)); exact HO_8.out) (Kd.R_typed HO_10.out) (by decide) hg); have n1_ := Aside0.mk (Kd.R_over' (v := (.slice (some ⟨go9, 0, none⟩) x10_2.length co9)) (by (with_reducible repeat (first | apply Kd.R_alloc | apply Kd.R_drewN | apply Kd.R_drew)); exact HO_9.out) (Kd.R_typed HO_10.out) (by decide) hg); have n2_ := Aside0.mk (hp_); have n3_ := Aside0.mk (blk_grown (g := gb199) (by (with_reducible repeat (first | refine blk_drewN ?_ _ | refine blk_drew ?_ | refine blk_alloc ?_ _)); exact BK199.out) hg (Kd.R_ne HO_10.out BK199.out (by decide))); have n4_ := Aside0.mk (blk_grown (g := gb212) (by (with_reducible repeat (first | refine blk_drewN ?_ _ | refine blk_drew ?_ | refine blk_alloc ?_ _)); exact BK212.out) hg (Kd.R_ne HO_10.out BK212.out (by decide))); have n5_ := Aside0.mk ((by rw [hw]; exact below_set (HB.out) GB9.out : Below w.heap.size w w74)); clear HO_8; clear HO_9; clear HO_10; clear BK199; clear BK212; clear HB; have HO_8 := n0_; have HO_9 := n1_; have HO_10 := n2_; have BK199 := n3_; have BK212 := n4_; have HB := n5_; clear n0_ n1_ n2_ n3_ n4_ n5_; clear hg hw hp_))
         have n0_ := Aside0.mk (Kd.R_drew HO_8.out)
         have n1_ := Aside0.mk (Kd.R_drew HO_9.out)
         have n2_ := Aside0.mk (Kd.R_drew HO_10.out)
         have n3_ := Aside0.mk (blk_drew BK199.out)
         have n4_ := Aside0.mk (blk_drew BK212.out)
         have n5_ := Aside0.mk (below_drew1 HB.out)
         clear HO_8
         clear HO_9
         clear HO_10
         clear BK199
         clear BK212
         clear HB
         have HO_8 := n0_
         have HO_9 := n1_
         have HO_10 := n2_
         have BK199 := n3_
         have BK212 := n4_
         have HB := n5_
         clear n0_ n1_ n2_ n3_ n4_ n5_
         have p225 : 0 ≤ ((ji40) : Int) := of_decide_eq_true (by with_reducible assumption)
         have q225 : (ji40) < (y222.length : Int) := (by have h_ : ((ji40) : Int) < ((x8_2.length : Int) : Int) := of_decide_eq_true (by with_reducible assumption); first | (have e_ := (Kd.R_reads' HO_8.out).1; omega) | simpa only [Ny222.out, List.length_set] using h_)
         have ql225 : (((ji40) : Int) < ((x8_2.length : Int) : Int)) = True := eq_true (of_decide_eq_true (by with_reducible assumption))
         obtain ⟨ad225, e225, hx225_0⟩ := Kd.at_int (Kd.R_reads' HO_8.out).2.2 (ji40) p225 q225
         obtain rfl : (⟨go58, 0, none⟩ : Addr) = ad225 := (by injection e225)
         (first | simp only [add_plain] at hx225_0 | simp only [add_at] at hx225_0 | simp only [Addr.add, Nat.zero_add] at hx225_0 | skip)
         replace p225 := eq_true p225
         replace q225 := eq_true q225
         have p226 : 0 ≤ ((ji40) : Int) := of_decide_eq_true (by with_reducible assumption)
         have q226 : (ji40) < (y223.length : Int) := (by have h_ : ((ji40) : Int) < ((x9_2.length : Int) : Int) := of_decide_eq_true (by with_reducible assumption); first | (have e_ := (Kd.R_reads' HO_9.out).1; omega) | simpa only [Ny223.out, List.length_set] using h_)
         have ql226 : (((ji40) : Int) < ((x9_2.length : Int) : Int)) = True := eq_true (of_decide_eq_true (by with_reducible assumption))
         obtain ⟨ad226, e226, hx226_0⟩ := Kd.at_int (Kd.R_reads' HO_9.out).2.2 (ji40) p226 q226
         obtain rfl : (⟨go60, 0, none⟩ : Addr) = ad226 := (by injection e226)
         (first | simp only [add_plain] at hx226_0 | simp only [add_at] at hx226_0 | simp only [Addr.add, Nat.zero_add] at hx226_0 | skip)
         replace p226 := eq_true p226
         replace q226 := eq_true q226
         have p64 : 0 ≤ ((ji40) : Int) := of_decide_eq_true (by with_reducible assumption)
         have q64 : ((ji40) : Int) < ((x8_2.length : Int) : Int) := of_decide_eq_true (by with_reducible assumption)
         obtain ⟨hx64_0, hf64_0⟩ := Kd.R_celln 0 HO_8.out ((ji40) : Int) p64 q64
         replace p64 := eq_true p64
         replace q64 := eq_true q64
         have HP76 := Kd.R_putn HO_8.out ((ji40) : Int) ji62
         rw [← Ny227.out] at HP76
         have HQ76 := Aside0.mk HP76
         clear HP76
         have p65 : 0 ≤ ((ji40) : Int) := of_decide_eq_true (by with_reducible assumption)
         have q65 : ((ji40) : Int) < ((x9_2.length : Int) : Int) := of_decide_eq_true (by with_reducible assumption)
         obtain ⟨hx65_0, hf65_0⟩ := Kd.R_celln 0 (Kd.R_far (p := ⟨go58, ((ji40) : Int).toNat, none⟩) (Kd.R_mono HO_9.out (fun k_ hk => (⟨hk, fun e_ => hk (by rw [e_]; rfl)⟩ : _ ∧ k_ ≠ go58))) (fun _ hk => hk.2) (.int .i64 ji62)) ((ji40) : Int) p65 q65
         replace p65 := eq_true p65
         replace q65 := eq_true q65
         have HP77 := Kd.R_putn (Kd.R_far (p := ⟨go58, ((ji40) : Int).toNat, none⟩) (Kd.R_mono HO_9.out (fun k_ hk => (⟨hk, fun e_ => hk (by rw [e_]; rfl)⟩ : _ ∧ k_ ≠ go58))) (fun _ hk => hk.2) (.int .i64 ji62)) ((ji40) : Int) ji63
         rw [← Ny228.out] at HP77
         have HQ77 := Aside0.mk HP77
         clear HP77
         refine start_ (n := 20) (S := fun w' => w'.cell? ⟨go58, ((ji40)).toNat, none⟩ = some (.int .i64 (rd y222 (ji40))) ∧ w'.cell? ⟨go60, ((ji40)).toNat, none⟩ = some (.int .i64 (rd y223 (ji40)))) (ds := [17, 19]) #[false, false, false, false, false, false, false, false, false, false, false, false, false, false, false, false, false, false, false, false] (by kernel_rfl) rfl rfl ⟨hx225_0, hx226_0⟩ (fun hHeld => ?_); refine with_tabW impl_Circuit_delays.tab15 impl_Circuit_delays.bits15 (fun HT_ HW_ => ?_)
         generalize w74.drew = w75 at HO_8 HO_9 HO_10 BK199 BK212 HB HQ76 HQ77 hf64_0 hf65_0 hx225_0 hx226_0 hx64_0 hx65_0 hHeld ⊢
         refine pure_ (i := 0) (N := some 83) (v := ?_) (a' := ?_) #[true, false, false, false, false, false, false, false, false, false, false, false, false, false, false, false, false, false, false, false] rfl rfl (any_of HT_.out (by kernel_rfl)) (fun _ _ _ h => h) (Or.inl ⟨by rfl, ?_⟩) ?_ ?_
         rotate_left
         ·intro w'
          go_simp
          with_reducible rfl
         rotate_left
         ·simp only [Act.put, List.setIfInBounds_toArray, List.set_cons_zero, List.set_cons_succ, i64_w, i32_w]
          rfl
         refine pure_ (i := 1) (N := some 84) (v := ?_) (a' := ?_) #[true, true, false, false, false, false, false, false, false, false, false, false, false, false, false, false, false, false, false, false] rfl rfl (any_of HT_.out (by kernel_rfl)) (fun _ _ _ h => h) (Or.inl ⟨by rfl, ?_⟩) ?_ ?_
         rotate_left
         ·intro w'
          go_simp
          with_reducible rfl
         rotate_left
         ·simp only [Act.put, List.setIfInBounds_toArray, List.set_cons_zero, List.set_cons_succ, i64_w, i32_w]
          rfl
         refine pure_ (i := 2) (N := some 85) (v := ?_) (a' := ?_) #[true, true, true, false, false, false, false, false, false, false, false, false, false, false, false, false, false, false, false, false] rfl rfl (any_of HT_.out (by kernel_rfl)) (fun _ _ _ h => h) (Or.inl ⟨by rfl, ?_⟩) ?_ ?_
         rotate_left
         ·intro w'
          go_simp
          with_reducible rfl
         rotate_left
         ·simp only [Act.put, List.setIfInBounds_toArray, List.set_cons_zero, List.set_cons_succ, i64_w, i32_w]
          rfl
         refine pure_ (i := 3) (N := some 86) (v := ?_) (a' := ?_) #[true, true, true, true, false, false, false, false, false, false, false, false, false, false, false, false, false, false, false, false] rfl rfl (any_of HT_.out (by kernel_rfl)) (fun _ _ _ h => h) (Or.inl ⟨by rfl, ?_⟩) ?_ ?_
         rotate_left
         ·intro w'
          go_simp
          with_reducible rfl
         rotate_left
         ·simp only [Act.put, List.setIfInBounds_toArray, List.set_cons_zero, List.set_cons_succ, i64_w, i32_w]
          rfl
         refine pure_ (i := 4) (N := some 87) (v := ?_) (a' := ?_) #[true, true, true, true, true, false, false, false, false, false, false, false, false, false, false, false, false, false, false, false] rfl rfl (any_of HT_.out (by kernel_rfl)) (fun _ _ _ h => h) (Or.inl ⟨by rfl, ?_⟩) ?_ ?_
         rotate_left
         ·intro w'
          go_simp
          with_reducible rfl
         rotate_left
         ·simp only [Act.put, List.setIfInBounds_toArray, List.set_cons_zero, List.set_cons_succ, i64_w, i32_w]
          rfl
         refine pure_ (i := 5) (N := some 88) (v := ?_) (a' := ?_) #[true, true, true, true, true, true, false, false, false, false, false, false, false, false, false, false, false, false, false, false] rfl rfl (any_of HT_.out (by kernel_rfl)) (fun _ _ _ h => h) (Or.inl ⟨by rfl, ?_⟩) ?_ ?_
         rotate_left
         ·intro w'
          go_simp
          with_reducible rfl
         rotate_left
         ·simp only [Act.put, List.setIfInBounds_toArray, List.set_cons_zero, List.set_cons_succ, i64_w, i32_w]
          rfl
         refine pure_ (i := 6) (N := some 89) (v := ?_) (a' := ?_) #[true, true, true, true, true, true, true, false, false, false, false, false, false, false, false, false, false, false, false, false] rfl rfl (any_of HT_.out (by kernel_rfl)) (fun _ _ _ h => h) (Or.inl ⟨by rfl, ?_⟩) ?_ ?_
         rotate_left
         ·intro w'
          go_simp
          with_reducible rfl
         rotate_left
         ·simp only [Act.put, List.setIfInBounds_toArray, List.set_cons_zero, List.set_cons_succ, i64_w, i32_w]
          rfl
         refine pure_ (i := 8) (N := some 91) (v := ?_) (a' := ?_) #[true, true, true, true, true, true, true, false, true, false, false, false, false, false, false, false, false, false, false, false] rfl rfl (any_of HT_.out (by kernel_rfl)) (fun _ _ _ h => h) (Or.inl ⟨by rfl, ?_⟩) ?_ ?_
         rotate_left
         ·intro w'
          go_simp
          with_reducible rfl
         rotate_left
         ·simp only [Act.put, List.setIfInBounds_toArray, List.set_cons_zero, List.set_cons_succ, i64_w, i32_w]
          rfl
         refine pure_ (i := 10) (N := some 93) (v := ?_) (a' := ?_) #[true, true, true, true, true, true, true, false, true, false, true, false, false, false, false, false, false, false, false, false] rfl rfl (any_of HT_.out (by kernel_rfl)) (fun _ _ _ h => h) (Or.inl ⟨by rfl, ?_⟩) ?_ ?_
         rotate_left
         ·intro w'
          go_simp
          with_reducible rfl
         rotate_left
         ·simp only [Act.put, List.setIfInBounds_toArray, List.set_cons_zero, List.set_cons_succ, i64_w, i32_w]
          rfl
         refine pure_ (i := 11) (N := some 94) (v := ?_) (a' := ?_) #[true, true, true, true, true, true, true, false, true, false, true, true, false, false, false, false, false, false, false, false] rfl rfl (any_of HT_.out (by kernel_rfl)) (fun _ _ _ h => h) (Or.inl ⟨by rfl, ?_⟩) ?_ ?_
         rotate_left
         ·intro w'
          go_simp
          with_reducible rfl
         rotate_left
         ·simp only [Act.put, List.setIfInBounds_toArray, List.set_cons_zero, List.set_cons_succ, i64_w, i32_w]
          rfl
         refine pure_ (i := 12) (N := some 95) (v := ?_) (a' := ?_) #[true, true, true, true, true, true, true, false, true, false, true, true, true, false, false, false, false, false, false, false] rfl rfl (any_of HT_.out (by kernel_rfl)) (fun _ _ _ h => h) (Or.inl ⟨by rfl, ?_⟩) ?_ ?_
         rotate_left
         ·intro w'
          go_simp
          with_reducible rfl
         rotate_left
         ·simp only [Act.put, List.setIfInBounds_toArray, List.set_cons_zero, List.set_cons_succ, i64_w, i32_w]
          rfl
         refine pure_ (i := 14) (N := some 97) (v := ?_) (a' := ?_) #[true, true, true, true, true, true, true, false, true, false, true, true, true, false, true, false, false, false, false, false] rfl rfl (any_of HT_.out (by kernel_rfl)) (fun _ _ _ h => h) (Or.inl ⟨by rfl, ?_⟩) ?_ ?_
         rotate_left
         ·intro w'
          go_simp
          with_reducible rfl
         rotate_left
         ·simp only [Act.put, List.setIfInBounds_toArray, List.set_cons_zero, List.set_cons_succ, i64_w, i32_w]
          rfl
         refine take_ (i := 7) (N := some 90) (v := ?_) (a' := ?_) #[true, true, true, true, true, true, true, true, true, false, true, true, true, false, true, false, false, false, false, false] rfl rfl (take_ofW HT_.out HW_.out (by kernel_rfl)) (fun _ _ _ h => h) (Or.inl ⟨by rfl, ?_⟩) hHeld ?_ ?_
         rotate_left
         ·rintro w' ⟨s0, s1⟩
          go_simp
          with_reducible rfl
         rotate_left
         ·simp only [Act.put, List.setIfInBounds_toArray, List.set_cons_zero, List.set_cons_succ, i64_w, i32_w]
          rfl
         refine pure_ (i := 9) (N := some 92) (v := ?_) (a' := ?_) #[true, true, true, true, true, true, true, true, true, true, true, true, true, false, true, false, false, false, false, false] rfl rfl (any_of HT_.out (by kernel_rfl)) (fun _ _ _ h => h) (Or.inl ⟨by rfl, ?_⟩) ?_ ?_
         rotate_left
         ·intro w'
          go_simp
          with_reducible rfl
         rotate_left
         ·simp only [Act.put, List.setIfInBounds_toArray, List.set_cons_zero, List.set_cons_succ, i64_w, i32_w]
          rfl
         refine take_ (i := 13) (N := some 96) (v := ?_) (a' := ?_) #[true, true, true, true, true, true, true, true, true, true, true, true, true, true, true, false, false, false, false, false] rfl rfl (take_ofW HT_.out HW_.out (by kernel_rfl)) (fun _ _ _ h => h) (Or.inl ⟨by rfl, ?_⟩) hHeld ?_ ?_
         rotate_left
         ·rintro w' ⟨s0, s1⟩
          go_simp
          with_reducible rfl
         rotate_left
         ·simp only [Act.put, List.setIfInBounds_toArray, List.set_cons_zero, List.set_cons_succ, i64_w, i32_w]
          rfl
         refine pure_ (i := 15) (N := some 98) (v := ?_) (a' := ?_) #[true, true, true, true, true, true, true, true, true, true, true, true, true, true, true, true, false, false, false, false] rfl rfl (any_of HT_.out (by kernel_rfl)) (fun _ _ _ h => h) (Or.inl ⟨by rfl, ?_⟩) ?_ ?_
         rotate_left
         ·intro w'
          go_simp
          with_reducible rfl
         rotate_left
         ·simp only [Act.put, List.setIfInBounds_toArray, List.set_cons_zero, List.set_cons_succ, i64_w, i32_w]
          rfl
         refine pure_ (i := 16) (N := some 99) (v := ?_) (a' := ?_) #[true, true, true, true, true, true, true, true, true, true, true, true, true, true, true, true, true, false, false, false] rfl rfl (any_of HT_.out (by kernel_rfl)) (fun _ _ _ h => h) (Or.inl ⟨by rfl, ?_⟩) ?_ ?_
         rotate_left
         ·intro w'
          go_simp
          with_reducible rfl
         rotate_left
         ·simp only [Act.put, List.setIfInBounds_toArray, List.set_cons_zero, List.set_cons_succ, i64_w, i32_w]
          rfl
         refine last_ (i := 17) (N := none) #[true, true, true, true, true, true, true, true, true, true, true, true, true, true, true, true, true, true, false, false] rfl rfl (one_of HT_.out (by kernel_rfl)) (by decide) (fun K hK => ?_)
         refine skip_ (w1 := ?_) (by rfl) rfl ?_ ?_
         rotate_left
         ·go_simp
          rfl
         refine hK.out _ _ ?_
         clear hK K
         refine pure_ (i := 18) (N := some 100) (v := ?_) (a' := ?_) #[true, true, true, true, true, true, true, true, true, true, true, true, true, true, true, true, true, true, true, false] rfl rfl (any_of HT_.out (by kernel_rfl)) (fun _ _ _ h => h) (Or.inl ⟨by rfl, ?_⟩) ?_ ?_
         rotate_left
         ·intro w'
          go_simp
          with_reducible rfl
         rotate_left
         ·simp only [Act.put, List.setIfInBounds_toArray, List.set_cons_zero, List.set_cons_succ, i64_w, i32_w]
          rfl
         refine last_ (i := 19) (N := none) #[true, true, true, true, true, true, true, true, true, true, true, true, true, true, true, true, true, true, true, true] rfl rfl (one_of HT_.out (by kernel_rfl)) (by decide) (fun K hK => ?_)
         refine skip_ (w1 := ?_) (by rfl) rfl ?_ ?_
         rotate_left
         ·go_simp
          rfl
         refine hK.out _ _ ?_
         clear hK K
         refine done_ (done_of HT_.out (by kernel_rfl)) ?_
         try go_wp2
         (try simp only [← hl10_2])
         subst hji40
         go_roundg k2
         case measure => have := HK1.out; have := HK2.out; omega
         case rel => (obtain ⟨c1_, h1_⟩ := Kd.R_typed HO_8.out go58 rfl; obtain ⟨c2_, h2_⟩ := Kd.R_typed HO_9.out go60 rfl; have GG58 := Aside0.mk h1_; have GG60 := Aside0.mk h2_; exact ⟨(y227), (y228), (y224), (wrap64 (x44_2 + 1)), (by first | rfl | (simp; done) | (simp [*]; done)), H', ⟨by have := HK1.out; have := HK2.out; omega⟩, ⟨by (try simp only [hl10_1]); (try simp only [hl10_2]); (with_reducible repeat (first | apply Kd.R_alloc | apply Kd.R_drewN | apply Kd.R_drew)); exact Kd.R_mono (Kd.R_far (p := ⟨go60, (((wrap64 (a0_0 + x32_1))) : Int).toNat, none⟩) (Kd.R_mono HQ76.out (fun k_ hk => (⟨hk, fun e_ => hk.2 (by rw [e_]; rfl)⟩ : _ ∧ k_ ≠ go60))) (fun _ hk => hk.2) (.int .i64 ji63)) (fun _ hk => hk.1.2)⟩, ⟨by (try simp only [hl10_1]); (try simp only [hl10_2]); (with_reducible repeat (first | apply Kd.R_alloc | apply Kd.R_drewN | apply Kd.R_drew)); exact Kd.R_mono HQ77.out (fun _ hk => hk.1)⟩, ⟨by (try simp only [hl10_1]); (try simp only [hl10_2]); (with_reducible repeat (first | apply Kd.R_alloc | apply Kd.R_drewN | apply Kd.R_drew)); exact Kd.R_mono (Kd.R_far (p := ⟨go60, (((wrap64 (a0_0 + x32_1))) : Int).toNat, none⟩) (Kd.R_far (p := ⟨go58, (((wrap64 (a0_0 + x32_1))) : Int).toNat, none⟩) (Kd.R_types (Kd.R_types HO_10.out GG58.out (by decide)) GG60.out (by decide)) (fun _ hk => hk.1.2) (.int .i64 ji62)) (fun _ hk => hk.2) (.int .i64 ji63)) (fun _ hk => trivial)⟩, ⟨by (try simp only [hl10_1]); (try simp only [hl10_2]); (with_reducible repeat (first | refine blk_drewN ?_ _ | refine blk_drew ?_ | refine blk_alloc ?_ _)); refine blk_far ?_ (by have h_ := Kd.R_ne HO_9.out BK199.out (by decide); intro e_; exact h_ (by rw [e_]; rfl)) _; (with_reducible repeat (first | refine blk_drewN ?_ _ | refine blk_drew ?_ | refine blk_alloc ?_ _)); refine blk_far ?_ (by have h_ := Kd.R_ne HO_8.out BK199.out (by decide); intro e_; exact h_ (by rw [e_]; rfl)) _; (with_reducible repeat (first | refine blk_drewN ?_ _ | refine blk_drew ?_ | refine blk_alloc ?_ _)); exact BK199.out⟩, ⟨by (try simp only [hl10_1]); (try simp only [hl10_2]); (with_reducible repeat (first | refine blk_drewN ?_ _ | refine blk_drew ?_ | refine blk_alloc ?_ _)); refine blk_far ?_ (by have h_ := Kd.R_ne HO_9.out BK212.out (by decide); intro e_; exact h_ (by rw [e_]; rfl)) _; (with_reducible repeat (first | refine blk_drewN ?_ _ | refine blk_drew ?_ | refine blk_alloc ?_ _)); refine blk_far ?_ (by have h_ := Kd.R_ne HO_8.out BK212.out (by decide); intro e_; exact h_ (by rw [e_]; rfl)) _; (with_reducible repeat (first | refine blk_drewN ?_ _ | refine blk_drew ?_ | refine blk_alloc ?_ _)); exact BK212.out⟩, ⟨by with_reducible repeat (first | exact HB.out | apply below_alloc | apply pw_below_drewN | apply below_drew1 | refine below_set ?_ GB58.out | refine below_set ?_ GB60.out | refine below_set ?_ GE199.out | refine below_set ?_ GE212.out)⟩⟩)
       ·replace c37 := Bool.eq_false_iff.mpr c37
        subst c37
        have H1 : (impl_Circuit_delays.l1 k2 x8_2 x9_2 x10_2 (wrap64 (a0_0 + x32_1)) l0_1 (l0_1.length : Int) x32_1 ((rd_T36 l0_1 x32_1).f2) (((rd_T36 l0_1 x32_1).f2).length : Int) (wrap64 (x44_2 + 1)) a0_0 l0_1 l0_2 a0_3 a0_4 a0_5 a0_6 ((rd_T36 l0_1 x32_1).f0) ((rd_T36 l0_1 x32_1).f1) ((rd_T36 l0_1 x32_1).f2)) = some (r1, r2, r3) := by rw [if_neg (show ¬ (false = true) by decide)] at H; exact H
        clear H
        have H := H1
        clear H1
        have H' := Aside0.mk H
        clear H
        have p213 : 0 ≤ (x44_2 : Int) := of_decide_eq_true (by with_reducible assumption)
        have q213 : x44_2 < (((rd_T36 l0_1 x32_1).f2).length : Int) := of_decide_eq_true (by with_reducible assumption)
        obtain ⟨ad213, e213, hx213_0⟩ := Kd.at_int HR211_2.out x44_2 p213 q213
        cases e213
        replace hx213_0 := (HB.out.cell (World.block_lt_of_cell? w _ hx213_0)).trans hx213_0
        replace p213 := eq_true p213
        replace q213 := eq_true q213
        have p214 : 0 ≤ ((rd ((rd_T36 l0_1 x32_1).f2) x44_2) : Int) := of_decide_eq_true (by with_reducible assumption)
        have q214 : (rd ((rd_T36 l0_1 x32_1).f2) x44_2) < (x10_2.length : Int) := of_decide_eq_true (by with_reducible assumption)
        obtain ⟨ad214, e214, hx214_0⟩ := Kd.at_bool (Kd.R_reads' HO_10.out).2.2 (rd ((rd_T36 l0_1 x32_1).f2) x44_2) p214 q214
        (try rw [← Nbq36.out] at hx214_0)
        obtain rfl : (⟨go9, 0, none⟩ : Addr) = ad214 := (by injection e214)
        (first | simp only [add_plain] at hx214_0 | simp only [add_at] at hx214_0 | simp only [Addr.add, Nat.zero_add] at hx214_0 | skip)
        replace p214 := eq_true p214
        replace q214 := eq_true q214
        go_wp2
        (try simp only [← hl10_2])
        go_roundg k2
        case measure => have := HK1.out; have := HK2.out; omega
        case rel => exact ⟨(x8_2), (x9_2), (x10_2), (wrap64 (x44_2 + 1)), (by first | rfl | (simp; done) | (simp [*]; done)), H', ⟨by have := HK1.out; have := HK2.out; omega⟩, ⟨by (try simp only [hl10_1]); (try simp only [hl10_2]); (with_reducible repeat (first | apply Kd.R_alloc | apply Kd.R_drewN | apply Kd.R_drew)); exact HO_8.out⟩, ⟨by (try simp only [hl10_1]); (try simp only [hl10_2]); (with_reducible repeat (first | apply Kd.R_alloc | apply Kd.R_drewN | apply Kd.R_drew)); exact HO_9.out⟩, ⟨by (try simp only [hl10_1]); (try simp only [hl10_2]); (with_reducible repeat (first | apply Kd.R_alloc | apply Kd.R_drewN | apply Kd.R_drew)); exact HO_10.out⟩, ⟨by (try simp only [hl10_1]); (try simp only [hl10_2]); (with_reducible repeat (first | refine blk_drewN ?_ _ | refine blk_drew ?_ | refine blk_alloc ?_ _)); exact BK199.out⟩, ⟨by (try simp only [hl10_1]); (try simp only [hl10_2]); (with_reducible repeat (first | refine blk_drewN ?_ _ | refine blk_drew ?_ | refine blk_alloc ?_ _)); exact BK212.out⟩, ⟨by with_reducible repeat (first | exact HB.out | apply below_alloc | apply pw_below_drewN | apply below_drew1 | refine below_set ?_ GE199.out | refine below_set ?_ GE212.out)⟩⟩
      ·rw [if_neg c31] at H
       have c31b0 : decide (x44_2 < (((rd_T36 l0_1 x32_1).f2).length : Int)) = false := decide_eq_false c31
       clear c31
       have H' := Aside0.mk H
       clear H
       go_wp2
       (try simp only [← hl10_1, ← hl10_2])
       go_roundg k2
       case measure => have := HK1.out; have := HK2.out; omega
       case rel => exact ⟨(x8_2), (x9_2), (x10_2), (wrap64 (x32_1 + 1)), (by first | rfl | (simp; done) | (simp [*]; done)), H', ⟨by have := HK1.out; have := HK2.out; omega⟩, ⟨by (try simp only [hl10_1]); (try simp only [hl10_2]); (with_reducible repeat (first | apply Kd.R_alloc | apply Kd.R_drewN | apply Kd.R_drew)); exact HO_8.out⟩, ⟨by (try simp only [hl10_1]); (try simp only [hl10_2]); (with_reducible repeat (first | apply Kd.R_alloc | apply Kd.R_drewN | apply Kd.R_drew)); exact HO_9.out⟩, ⟨by (try simp only [hl10_1]); (try simp only [hl10_2]); (with_reducible repeat (first | apply Kd.R_alloc | apply Kd.R_drewN | apply Kd.R_drew)); exact HO_10.out⟩, ⟨by (try simp only [hl10_1]); (try simp only [hl10_2]); (with_reducible repeat (first | refine blk_drewN ?_ _ | refine blk_drew ?_ | refine blk_alloc ?_ _)); exact BK199.out⟩, ⟨by with_reducible repeat (first | exact HB.out | apply below_alloc | apply pw_below_drewN | apply below_drew1 | refine below_set ?_ GE199.out | refine below_set ?_ GE212.out)⟩⟩
   ·rw [if_neg c24] at H
    have c24b0 : decide (x32_1 < (l0_1.length : Int)) = false := decide_eq_false c24
    clear c24
    simp only [Option.some.injEq, Prod.mk.injEq] at H
    obtain ⟨rfl, rfl, rfl⟩ := H
    go_wp2
    go_ret3
    exact ⟨_, _, _, by first | rfl | (simp [errW_none, errW_some] <;> rfl) | (simp [*, errW_none, errW_some] <;> rfl), by (with_reducible repeat (first | apply Kd.R_alloc | apply Kd.R_drewN | apply Kd.R_drew)); exact HO_8.out, by (with_reducible repeat (first | apply Kd.R_alloc | apply Kd.R_drewN | apply Kd.R_drew)); exact HO_9.out, by (with_reducible repeat (first | apply Kd.R_alloc | apply Kd.R_drewN | apply Kd.R_drew)); exact HO_10.out, by with_reducible repeat (first | exact HB.out | apply below_alloc | apply pw_below_drewN | apply below_drew1 | refine below_set ?_ GE199.out)⟩
end Go.Proofs.Ytbkofbcmhddbfaa.Pa

