-- Written for this claim by a program of this session.
import Derived.Test.YtalafmahgeejiaaUPax0
import Derived.Test.YtalafmahgeejiaaUCoreM1
namespace Go.Proofs.Ytalafmahgeejiaa.Pa
open Go.RowKit Go.Proofs.YtalafmahgeejiaaW.PrintWords Go.Proofs.YtalafmahgeejiaaW.PrintLast Go.Proofs.YtalafmahgeejiaaW.PrintMore
attribute [local go_sem] max2_int min2_int max_two min_two max_three min_three max_four min_four   -- for this text's walks alone
set_option linter.unusedVariables false
set_option linter.unusedSimpArgs false

/-! ### spec_l06From: function 85 -/
mutual
def spec_l06From.l0 : Nat → Int → List Int → List Int → Int → Int → List (S62) → List Int → Int → Int → Int → Int → Option (List Int × List Int × Int × Int × Int × Int × Int)
 | 0, _, _, _, _, _, _, _, _, _, _, _ => none
 | k + 1, x1, x6, x7, x8, x1000, x1001, x1002, x1003, x1004, x1005, x1006 => if x8 < x1000 then (if x8 = x1 then (if x6.length < 17592186044416 then (if x7.length < 17592186044416 then (spec_l06From.l0 k x1 (x6 ++ [0]) (x7 ++ [0]) (wrap64 (x8 + 1)) x1000 x1001 x1002 x1003 x1004 x1005 x1006) else (none)) else (none)) else (if x6.length < 17592186044416 then (if x7.length < 17592186044416 then (spec_l06From.l0 k x1 (x6 ++ [(-1)]) (x7 ++ [(-1)]) (wrap64 (x8 + 1)) x1000 x1001 x1002 x1003 x1004 x1005 x1006) else (none)) else (none))) else (spec_l06From.l1 k x6 x7 0 x1000 x1001 x1002 x1003 x1004 x1005 x1006)
def spec_l06From.l1 : Nat → List Int → List Int → Int → Int → List (S62) → List Int → Int → Int → Int → Int → Option (List Int × List Int × Int × Int × Int × Int × Int)
 | 0, _, _, _, _, _, _, _, _, _, _ => none
 | k + 1, x6, x7, x9, x1000, x1001, x1002, x1003, x1004, x1005, x1006 => if x9 < (x1001.length : Int) then (spec_l06From.l2 k x6 x7 x9 (-1) (-1) 0 x1000 x1001 x1002 x1003 x1004 x1005 x1006) else (some (x6, x7, x1000, x1003, x1004, x1005, x1006))
def spec_l06From.l2 : Nat → List Int → List Int → Int → Int → Int → Int → Int → List (S62) → List Int → Int → Int → Int → Int → Option (List Int × List Int × Int × Int × Int × Int × Int)
 | 0, _, _, _, _, _, _, _, _, _, _, _, _, _ => none
 | k + 1, x6, x7, x9, x10, x11, x12, x1000, x1001, x1002, x1003, x1004, x1005, x1006 => if 0 ≤ x9 then (if x9 < (x1001.length : Int) then (if x12 < (((rd_T62 x1001 x9).f2).length : Int) then (if 0 ≤ x12 then (if 0 ≤ (rd ((rd_T62 x1001 x9).f2) x12) then (if (rd ((rd_T62 x1001 x9).f2) x12) < (x7.length : Int) then (if (rd x7 (rd ((rd_T62 x1001 x9).f2) x12)) < 0 then (spec_l06From.l2 k x6 x7 x9 x10 x11 (wrap64 (x12 + 1)) x1000 x1001 x1002 x1003 x1004 x1005 x1006) else (if x10 < 0 then (if (rd ((rd_T62 x1001 x9).f2) x12) < (x6.length : Int) then ((spec_l00Max.f x11 (wrap64 ((rd x7 (rd ((rd_T62 x1001 x9).f2) x12)) + ((rd_T62 x1001 x9).f1)))).bind fun t236 => (spec_l06From.l2 k x6 x7 x9 (wrap64 ((rd x6 (rd ((rd_T62 x1001 x9).f2) x12)) + ((rd_T62 x1001 x9).f0))) t236 (wrap64 (x12 + 1)) x1000 x1001 x1002 x1003 x1004 x1005 x1006)) else (none)) else (if (rd ((rd_T62 x1001 x9).f2) x12) < (x6.length : Int) then (if (wrap64 ((rd x6 (rd ((rd_T62 x1001 x9).f2) x12)) + ((rd_T62 x1001 x9).f0))) < x10 then ((spec_l00Max.f x11 (wrap64 ((rd x7 (rd ((rd_T62 x1001 x9).f2) x12)) + ((rd_T62 x1001 x9).f1)))).bind fun t243 => (spec_l06From.l2 k x6 x7 x9 (wrap64 ((rd x6 (rd ((rd_T62 x1001 x9).f2) x12)) + ((rd_T62 x1001 x9).f0))) t243 (wrap64 (x12 + 1)) x1000 x1001 x1002 x1003 x1004 x1005 x1006)) else ((spec_l00Max.f x11 (wrap64 ((rd x7 (rd ((rd_T62 x1001 x9).f2) x12)) + ((rd_T62 x1001 x9).f1)))).bind fun t246 => (spec_l06From.l2 k x6 x7 x9 x10 t246 (wrap64 (x12 + 1)) x1000 x1001 x1002 x1003 x1004 x1005 x1006))) else (none)))) else (none)) else (none)) else (none)) else (if x6.length < 17592186044416 then (if x7.length < 17592186044416 then (spec_l06From.l1 k (x6 ++ [x10]) (x7 ++ [x11]) (wrap64 (x9 + 1)) x1000 x1001 x1002 x1003 x1004 x1005 x1006) else (none)) else (none))) else (none)) else (none)
end
def spec_l06From.f (k : Nat) (s0_0 : Int) (s0_1 : List (S62)) (s0_2 : List Int) (s0_3 : Int) (s0_4 : Int) (s0_5 : Int) (s0_6 : Int) (a1 : Int) : Option (List Int × List Int × Int × Int × Int × Int × Int) := spec_l06From.l0 k a1 (([] : List Int)) (([] : List Int)) 0 s0_0 s0_1 s0_2 s0_3 s0_4 s0_5 s0_6
set_option maxHeartbeats 8000000 in
set_option maxRecDepth 100000 in
theorem spec_l06From.calls (k : Nat) (g : Nat) (s0_0 : Int) (s0_1 : List (S62)) (s0_2 : List Int) (s0_3 : Int) (s0_4 : Int) (s0_5 : Int) (s0_6 : Int) (a1 : Int) (r1 : List Int) (r2 : List Int) (r3 : Int) (r4 : Int) (r5 : Int) (r6 : Int) (r7 : Int) (w0 w : World) (hI : IsS30 w0 w g s0_0 s0_1 s0_2 s0_3 s0_4 s0_5 s0_6) (hB : Below w0.heap.size w0 w) (h : spec_l06From.f k s0_0 s0_1 s0_2 s0_3 s0_4 s0_5 s0_6 a1 = some (r1, r2, r3, r4, r5, r6, r7)) :
  Calls Try.prog 85 #[.pointer (some ⟨g, 0, none⟩), .int .i64 a1] w fun e w' => ∃ v0_ v1_ : Value, e = .returned (.tuple #[v0_, v1_]) ∧ Kd.R (Kd.int .i64) 2 w' w.heap.size (fun k_ => some k_ ≠ (v1_ : Value).ownBlock) v0_ r1 ∧ Kd.R (Kd.int .i64) 2 w' w.heap.size (fun k_ => some k_ ≠ (v0_ : Value).ownBlock) v1_ r2 ∧ IsS30 w0 w' g r3 s0_1 s0_2 r4 r5 r6 r7 ∧ Below w0.heap.size w0 w' ∧ KeepBut w w' g none := by
 have HI0 := Aside0.mk hI
 have HK := Aside0.mk (KeepBut.refl w g none)
 have HL := Aside0.mk hB.size
 clear hI
 have HW0 := Aside0.mk hB.size
 have HB := Aside0.mk hB
 clear hB
 have H : (spec_l06From.l0 k a1 (([] : List Int)) (([] : List Int)) 0 s0_0 s0_1 s0_2 s0_3 s0_4 s0_5 s0_6) = some (r1, r2, r3, r4, r5, r6, r7) := h
 clear h
 obtain ⟨y204, hy204⟩ : ∃ y_ : List Int, y_ = (([] : List Int)) := ⟨_, rfl⟩
 replace H : (spec_l06From.l0 k a1 y204 (([] : List Int)) 0 s0_0 s0_1 s0_2 s0_3 s0_4 s0_5 s0_6) = some (r1, r2, r3, r4, r5, r6, r7) := by first | (rw [hy204]; with_reducible exact H) | (have H2_ := (Option.bind_some _ _).symm.trans H; rw [hy204]; with_reducible exact H2_) | (have H2_ := (Option.bind_some _ _).symm.trans H; with_reducible exact H2_) | with_reducible exact H | (rw [hy204]; exact H) | exact H
 have Ny204 := Aside0.mk hy204
 clear hy204
 obtain ⟨y207, hy207⟩ : ∃ y_ : List Int, y_ = (([] : List Int)) := ⟨_, rfl⟩
 replace H : (spec_l06From.l0 k a1 y204 y207 0 s0_0 s0_1 s0_2 s0_3 s0_4 s0_5 s0_6) = some (r1, r2, r3, r4, r5, r6, r7) := by first | (rw [hy207]; with_reducible exact H) | (have H2_ := (Option.bind_some _ _).symm.trans H; rw [hy207]; with_reducible exact H2_) | (have H2_ := (Option.bind_some _ _).symm.trans H; with_reducible exact H2_) | with_reducible exact H | (rw [hy207]; exact H) | exact H
 have Ny207 := Aside0.mk hy207
 clear hy207
 have H' := Aside0.mk H
 clear H
 go_enter Try.func85, Try.ntmps85
 go_wp2_with (first | ((with_reducible refine gate_dst (N := 14) rfl ?_); refine Kd.R_lit (Kd.int .i64) _ 2 ?hg (N := 14) ?hd (xs := ([] : List Int)) (inner := []) (ok := fun _ => True) (okp := fun _ => True) ?hr ?hp (fun _ hk => hk) trivial (Below.refl _ _) (Nat.le_refl _) (by simp) ?_; (case hd => rfl); (case hg => rfl); (case hr => first | (go_simp; done) | (go_simp; rfl)); (case hp => exact (Reps.none _ _)); intro v205 w3 ho4 hb hg_ hnew_; clear hg_ hnew_; (first | rw [← Ny204.out] at ho4 | (simp only [Int.reduceToNat] at ho4; rw [← Ny204.out] at ho4)); have n0_ := Aside0.mk (Kd.R_lower ho4 (keep_size (w := w) (g := g) (row := none) (by with_reducible repeat (first | exact HK.out | apply KeepBut.set_ | apply keep_drewN | apply keep_drew | apply keep_alloc)))); have n1_ := Aside0.mk (IsS30.below (by with_reducible repeat (first | exact HI0.out | apply IsS30.alloc | apply IsS30.drewN | apply IsS30.drew | apply IsS30.set_0 | apply IsS30.set_3 | apply IsS30.set_4 | apply IsS30.set_5 | apply IsS30.set_6)) hb); have n2_ := Aside0.mk (KeepBut.trans (by with_reducible repeat (first | exact HK.out | apply KeepBut.set_ | apply keep_drewN | apply keep_drew | apply keep_alloc)) (KeepBut.of_below hb g none) (.inl rfl)); have n3_ := Aside0.mk (below_step (by with_reducible repeat (first | exact HB.out | apply below_alloc | apply pw_below_drewN | apply below_drew1 | refine below_set ?_ (IsS30.ge HI0.out))) hb); clear HI0; clear HK; clear HB; have HO206 := n0_; have HI0 := n1_; have HK := n2_; have HB := n3_; clear n0_ n1_ n2_ n3_; clear hb ho4) | ((with_reducible refine gate_dst (N := 15) rfl ?_); refine Kd.R_lit (Kd.int .i64) _ 2 ?hg (N := 15) ?hd (xs := ([] : List Int)) (inner := []) (ok := fun _ => True) (okp := fun _ => True) ?hr ?hp (fun _ hk => hk) trivial (Below.refl _ _) (Nat.le_refl _) (by simp) ?_; (case hd => rfl); (case hg => rfl); (case hr => first | (go_simp; done) | (go_simp; rfl)); (case hp => exact (Reps.none _ _)); intro v208 w5 ho6 hb hg_ hnew_; clear hg_ hnew_; (first | rw [← Ny207.out] at ho6 | (simp only [Int.reduceToNat] at ho6; rw [← Ny207.out] at ho6)); have n0_ := Aside0.mk (Kd.R_elder' (by (with_reducible repeat (first | apply Kd.R_alloc | apply Kd.R_drewN | apply Kd.R_drew)); exact HO206.out) (Kd.R_base ho6) hb); have n1_ := Aside0.mk (Kd.R_lower (Kd.R_new' ho6 (Kd.R_lt (by (with_reducible repeat (first | apply Kd.R_alloc | apply Kd.R_drewN | apply Kd.R_drew)); exact HO206.out))) (keep_size (w := w) (g := g) (row := none) (by with_reducible repeat (first | exact HK.out | apply KeepBut.set_ | apply keep_drewN | apply keep_drew | apply keep_alloc)))); have n2_ := Aside0.mk (IsS30.below (by with_reducible repeat (first | exact HI0.out | apply IsS30.alloc | apply IsS30.drewN | apply IsS30.drew | apply IsS30.set_0 | apply IsS30.set_3 | apply IsS30.set_4 | apply IsS30.set_5 | apply IsS30.set_6)) hb); have n3_ := Aside0.mk (KeepBut.trans (by with_reducible repeat (first | exact HK.out | apply KeepBut.set_ | apply keep_drewN | apply keep_drew | apply keep_alloc)) (KeepBut.of_below hb g none) (.inl rfl)); have n4_ := Aside0.mk (below_step (by with_reducible repeat (first | exact HB.out | apply below_alloc | apply pw_below_drewN | apply below_drew1 | refine below_set ?_ (IsS30.ge HI0.out))) hb); clear HO206; clear HI0; clear HK; clear HB; have HO206 := n0_; have HO209 := n1_; have HI0 := n2_; have HK := n3_; have HB := n4_; clear n0_ n1_ n2_ n3_ n4_; clear hb ho6))
 repeat (go_quiet (fail); try go_wp2_with (first | ((with_reducible refine gate_dst (N := 14) rfl ?_); refine Kd.R_lit (Kd.int .i64) _ 2 ?hg (N := 14) ?hd (xs := ([] : List Int)) (inner := []) (ok := fun _ => True) (okp := fun _ => True) ?hr ?hp (fun _ hk => hk) trivial (Below.refl _ _) (Nat.le_refl _) (by simp) ?_; (case hd => rfl); (case hg => rfl); (case hr => first | (go_simp; done) | (go_simp; rfl)); (case hp => exact (Reps.none _ _)); intro v205 w3 ho4 hb hg_ hnew_; clear hg_ hnew_; (first | rw [← Ny204.out] at ho4 | (simp only [Int.reduceToNat] at ho4; rw [← Ny204.out] at ho4)); have n0_ := Aside0.mk (Kd.R_lower ho4 (keep_size (w := w) (g := g) (row := none) (by with_reducible repeat (first | exact HK.out | apply KeepBut.set_ | apply keep_drewN | apply keep_drew | apply keep_alloc)))); have n1_ := Aside0.mk (IsS30.below (by with_reducible repeat (first | exact HI0.out | apply IsS30.alloc | apply IsS30.drewN | apply IsS30.drew | apply IsS30.set_0 | apply IsS30.set_3 | apply IsS30.set_4 | apply IsS30.set_5 | apply IsS30.set_6)) hb); have n2_ := Aside0.mk (KeepBut.trans (by with_reducible repeat (first | exact HK.out | apply KeepBut.set_ | apply keep_drewN | apply keep_drew | apply keep_alloc)) (KeepBut.of_below hb g none) (.inl rfl)); have n3_ := Aside0.mk (below_step (by with_reducible repeat (first | exact HB.out | apply below_alloc | apply pw_below_drewN | apply below_drew1 | refine below_set ?_ (IsS30.ge HI0.out))) hb); clear HI0; clear HK; clear HB; have HO206 := n0_; have HI0 := n1_; have HK := n2_; have HB := n3_; clear n0_ n1_ n2_ n3_; clear hb ho4) | ((with_reducible refine gate_dst (N := 15) rfl ?_); refine Kd.R_lit (Kd.int .i64) _ 2 ?hg (N := 15) ?hd (xs := ([] : List Int)) (inner := []) (ok := fun _ => True) (okp := fun _ => True) ?hr ?hp (fun _ hk => hk) trivial (Below.refl _ _) (Nat.le_refl _) (by simp) ?_; (case hd => rfl); (case hg => rfl); (case hr => first | (go_simp; done) | (go_simp; rfl)); (case hp => exact (Reps.none _ _)); intro v208 w5 ho6 hb hg_ hnew_; clear hg_ hnew_; (first | rw [← Ny207.out] at ho6 | (simp only [Int.reduceToNat] at ho6; rw [← Ny207.out] at ho6)); have n0_ := Aside0.mk (Kd.R_elder' (by (with_reducible repeat (first | apply Kd.R_alloc | apply Kd.R_drewN | apply Kd.R_drew)); exact HO206.out) (Kd.R_base ho6) hb); have n1_ := Aside0.mk (Kd.R_lower (Kd.R_new' ho6 (Kd.R_lt (by (with_reducible repeat (first | apply Kd.R_alloc | apply Kd.R_drewN | apply Kd.R_drew)); exact HO206.out))) (keep_size (w := w) (g := g) (row := none) (by with_reducible repeat (first | exact HK.out | apply KeepBut.set_ | apply keep_drewN | apply keep_drew | apply keep_alloc)))); have n2_ := Aside0.mk (IsS30.below (by with_reducible repeat (first | exact HI0.out | apply IsS30.alloc | apply IsS30.drewN | apply IsS30.drew | apply IsS30.set_0 | apply IsS30.set_3 | apply IsS30.set_4 | apply IsS30.set_5 | apply IsS30.set_6)) hb); have n3_ := Aside0.mk (KeepBut.trans (by with_reducible repeat (first | exact HK.out | apply KeepBut.set_ | apply keep_drewN | apply keep_drew | apply keep_alloc)) (KeepBut.of_below hb g none) (.inl rfl)); have n4_ := Aside0.mk (below_step (by with_reducible repeat (first | exact HB.out | apply below_alloc | apply pw_below_drewN | apply below_drew1 | refine below_set ?_ (IsS30.ge HI0.out))) hb); clear HO206; clear HI0; clear HK; clear HB; have HO206 := n0_; have HO209 := n1_; have HI0 := n2_; have HK := n3_; have HB := n4_; clear n0_ n1_ n2_ n3_ n4_; clear hb ho6)))
 go_loopg [6, 7, 8] k (fun kq v6 v7 v8 w' => ∃ (x6_1 : List Int) (x7_1 : List Int) (x8_1 : Int), v8 = .int .i64 x8_1 ∧ Aside0 (spec_l06From.l0 kq a1 x6_1 x7_1 x8_1 s0_0 s0_1 s0_2 s0_3 s0_4 s0_5 s0_6 = some (r1, r2, r3, r4, r5, r6, r7)) ∧ Aside0 (kq ≤ k) ∧ Aside0 (Kd.R (Kd.int .i64) 2 w' w.heap.size (fun k_ => some k_ ≠ (v7 : Value).ownBlock) v6 x6_1) ∧ Aside0 (Kd.R (Kd.int .i64) 2 w' w.heap.size (fun k_ => some k_ ≠ (v6 : Value).ownBlock) v7 x7_1) ∧ Aside0 (IsS30 w0 w' g s0_0 s0_1 s0_2 s0_3 s0_4 s0_5 s0_6) ∧ Aside0 (KeepBut w w' g none) ∧ Aside0 (Below w0.heap.size w0 w'))
 case atStart => exact ⟨(y204), (y207), (0), (by first | rfl | (simp; done) | (simp [*]; done)), H', ⟨Nat.le_refl _⟩, ⟨by (with_reducible repeat (first | apply Kd.R_alloc | apply Kd.R_drewN | apply Kd.R_drew)); exact Kd.R_mono HO206.out (fun _ hk => hk.2)⟩, ⟨by (with_reducible repeat (first | apply Kd.R_alloc | apply Kd.R_drewN | apply Kd.R_drew)); exact Kd.R_mono HO209.out (fun _ hk => hk.2)⟩, ⟨by with_reducible repeat (first | exact HI0.out | apply IsS30.alloc | apply IsS30.drewN | apply IsS30.drew | apply IsS30.set_0 | apply IsS30.set_3 | apply IsS30.set_4 | apply IsS30.set_5 | apply IsS30.set_6)⟩, ⟨by with_reducible repeat (first | exact HK.out | apply KeepBut.set_ | apply keep_drewN | apply keep_drew | apply keep_alloc)⟩, ⟨by with_reducible repeat (first | exact HB.out | apply below_alloc | apply pw_below_drewN | apply below_drew1 | refine below_set ?_ (IsS30.ge HI0.out))⟩⟩
 case round =>
  clear H'
  try clear p2
  obtain ⟨x6_1, x7_1, x8_1, rfl, HA, HK1, HO_6, HO_7, HI0, HK, HB⟩ := hrel
  cases gk with
  | zero => exact absurd HA.out (by simp [spec_l06From.l0])
  | succ k1 =>
   have H := HA.out
   clear HA
   simp only [spec_l06From.l0] at H
   by_cases c7 : x8_1 < s0_0
   ·rw [if_pos c7] at H
    have c7b0 : decide (x8_1 < s0_0) = true := decide_eq_true c7
    clear c7
    by_cases c8 : x8_1 = a1
    ·rw [if_pos c8] at H
     have c8b0 : (x8_1 == a1) = true := beq_iff_eq.mpr c8
     have c8b1 : (x8_1 != a1) = false := bne_eq_false_iff_eq.mpr c8
     clear c8
     by_cases c9 : x6_1.length < 17592186044416
     case neg => rw [if_neg c9] at H; exact absurd H (by simp)
     rw [if_pos c9] at H
     have LMc9 := Aside0.mk c9
     clear c9
     obtain ⟨y210, hy210⟩ : ∃ y_ : List Int, y_ = (x6_1 ++ [0]) := ⟨_, rfl⟩
     replace H : (if x7_1.length < 17592186044416 then (spec_l06From.l0 k1 a1 y210 (x7_1 ++ [0]) (wrap64 (x8_1 + 1)) s0_0 s0_1 s0_2 s0_3 s0_4 s0_5 s0_6) else (none)) = some (r1, r2, r3, r4, r5, r6, r7) := by first | (rw [hy210]; with_reducible exact H) | (have H2_ := (Option.bind_some _ _).symm.trans H; rw [hy210]; with_reducible exact H2_) | (have H2_ := (Option.bind_some _ _).symm.trans H; with_reducible exact H2_) | with_reducible exact H | (rw [hy210]; exact H) | exact H
     have Ny210 := Aside0.mk hy210
     clear hy210
     by_cases c10 : x7_1.length < 17592186044416
     case neg => rw [if_neg c10] at H; exact absurd H (by simp)
     rw [if_pos c10] at H
     have LMc10 := Aside0.mk c10
     clear c10
     obtain ⟨y213, hy213⟩ : ∃ y_ : List Int, y_ = (x7_1 ++ [0]) := ⟨_, rfl⟩
     replace H : (spec_l06From.l0 k1 a1 y210 y213 (wrap64 (x8_1 + 1)) s0_0 s0_1 s0_2 s0_3 s0_4 s0_5 s0_6) = some (r1, r2, r3, r4, r5, r6, r7) := by first | (rw [hy213]; with_reducible exact H) | (have H2_ := (Option.bind_some _ _).symm.trans H; rw [hy213]; with_reducible exact H2_) | (have H2_ := (Option.bind_some _ _).symm.trans H; with_reducible exact H2_) | with_reducible exact H | (rw [hy213]; exact H) | exact H
     have Ny213 := Aside0.mk hy213
     clear hy213
     have H' := Aside0.mk H
     clear H
     obtain ⟨ASz11_1, cSz11_1, ASz11_2, cSz11_2, HGz11, hgz11, HSz11_1, HSz11_2⟩ := HI0.out
     have hcz11_0 := cellS30_0 HGz11
     have hcz11_1 := cellS30_1 HGz11
     have hcz11_2 := cellS30_2 HGz11
     have hcz11_3 := cellS30_3 HGz11
     have hcz11_4 := cellS30_4 HGz11
     have hcz11_5 := cellS30_5 HGz11
     have hcz11_6 := cellS30_6 HGz11
     have hfz11_0 := blk_frozen HGz11 0
     have hfz11_3 := blk_frozen HGz11 3
     have hfz11_4 := blk_frozen HGz11 4
     have hfz11_5 := blk_frozen HGz11 5
     have hfz11_6 := blk_frozen HGz11 6
     clear HGz11 hgz11
     go_wp2_with (first | ((with_reducible refine gate_builtin (b := .append) (xs := #[.tmp 27, .tmp 28]) rfl ?_); at_builtin; refine Kd.R_append (Kd.int .i64) w.heap.size rfl (.tmp 27) (.tmp 28) 23 2 (.int .i64 0) 8 rfl Try.underlying23 info2 rfl (by decide) (by omega) u6 x6_1 0 [.int .i64 0] (fun k_ => some k_ ≠ (u7 : Value).ownBlock) (fun _ => False) rfl rfl ?aP (fun _ hk => hk.elim) ?aF ?aO (Below.refl _ _) ?aS ?aL ?_; (case aP => exact rfl); (case aF => exact (fun k_ hk => Kd.fresh' (Kd.R_lt (by (with_reducible repeat (first | apply Kd.R_alloc | apply Kd.R_drewN | apply Kd.R_drew)); exact HO_7.out)) k_ hk)); (case aO => exact (by (with_reducible repeat (first | apply Kd.R_alloc | apply Kd.R_drewN | apply Kd.R_drew)); exact HO_6.out)); (case aS => exact (keep_size (w := w) (g := g) (row := none) (by with_reducible repeat (first | exact HK.out | apply KeepBut.set_ | apply keep_drewN | apply keep_drew | apply keep_alloc)))); (case aL => have := LMc9.out; omega); intro v211 w12 ho hb hg hat; rw [← Ny210.out] at ho; have n0_ := Aside0.mk (Kd.R_after (ok := (fun _ => True)) (by (with_reducible repeat (first | apply Kd.R_alloc | apply Kd.R_drewN | apply Kd.R_drew)); exact Kd.R_mono HO_7.out (fun _ hk => ⟨trivial, hk⟩)) hg hat); have n1_ := Aside0.mk (IsS30.grown (by with_reducible repeat (first | exact HI0.out | apply IsS30.alloc | apply IsS30.drewN | apply IsS30.drew | apply IsS30.set_0 | apply IsS30.set_3 | apply IsS30.set_4 | apply IsS30.set_5 | apply IsS30.set_6)) hg (IsS30.own_ne HI0.out HO_6.out (by decide))); have n2_ := Aside0.mk (below_weaken (by with_reducible repeat (first | exact HB.out | apply below_alloc | apply pw_below_drewN | apply below_drew1 | refine below_set ?_ (IsS30.ge HI0.out))) HL.out hb); have n3_ := Aside0.mk (KeepBut.trans (by with_reducible repeat (first | exact HK.out | apply KeepBut.set_ | apply keep_drewN | apply keep_drew | apply keep_alloc)) (KeepBut.of_grown hg g) (Kd.R_base2 HO_6.out)); have n4_ := Aside0.mk (ho); clear HO_7; clear HI0; clear HB; clear HK; clear HO_6; have HO_7 := n0_; have HI0 := n1_; have HB := n2_; have HK := n3_; have HO212 := n4_; clear n0_ n1_ n2_ n3_ n4_; clear ho hb hg hat) | ((with_reducible refine gate_builtin (b := .append) (xs := #[.tmp 30, .tmp 31]) rfl ?_); at_builtin; refine Kd.R_append (Kd.int .i64) w.heap.size rfl (.tmp 30) (.tmp 31) 23 2 (.int .i64 0) 8 rfl Try.underlying23 info2 rfl (by decide) (by omega) u7 x7_1 0 [.int .i64 0] (fun k_ => some k_ ≠ (v211 : Value).ownBlock) (fun _ => False) rfl rfl ?aP (fun _ hk => hk.elim) ?aF ?aO (Below.refl _ _) ?aS ?aL ?_; (case aP => exact rfl); (case aF => exact (fun k_ hk => Kd.fresh' (Kd.R_lt (by (with_reducible repeat (first | apply Kd.R_alloc | apply Kd.R_drewN | apply Kd.R_drew)); exact HO212.out)) k_ hk)); (case aO => exact (by (with_reducible repeat (first | apply Kd.R_alloc | apply Kd.R_drewN | apply Kd.R_drew)); exact Kd.R_mono HO_7.out (fun _ hk => hk.2))); (case aS => exact (keep_size (w := w) (g := g) (row := none) (by with_reducible repeat (first | exact HK.out | apply KeepBut.set_ | apply keep_drewN | apply keep_drew | apply keep_alloc)))); (case aL => have := LMc10.out; omega); intro v214 w13 ho hb hg hat; rw [← Ny213.out] at ho; have n0_ := Aside0.mk (IsS30.grown (by with_reducible repeat (first | exact HI0.out | apply IsS30.alloc | apply IsS30.drewN | apply IsS30.drew | apply IsS30.set_0 | apply IsS30.set_3 | apply IsS30.set_4 | apply IsS30.set_5 | apply IsS30.set_6)) hg (IsS30.own_ne HI0.out HO_7.out (by decide))); have n1_ := Aside0.mk (Kd.R_after (ok := (fun _ => True)) (by (with_reducible repeat (first | apply Kd.R_alloc | apply Kd.R_drewN | apply Kd.R_drew)); exact Kd.R_mono HO212.out (fun _ hk => ⟨trivial, hk⟩)) hg hat); have n2_ := Aside0.mk (below_weaken (by with_reducible repeat (first | exact HB.out | apply below_alloc | apply pw_below_drewN | apply below_drew1 | refine below_set ?_ (IsS30.ge HI0.out))) HL.out hb); have n3_ := Aside0.mk (KeepBut.trans (by with_reducible repeat (first | exact HK.out | apply KeepBut.set_ | apply keep_drewN | apply keep_drew | apply keep_alloc)) (KeepBut.of_grown hg g) (Kd.R_base2 HO_7.out)); have n4_ := Aside0.mk (ho); clear HI0; clear HO212; clear HB; clear HK; clear HO_7; have HI0 := n0_; have HO212 := n1_; have HB := n2_; have HK := n3_; have HO215 := n4_; clear n0_ n1_ n2_ n3_ n4_; clear ho hb hg hat))
     repeat (go_quiet (fail); try go_wp2_with (first | ((with_reducible refine gate_builtin (b := .append) (xs := #[.tmp 27, .tmp 28]) rfl ?_); at_builtin; refine Kd.R_append (Kd.int .i64) w.heap.size rfl (.tmp 27) (.tmp 28) 23 2 (.int .i64 0) 8 rfl Try.underlying23 info2 rfl (by decide) (by omega) u6 x6_1 0 [.int .i64 0] (fun k_ => some k_ ≠ (u7 : Value).ownBlock) (fun _ => False) rfl rfl ?aP (fun _ hk => hk.elim) ?aF ?aO (Below.refl _ _) ?aS ?aL ?_; (case aP => exact rfl); (case aF => exact (fun k_ hk => Kd.fresh' (Kd.R_lt (by (with_reducible repeat (first | apply Kd.R_alloc | apply Kd.R_drewN | apply Kd.R_drew)); exact HO_7.out)) k_ hk)); (case aO => exact (by (with_reducible repeat (first | apply Kd.R_alloc | apply Kd.R_drewN | apply Kd.R_drew)); exact HO_6.out)); (case aS => exact (keep_size (w := w) (g := g) (row := none) (by with_reducible repeat (first | exact HK.out | apply KeepBut.set_ | apply keep_drewN | apply keep_drew | apply keep_alloc)))); (case aL => have := LMc9.out; omega); intro v211 w12 ho hb hg hat; rw [← Ny210.out] at ho; have n0_ := Aside0.mk (Kd.R_after (ok := (fun _ => True)) (by (with_reducible repeat (first | apply Kd.R_alloc | apply Kd.R_drewN | apply Kd.R_drew)); exact Kd.R_mono HO_7.out (fun _ hk => ⟨trivial, hk⟩)) hg hat); have n1_ := Aside0.mk (IsS30.grown (by with_reducible repeat (first | exact HI0.out | apply IsS30.alloc | apply IsS30.drewN | apply IsS30.drew | apply IsS30.set_0 | apply IsS30.set_3 | apply IsS30.set_4 | apply IsS30.set_5 | apply IsS30.set_6)) hg (IsS30.own_ne HI0.out HO_6.out (by decide))); have n2_ := Aside0.mk (below_weaken (by with_reducible repeat (first | exact HB.out | apply below_alloc | apply pw_below_drewN | apply below_drew1 | refine below_set ?_ (IsS30.ge HI0.out))) HL.out hb); have n3_ := Aside0.mk (KeepBut.trans (by with_reducible repeat (first | exact HK.out | apply KeepBut.set_ | apply keep_drewN | apply keep_drew | apply keep_alloc)) (KeepBut.of_grown hg g) (Kd.R_base2 HO_6.out)); have n4_ := Aside0.mk (ho); clear HO_7; clear HI0; clear HB; clear HK; clear HO_6; have HO_7 := n0_; have HI0 := n1_; have HB := n2_; have HK := n3_; have HO212 := n4_; clear n0_ n1_ n2_ n3_ n4_; clear ho hb hg hat) | ((with_reducible refine gate_builtin (b := .append) (xs := #[.tmp 30, .tmp 31]) rfl ?_); at_builtin; refine Kd.R_append (Kd.int .i64) w.heap.size rfl (.tmp 30) (.tmp 31) 23 2 (.int .i64 0) 8 rfl Try.underlying23 info2 rfl (by decide) (by omega) u7 x7_1 0 [.int .i64 0] (fun k_ => some k_ ≠ (v211 : Value).ownBlock) (fun _ => False) rfl rfl ?aP (fun _ hk => hk.elim) ?aF ?aO (Below.refl _ _) ?aS ?aL ?_; (case aP => exact rfl); (case aF => exact (fun k_ hk => Kd.fresh' (Kd.R_lt (by (with_reducible repeat (first | apply Kd.R_alloc | apply Kd.R_drewN | apply Kd.R_drew)); exact HO212.out)) k_ hk)); (case aO => exact (by (with_reducible repeat (first | apply Kd.R_alloc | apply Kd.R_drewN | apply Kd.R_drew)); exact Kd.R_mono HO_7.out (fun _ hk => hk.2))); (case aS => exact (keep_size (w := w) (g := g) (row := none) (by with_reducible repeat (first | exact HK.out | apply KeepBut.set_ | apply keep_drewN | apply keep_drew | apply keep_alloc)))); (case aL => have := LMc10.out; omega); intro v214 w13 ho hb hg hat; rw [← Ny213.out] at ho; have n0_ := Aside0.mk (IsS30.grown (by with_reducible repeat (first | exact HI0.out | apply IsS30.alloc | apply IsS30.drewN | apply IsS30.drew | apply IsS30.set_0 | apply IsS30.set_3 | apply IsS30.set_4 | apply IsS30.set_5 | apply IsS30.set_6)) hg (IsS30.own_ne HI0.out HO_7.out (by decide))); have n1_ := Aside0.mk (Kd.R_after (ok := (fun _ => True)) (by (with_reducible repeat (first | apply Kd.R_alloc | apply Kd.R_drewN | apply Kd.R_drew)); exact Kd.R_mono HO212.out (fun _ hk => ⟨trivial, hk⟩)) hg hat); have n2_ := Aside0.mk (below_weaken (by with_reducible repeat (first | exact HB.out | apply below_alloc | apply pw_below_drewN | apply below_drew1 | refine below_set ?_ (IsS30.ge HI0.out))) HL.out hb); have n3_ := Aside0.mk (KeepBut.trans (by with_reducible repeat (first | exact HK.out | apply KeepBut.set_ | apply keep_drewN | apply keep_drew | apply keep_alloc)) (KeepBut.of_grown hg g) (Kd.R_base2 HO_7.out)); have n4_ := Aside0.mk (ho); clear HI0; clear HO212; clear HB; clear HK; clear HO_7; have HI0 := n0_; have HO212 := n1_; have HB := n2_; have HK := n3_; have HO215 := n4_; clear n0_ n1_ n2_ n3_ n4_; clear ho hb hg hat)))
     go_roundg k1
     case measure => have := HK1.out; omega
     case rel => exact ⟨(y210), (y213), (wrap64 (x8_1 + 1)), (by first | rfl | (simp; done) | (simp [*]; done)), H', ⟨by have := HK1.out; omega⟩, ⟨by (with_reducible repeat (first | apply Kd.R_alloc | apply Kd.R_drewN | apply Kd.R_drew)); exact Kd.R_mono HO212.out (fun _ hk => hk.2)⟩, ⟨by (with_reducible repeat (first | apply Kd.R_alloc | apply Kd.R_drewN | apply Kd.R_drew)); exact HO215.out⟩, ⟨by with_reducible repeat (first | exact HI0.out | apply IsS30.alloc | apply IsS30.drewN | apply IsS30.drew | apply IsS30.set_0 | apply IsS30.set_3 | apply IsS30.set_4 | apply IsS30.set_5 | apply IsS30.set_6)⟩, ⟨by with_reducible repeat (first | exact HK.out | apply KeepBut.set_ | apply keep_drewN | apply keep_drew | apply keep_alloc)⟩, ⟨by with_reducible repeat (first | exact HB.out | apply below_alloc | apply pw_below_drewN | apply below_drew1 | refine below_set ?_ (IsS30.ge HI0.out))⟩⟩
    ·rw [if_neg c8] at H
     have c8b0 : (x8_1 == a1) = false := beq_eq_false_iff_ne.mpr c8
     have c8b1 : (x8_1 != a1) = true := bne_iff_ne.mpr c8
     by_cases c14 : x6_1.length < 17592186044416
     case neg => rw [if_neg c14] at H; exact absurd H (by simp)
     rw [if_pos c14] at H
     have LMc14 := Aside0.mk c14
     clear c14
     obtain ⟨y216, hy216⟩ : ∃ y_ : List Int, y_ = (x6_1 ++ [(-1)]) := ⟨_, rfl⟩
     replace H : (if x7_1.length < 17592186044416 then (spec_l06From.l0 k1 a1 y216 (x7_1 ++ [(-1)]) (wrap64 (x8_1 + 1)) s0_0 s0_1 s0_2 s0_3 s0_4 s0_5 s0_6) else (none)) = some (r1, r2, r3, r4, r5, r6, r7) := by first | (rw [hy216]; with_reducible exact H) | (have H2_ := (Option.bind_some _ _).symm.trans H; rw [hy216]; with_reducible exact H2_) | (have H2_ := (Option.bind_some _ _).symm.trans H; with_reducible exact H2_) | with_reducible exact H | (rw [hy216]; exact H) | exact H
     have Ny216 := Aside0.mk hy216
     clear hy216
     by_cases c15 : x7_1.length < 17592186044416
     case neg => rw [if_neg c15] at H; exact absurd H (by simp)
     rw [if_pos c15] at H
     have LMc15 := Aside0.mk c15
     clear c15
     obtain ⟨y219, hy219⟩ : ∃ y_ : List Int, y_ = (x7_1 ++ [(-1)]) := ⟨_, rfl⟩
     replace H : (spec_l06From.l0 k1 a1 y216 y219 (wrap64 (x8_1 + 1)) s0_0 s0_1 s0_2 s0_3 s0_4 s0_5 s0_6) = some (r1, r2, r3, r4, r5, r6, r7) := by first | (rw [hy219]; with_reducible exact H) | (have H2_ := (Option.bind_some _ _).symm.trans H; rw [hy219]; with_reducible exact H2_) | (have H2_ := (Option.bind_some _ _).symm.trans H; with_reducible exact H2_) | with_reducible exact H | (rw [hy219]; exact H) | exact H
     have Ny219 := Aside0.mk hy219
     clear hy219
     have H' := Aside0.mk H
     clear H
     obtain ⟨ASz16_1, cSz16_1, ASz16_2, cSz16_2, HGz16, hgz16, HSz16_1, HSz16_2⟩ := HI0.out
     have hcz16_0 := cellS30_0 HGz16
     have hcz16_1 := cellS30_1 HGz16
     have hcz16_2 := cellS30_2 HGz16
     have hcz16_3 := cellS30_3 HGz16
     have hcz16_4 := cellS30_4 HGz16
     have hcz16_5 := cellS30_5 HGz16
     have hcz16_6 := cellS30_6 HGz16
     have hfz16_0 := blk_frozen HGz16 0
     have hfz16_3 := blk_frozen HGz16 3
     have hfz16_4 := blk_frozen HGz16 4
     have hfz16_5 := blk_frozen HGz16 5
     have hfz16_6 := blk_frozen HGz16 6
     clear HGz16 hgz16
     go_wp2_with (first | ((with_reducible refine gate_builtin (b := .append) (xs := #[.tmp 33, .tmp 34]) rfl ?_); at_builtin; refine Kd.R_append (Kd.int .i64) w.heap.size rfl (.tmp 33) (.tmp 34) 23 2 (.int .i64 0) 8 rfl Try.underlying23 info2 rfl (by decide) (by omega) u6 x6_1 (-1) [.int .i64 (-1)] (fun k_ => some k_ ≠ (u7 : Value).ownBlock) (fun _ => False) rfl rfl ?aP (fun _ hk => hk.elim) ?aF ?aO (Below.refl _ _) ?aS ?aL ?_; (case aP => exact rfl); (case aF => exact (fun k_ hk => Kd.fresh' (Kd.R_lt (by (with_reducible repeat (first | apply Kd.R_alloc | apply Kd.R_drewN | apply Kd.R_drew)); exact HO_7.out)) k_ hk)); (case aO => exact (by (with_reducible repeat (first | apply Kd.R_alloc | apply Kd.R_drewN | apply Kd.R_drew)); exact HO_6.out)); (case aS => exact (keep_size (w := w) (g := g) (row := none) (by with_reducible repeat (first | exact HK.out | apply KeepBut.set_ | apply keep_drewN | apply keep_drew | apply keep_alloc)))); (case aL => have := LMc14.out; omega); intro v217 w17 ho hb hg hat; rw [← Ny216.out] at ho; have n0_ := Aside0.mk (Kd.R_after (ok := (fun _ => True)) (by (with_reducible repeat (first | apply Kd.R_alloc | apply Kd.R_drewN | apply Kd.R_drew)); exact Kd.R_mono HO_7.out (fun _ hk => ⟨trivial, hk⟩)) hg hat); have n1_ := Aside0.mk (IsS30.grown (by with_reducible repeat (first | exact HI0.out | apply IsS30.alloc | apply IsS30.drewN | apply IsS30.drew | apply IsS30.set_0 | apply IsS30.set_3 | apply IsS30.set_4 | apply IsS30.set_5 | apply IsS30.set_6)) hg (IsS30.own_ne HI0.out HO_6.out (by decide))); have n2_ := Aside0.mk (below_weaken (by with_reducible repeat (first | exact HB.out | apply below_alloc | apply pw_below_drewN | apply below_drew1 | refine below_set ?_ (IsS30.ge HI0.out))) HL.out hb); have n3_ := Aside0.mk (KeepBut.trans (by with_reducible repeat (first | exact HK.out | apply KeepBut.set_ | apply keep_drewN | apply keep_drew | apply keep_alloc)) (KeepBut.of_grown hg g) (Kd.R_base2 HO_6.out)); have n4_ := Aside0.mk (ho); clear HO_7; clear HI0; clear HB; clear HK; clear HO_6; have HO_7 := n0_; have HI0 := n1_; have HB := n2_; have HK := n3_; have HO218 := n4_; clear n0_ n1_ n2_ n3_ n4_; clear ho hb hg hat) | ((with_reducible refine gate_builtin (b := .append) (xs := #[.tmp 36, .tmp 37]) rfl ?_); at_builtin; refine Kd.R_append (Kd.int .i64) w.heap.size rfl (.tmp 36) (.tmp 37) 23 2 (.int .i64 0) 8 rfl Try.underlying23 info2 rfl (by decide) (by omega) u7 x7_1 (-1) [.int .i64 (-1)] (fun k_ => some k_ ≠ (v217 : Value).ownBlock) (fun _ => False) rfl rfl ?aP (fun _ hk => hk.elim) ?aF ?aO (Below.refl _ _) ?aS ?aL ?_; (case aP => exact rfl); (case aF => exact (fun k_ hk => Kd.fresh' (Kd.R_lt (by (with_reducible repeat (first | apply Kd.R_alloc | apply Kd.R_drewN | apply Kd.R_drew)); exact HO218.out)) k_ hk)); (case aO => exact (by (with_reducible repeat (first | apply Kd.R_alloc | apply Kd.R_drewN | apply Kd.R_drew)); exact Kd.R_mono HO_7.out (fun _ hk => hk.2))); (case aS => exact (keep_size (w := w) (g := g) (row := none) (by with_reducible repeat (first | exact HK.out | apply KeepBut.set_ | apply keep_drewN | apply keep_drew | apply keep_alloc)))); (case aL => have := LMc15.out; omega); intro v220 w18 ho hb hg hat; rw [← Ny219.out] at ho; have n0_ := Aside0.mk (IsS30.grown (by with_reducible repeat (first | exact HI0.out | apply IsS30.alloc | apply IsS30.drewN | apply IsS30.drew | apply IsS30.set_0 | apply IsS30.set_3 | apply IsS30.set_4 | apply IsS30.set_5 | apply IsS30.set_6)) hg (IsS30.own_ne HI0.out HO_7.out (by decide))); have n1_ := Aside0.mk (Kd.R_after (ok := (fun _ => True)) (by (with_reducible repeat (first | apply Kd.R_alloc | apply Kd.R_drewN | apply Kd.R_drew)); exact Kd.R_mono HO218.out (fun _ hk => ⟨trivial, hk⟩)) hg hat); have n2_ := Aside0.mk (below_weaken (by with_reducible repeat (first | exact HB.out | apply below_alloc | apply pw_below_drewN | apply below_drew1 | refine below_set ?_ (IsS30.ge HI0.out))) HL.out hb); have n3_ := Aside0.mk (KeepBut.trans (by with_reducible repeat (first | exact HK.out | apply KeepBut.set_ | apply keep_drewN | apply keep_drew | apply keep_alloc)) (KeepBut.of_grown hg g) (Kd.R_base2 HO_7.out)); have n4_ := Aside0.mk (ho); clear HI0; clear HO218; clear HB; clear HK; clear HO_7; have HI0 := n0_; have HO218 := n1_; have HB := n2_; have HK := n3_; have HO221 := n4_; clear n0_ n1_ n2_ n3_ n4_; clear ho hb hg hat))
     repeat (go_quiet (fail); try go_wp2_with (first | ((with_reducible refine gate_builtin (b := .append) (xs := #[.tmp 33, .tmp 34]) rfl ?_); at_builtin; refine Kd.R_append (Kd.int .i64) w.heap.size rfl (.tmp 33) (.tmp 34) 23 2 (.int .i64 0) 8 rfl Try.underlying23 info2 rfl (by decide) (by omega) u6 x6_1 (-1) [.int .i64 (-1)] (fun k_ => some k_ ≠ (u7 : Value).ownBlock) (fun _ => False) rfl rfl ?aP (fun _ hk => hk.elim) ?aF ?aO (Below.refl _ _) ?aS ?aL ?_; (case aP => exact rfl); (case aF => exact (fun k_ hk => Kd.fresh' (Kd.R_lt (by (with_reducible repeat (first | apply Kd.R_alloc | apply Kd.R_drewN | apply Kd.R_drew)); exact HO_7.out)) k_ hk)); (case aO => exact (by (with_reducible repeat (first | apply Kd.R_alloc | apply Kd.R_drewN | apply Kd.R_drew)); exact HO_6.out)); (case aS => exact (keep_size (w := w) (g := g) (row := none) (by with_reducible repeat (first | exact HK.out | apply KeepBut.set_ | apply keep_drewN | apply keep_drew | apply keep_alloc)))); (case aL => have := LMc14.out; omega); intro v217 w17 ho hb hg hat; rw [← Ny216.out] at ho; have n0_ := Aside0.mk (Kd.R_after (ok := (fun _ => True)) (by (with_reducible repeat (first | apply Kd.R_alloc | apply Kd.R_drewN | apply Kd.R_drew)); exact Kd.R_mono HO_7.out (fun _ hk => ⟨trivial, hk⟩)) hg hat); have n1_ := Aside0.mk (IsS30.grown (by with_reducible repeat (first | exact HI0.out | apply IsS30.alloc | apply IsS30.drewN | apply IsS30.drew | apply IsS30.set_0 | apply IsS30.set_3 | apply IsS30.set_4 | apply IsS30.set_5 | apply IsS30.set_6)) hg (IsS30.own_ne HI0.out HO_6.out (by decide))); have n2_ := Aside0.mk (below_weaken (by with_reducible repeat (first | exact HB.out | apply below_alloc | apply pw_below_drewN | apply below_drew1 | refine below_set ?_ (IsS30.ge HI0.out))) HL.out hb); have n3_ := Aside0.mk (KeepBut.trans (by with_reducible repeat (first | exact HK.out | apply KeepBut.set_ | apply keep_drewN | apply keep_drew | apply keep_alloc)) (KeepBut.of_grown hg g) (Kd.R_base2 HO_6.out)); have n4_ := Aside0.mk (ho); clear HO_7; clear HI0; clear HB; clear HK; clear HO_6; have HO_7 := n0_; have HI0 := n1_; have HB := n2_; have HK := n3_; have HO218 := n4_; clear n0_ n1_ n2_ n3_ n4_; clear ho hb hg hat) | ((with_reducible refine gate_builtin (b := .append) (xs := #[.tmp 36, .tmp 37]) rfl ?_); at_builtin; refine Kd.R_append (Kd.int .i64) w.heap.size rfl (.tmp 36) (.tmp 37) 23 2 (.int .i64 0) 8 rfl Try.underlying23 info2 rfl (by decide) (by omega) u7 x7_1 (-1) [.int .i64 (-1)] (fun k_ => some k_ ≠ (v217 : Value).ownBlock) (fun _ => False) rfl rfl ?aP (fun _ hk => hk.elim) ?aF ?aO (Below.refl _ _) ?aS ?aL ?_; (case aP => exact rfl); (case aF => exact (fun k_ hk => Kd.fresh' (Kd.R_lt (by (with_reducible repeat (first | apply Kd.R_alloc | apply Kd.R_drewN | apply Kd.R_drew)); exact HO218.out)) k_ hk)); (case aO => exact (by (with_reducible repeat (first | apply Kd.R_alloc | apply Kd.R_drewN | apply Kd.R_drew)); exact Kd.R_mono HO_7.out (fun _ hk => hk.2))); (case aS => exact (keep_size (w := w) (g := g) (row := none) (by with_reducible repeat (first | exact HK.out | apply KeepBut.set_ | apply keep_drewN | apply keep_drew | apply keep_alloc)))); (case aL => have := LMc15.out; omega); intro v220 w18 ho hb hg hat; rw [← Ny219.out] at ho; have n0_ := Aside0.mk (IsS30.grown (by with_reducible repeat (first | exact HI0.out | apply IsS30.alloc | apply IsS30.drewN | apply IsS30.drew | apply IsS30.set_0 | apply IsS30.set_3 | apply IsS30.set_4 | apply IsS30.set_5 | apply IsS30.set_6)) hg (IsS30.own_ne HI0.out HO_7.out (by decide))); have n1_ := Aside0.mk (Kd.R_after (ok := (fun _ => True)) (by (with_reducible repeat (first | apply Kd.R_alloc | apply Kd.R_drewN | apply Kd.R_drew)); exact Kd.R_mono HO218.out (fun _ hk => ⟨trivial, hk⟩)) hg hat); have n2_ := Aside0.mk (below_weaken (by with_reducible repeat (first | exact HB.out | apply below_alloc | apply pw_below_drewN | apply below_drew1 | refine below_set ?_ (IsS30.ge HI0.out))) HL.out hb); have n3_ := Aside0.mk (KeepBut.trans (by with_reducible repeat (first | exact HK.out | apply KeepBut.set_ | apply keep_drewN | apply keep_drew | apply keep_alloc)) (KeepBut.of_grown hg g) (Kd.R_base2 HO_7.out)); have n4_ := Aside0.mk (ho); clear HI0; clear HO218; clear HB; clear HK; clear HO_7; have HI0 := n0_; have HO218 := n1_; have HB := n2_; have HK := n3_; have HO221 := n4_; clear n0_ n1_ n2_ n3_ n4_; clear ho hb hg hat)))
     go_roundg k1
     case measure => have := HK1.out; omega
     case rel => exact ⟨(y216), (y219), (wrap64 (x8_1 + 1)), (by first | rfl | (simp; done) | (simp [*]; done)), H', ⟨by have := HK1.out; omega⟩, ⟨by (with_reducible repeat (first | apply Kd.R_alloc | apply Kd.R_drewN | apply Kd.R_drew)); exact Kd.R_mono HO218.out (fun _ hk => hk.2)⟩, ⟨by (with_reducible repeat (first | apply Kd.R_alloc | apply Kd.R_drewN | apply Kd.R_drew)); exact HO221.out⟩, ⟨by with_reducible repeat (first | exact HI0.out | apply IsS30.alloc | apply IsS30.drewN | apply IsS30.drew | apply IsS30.set_0 | apply IsS30.set_3 | apply IsS30.set_4 | apply IsS30.set_5 | apply IsS30.set_6)⟩, ⟨by with_reducible repeat (first | exact HK.out | apply KeepBut.set_ | apply keep_drewN | apply keep_drew | apply keep_alloc)⟩, ⟨by with_reducible repeat (first | exact HB.out | apply below_alloc | apply pw_below_drewN | apply below_drew1 | refine below_set ?_ (IsS30.ge HI0.out))⟩⟩
   ·rw [if_neg c7] at H
    have c7b0 : decide (x8_1 < s0_0) = false := decide_eq_false c7
    clear c7
    have H' := Aside0.mk H
    clear H
    obtain ⟨ASz19_1, cSz19_1, ASz19_2, cSz19_2, HGz19, hgz19, HSz19_1, HSz19_2⟩ := HI0.out
    have hcz19_0 := cellS30_0 HGz19
    have hcz19_1 := cellS30_1 HGz19
    have hcz19_2 := cellS30_2 HGz19
    have hcz19_3 := cellS30_3 HGz19
    have hcz19_4 := cellS30_4 HGz19
    have hcz19_5 := cellS30_5 HGz19
    have hcz19_6 := cellS30_6 HGz19
    have hfz19_0 := blk_frozen HGz19 0
    have hfz19_3 := blk_frozen HGz19 3
    have hfz19_4 := blk_frozen HGz19 4
    have hfz19_5 := blk_frozen HGz19 5
    have hfz19_6 := blk_frozen HGz19 6
    clear HGz19 hgz19
    go_wp2
    repeat (go_quiet (fail); try go_wp2)
    go_loopg [6, 7, 9] k1 (fun kq v6 v7 v9 w' => ∃ (x6_2 : List Int) (x7_2 : List Int) (x9_2 : Int), v9 = .int .i64 x9_2 ∧ Aside0 (spec_l06From.l1 kq x6_2 x7_2 x9_2 s0_0 s0_1 s0_2 s0_3 s0_4 s0_5 s0_6 = some (r1, r2, r3, r4, r5, r6, r7)) ∧ Aside0 (kq ≤ k1) ∧ Aside0 (Kd.R (Kd.int .i64) 2 w' w.heap.size (fun k_ => some k_ ≠ (v7 : Value).ownBlock) v6 x6_2) ∧ Aside0 (Kd.R (Kd.int .i64) 2 w' w.heap.size (fun k_ => some k_ ≠ (v6 : Value).ownBlock) v7 x7_2) ∧ Aside0 (IsS30 w0 w' g s0_0 s0_1 s0_2 s0_3 s0_4 s0_5 s0_6) ∧ Aside0 (KeepBut w w' g none) ∧ Aside0 (Below w0.heap.size w0 w'))
    case atStart => exact ⟨(x6_1), (x7_1), (0), (by first | rfl | (simp; done) | (simp [*]; done)), H', ⟨Nat.le_refl _⟩, ⟨by (with_reducible repeat (first | apply Kd.R_alloc | apply Kd.R_drewN | apply Kd.R_drew)); exact HO_6.out⟩, ⟨by (with_reducible repeat (first | apply Kd.R_alloc | apply Kd.R_drewN | apply Kd.R_drew)); exact HO_7.out⟩, ⟨by with_reducible repeat (first | exact HI0.out | apply IsS30.alloc | apply IsS30.drewN | apply IsS30.drew | apply IsS30.set_0 | apply IsS30.set_3 | apply IsS30.set_4 | apply IsS30.set_5 | apply IsS30.set_6)⟩, ⟨by with_reducible repeat (first | exact HK.out | apply KeepBut.set_ | apply keep_drewN | apply keep_drew | apply keep_alloc)⟩, ⟨by with_reducible repeat (first | exact HB.out | apply below_alloc | apply pw_below_drewN | apply below_drew1 | refine below_set ?_ (IsS30.ge HI0.out))⟩⟩
    case round =>
     clear H'
     try clear c1
     try clear p2
     try clear p6
     try clear c7
     try clear c7b0
     try clear c8
     try clear c8b0
     try clear c8b1
     try clear c9
     try clear c10
     try clear c14
     try clear c15
     try clear hcz11_0
     try clear hcz11_1
     try clear hcz11_2
     try clear hcz11_3
     try clear hcz11_4
     try clear hcz11_5
     try clear hcz11_6
     try clear hcz16_0
     try clear hcz16_1
     try clear hcz16_2
     try clear hcz16_3
     try clear hcz16_4
     try clear hcz16_5
     try clear hcz16_6
     try clear hcz19_0
     try clear hcz19_1
     try clear hcz19_2
     try clear hcz19_3
     try clear hcz19_4
     try clear hcz19_5
     try clear hcz19_6
     try clear hfz11_0
     try clear hfz11_3
     try clear hfz11_4
     try clear hfz11_5
     try clear hfz11_6
     try clear hfz16_0
     try clear hfz16_3
     try clear hfz16_4
     try clear hfz16_5
     try clear hfz16_6
     try clear hfz19_0
     try clear hfz19_3
     try clear hfz19_4
     try clear hfz19_5
     try clear hfz19_6
     try clear p2
     obtain ⟨x6_2, x7_2, x9_2, rfl, HA, HK2, HO_6, HO_7, HI0, HK, HB⟩ := hrel
     cases gk with
     | zero => exact absurd HA.out (by simp [spec_l06From.l1])
     | succ k2 =>
      have H := HA.out
      clear HA
      simp only [spec_l06From.l1] at H
      by_cases c20 : x9_2 < (s0_1.length : Int)
      ·rw [if_pos c20] at H
       have c20b0 : decide (x9_2 < (s0_1.length : Int)) = true := decide_eq_true c20
       clear c20
       have H' := Aside0.mk H
       clear H
       obtain ⟨ASz21_1, cSz21_1, ASz21_2, cSz21_2, HGz21, hgz21, HSz21_1, HSz21_2⟩ := HI0.out
       have hcz21_0 := cellS30_0 HGz21
       have hcz21_1 := cellS30_1 HGz21
       have hcz21_2 := cellS30_2 HGz21
       have hcz21_3 := cellS30_3 HGz21
       have hcz21_4 := cellS30_4 HGz21
       have hcz21_5 := cellS30_5 HGz21
       have hcz21_6 := cellS30_6 HGz21
       have hfz21_0 := blk_frozen HGz21 0
       have hfz21_3 := blk_frozen HGz21 3
       have hfz21_4 := blk_frozen HGz21 4
       have hfz21_5 := blk_frozen HGz21 5
       have hfz21_6 := blk_frozen HGz21 6
       clear HGz21 hgz21
       go_wp2
       repeat (go_quiet (fail); try go_wp2)
       go_loopg [10, 11, 12] k2 (fun kq v10 v11 v12 w' => ∃ (x10_3 : Int) (x11_3 : Int) (x12_3 : Int), v10 = .int .i64 x10_3 ∧ v11 = .int .i64 x11_3 ∧ v12 = .int .i64 x12_3 ∧ Aside0 (spec_l06From.l2 kq x6_2 x7_2 x9_2 x10_3 x11_3 x12_3 s0_0 s0_1 s0_2 s0_3 s0_4 s0_5 s0_6 = some (r1, r2, r3, r4, r5, r6, r7)) ∧ Aside0 (kq ≤ k2) ∧ Aside0 (Kd.R (Kd.int .i64) 2 w' w.heap.size (fun k_ => some k_ ≠ (u7 : Value).ownBlock) u6 x6_2) ∧ Aside0 (Kd.R (Kd.int .i64) 2 w' w.heap.size (fun k_ => some k_ ≠ (u6 : Value).ownBlock) u7 x7_2) ∧ Aside0 (IsS30 w0 w' g s0_0 s0_1 s0_2 s0_3 s0_4 s0_5 s0_6) ∧ Aside0 (KeepBut w w' g none) ∧ Aside0 (Below w0.heap.size w0 w'))
       case atStart => exact ⟨((-1)), ((-1)), (0), (by first | rfl | (simp; done) | (simp [*]; done)), (by first | rfl | (simp; done) | (simp [*]; done)), (by first | rfl | (simp; done) | (simp [*]; done)), H', ⟨Nat.le_refl _⟩, ⟨by (with_reducible repeat (first | apply Kd.R_alloc | apply Kd.R_drewN | apply Kd.R_drew)); exact HO_6.out⟩, ⟨by (with_reducible repeat (first | apply Kd.R_alloc | apply Kd.R_drewN | apply Kd.R_drew)); exact HO_7.out⟩, ⟨by with_reducible repeat (first | exact HI0.out | apply IsS30.alloc | apply IsS30.drewN | apply IsS30.drew | apply IsS30.set_0 | apply IsS30.set_3 | apply IsS30.set_4 | apply IsS30.set_5 | apply IsS30.set_6)⟩, ⟨by with_reducible repeat (first | exact HK.out | apply KeepBut.set_ | apply keep_drewN | apply keep_drew | apply keep_alloc)⟩, ⟨by with_reducible repeat (first | exact HB.out | apply below_alloc | apply pw_below_drewN | apply below_drew1 | refine below_set ?_ (IsS30.ge HI0.out))⟩⟩
       case round =>
        clear H'
        try clear c1
        try clear c2
        try clear p2
        try clear p6
        try clear c7
        try clear c7b0
        try clear c8
        try clear c8b0
        try clear c8b1
        try clear c9
        try clear c10
        try clear c14
        try clear c15
        try clear c20
        try clear c20b0
        try clear hcz11_0
        try clear hcz11_1
        try clear hcz11_2
        try clear hcz11_3
        try clear hcz11_4
        try clear hcz11_5
        try clear hcz11_6
        try clear hcz16_0
        try clear hcz16_1
        try clear hcz16_2
        try clear hcz16_3
        try clear hcz16_4
        try clear hcz16_5
        try clear hcz16_6
        try clear hcz19_0
        try clear hcz19_1
        try clear hcz19_2
        try clear hcz19_3
        try clear hcz19_4
        try clear hcz19_5
        try clear hcz19_6
        try clear hcz21_0
        try clear hcz21_1
        try clear hcz21_2
        try clear hcz21_3
        try clear hcz21_4
        try clear hcz21_5
        try clear hcz21_6
        try clear hfz11_0
        try clear hfz11_3
        try clear hfz11_4
        try clear hfz11_5
        try clear hfz11_6
        try clear hfz16_0
        try clear hfz16_3
        try clear hfz16_4
        try clear hfz16_5
        try clear hfz16_6
        try clear hfz19_0
        try clear hfz19_3
        try clear hfz19_4
        try clear hfz19_5
        try clear hfz19_6
        try clear hfz21_0
        try clear hfz21_3
        try clear hfz21_4
        try clear hfz21_5
        try clear hfz21_6
        try clear p2
        try clear p6
        obtain ⟨x10_3, x11_3, x12_3, rfl, rfl, rfl, HA, HK3, HO_6, HO_7, HI0, HK, HB⟩ := hrel
        cases gk with
        | zero => exact absurd HA.out (by simp [spec_l06From.l2])
        | succ k3 =>
         have H := HA.out
         clear HA
         simp only [spec_l06From.l2] at H
         by_cases c22 : 0 ≤ x9_2
         case neg => rw [if_neg c22] at H; exact absurd H (by simp)
         rw [if_pos c22] at H
         have c22b0 : decide (0 ≤ x9_2) = true := decide_eq_true c22
         clear c22
         by_cases c23 : x9_2 < (s0_1.length : Int)
         case neg => rw [if_neg c23] at H; exact absurd H (by simp)
         rw [if_pos c23] at H
         have c23b0 : decide (x9_2 < (s0_1.length : Int)) = true := decide_eq_true c23
         clear c23
         by_cases c24 : x12_3 < (((rd_T62 s0_1 x9_2).f2).length : Int)
         ·rw [if_pos c24] at H
          have c24b0 : decide (x12_3 < (((rd_T62 s0_1 x9_2).f2).length : Int)) = true := decide_eq_true c24
          clear c24
          by_cases c25 : 0 ≤ x12_3
          case neg => rw [if_neg c25] at H; exact absurd H (by simp)
          rw [if_pos c25] at H
          have c25b0 : decide (0 ≤ x12_3) = true := decide_eq_true c25
          clear c25
          by_cases c26 : 0 ≤ (rd ((rd_T62 s0_1 x9_2).f2) x12_3)
          case neg => rw [if_neg c26] at H; exact absurd H (by simp)
          rw [if_pos c26] at H
          have c26b0 : decide (0 ≤ (rd ((rd_T62 s0_1 x9_2).f2) x12_3)) = true := decide_eq_true c26
          clear c26
          by_cases c27 : (rd ((rd_T62 s0_1 x9_2).f2) x12_3) < (x7_2.length : Int)
          case neg => rw [if_neg c27] at H; exact absurd H (by simp)
          rw [if_pos c27] at H
          have c27b0 : decide ((rd ((rd_T62 s0_1 x9_2).f2) x12_3) < (x7_2.length : Int)) = true := decide_eq_true c27
          clear c27
          by_cases c28 : (rd x7_2 (rd ((rd_T62 s0_1 x9_2).f2) x12_3)) < 0
          ·rw [if_pos c28] at H
           have c28b0 : decide ((rd x7_2 (rd ((rd_T62 s0_1 x9_2).f2) x12_3)) < 0) = true := decide_eq_true c28
           clear c28
           have H' := Aside0.mk H
           clear H
           obtain ⟨ASz29_1, cSz29_1, ASz29_2, cSz29_2, HGz29, hgz29, HSz29_1, HSz29_2⟩ := HI0.out
           have hcz29_0 := cellS30_0 HGz29
           have hcz29_1 := cellS30_1 HGz29
           have hcz29_2 := cellS30_2 HGz29
           have hcz29_3 := cellS30_3 HGz29
           have hcz29_4 := cellS30_4 HGz29
           have hcz29_5 := cellS30_5 HGz29
           have hcz29_6 := cellS30_6 HGz29
           have hfz29_0 := blk_frozen HGz29 0
           have hfz29_3 := blk_frozen HGz29 3
           have hfz29_4 := blk_frozen HGz29 4
           have hfz29_5 := blk_frozen HGz29 5
           have hfz29_6 := blk_frozen HGz29 6
           clear HGz29 hgz29
           have p222 : 0 ≤ (x9_2 : Int) := of_decide_eq_true (by with_reducible assumption)
           have q222 : x9_2 < (s0_1.length : Int) := of_decide_eq_true (by with_reducible assumption)
           obtain ⟨ad222, A222_2, c222_2, e222, hx222_0, hx222_1, hx222_2, hl222_2, hi222_2⟩ := at_T62 HSz29_1 x9_2 p222 q222
           cases e222
           replace hx222_0 := pw_cell_below HB.out hx222_0
           replace hx222_1 := pw_cell_below HB.out hx222_1
           replace hx222_2 := pw_cell_below HB.out hx222_2
           have HR222_2 := Aside0.mk hi222_2
           have HC222_2 := Aside0.mk hl222_2
           clear hi222_2 hl222_2
           replace p222 := eq_true p222
           replace q222 := eq_true q222
           have p229 : 0 ≤ (x9_2 : Int) := of_decide_eq_true (by with_reducible assumption)
           have q229 : x9_2 < (s0_1.length : Int) := of_decide_eq_true (by with_reducible assumption)
           obtain ⟨ad229, A229_2, c229_2, e229, hx229_0, hx229_1, hx229_2, hl229_2, hi229_2⟩ := at_T62 HSz29_1 x9_2 p229 q229
           obtain rfl : ad222 = ad229 := (by injection e229)
           replace hx229_0 := pw_cell_below HB.out hx229_0
           replace hx229_1 := pw_cell_below HB.out hx229_1
           replace hx229_2 := pw_cell_below HB.out hx229_2
           (try (have ea_ := Option.some.inj (hx222_2.symm.trans hx229_2); injection ea_ with ea_ en_ ec_; subst ea_; subst ec_; clear en_))
           have HR229_2 := Aside0.mk hi229_2
           have HC229_2 := Aside0.mk hl229_2
           clear hi229_2 hl229_2
           replace p229 := eq_true p229
           replace q229 := eq_true q229
           have p230 : 0 ≤ (x12_3 : Int) := of_decide_eq_true (by with_reducible assumption)
           have q230 : x12_3 < (((rd_T62 s0_1 x9_2).f2).length : Int) := of_decide_eq_true (by with_reducible assumption)
           obtain ⟨ad230, e230, hx230_0⟩ := Kd.at_int HR229_2.out x12_3 p230 q230
           cases e230
           replace hx230_0 := pw_cell_below HB.out hx230_0
           replace p230 := eq_true p230
           replace q230 := eq_true q230
           obtain ⟨Ao30, co30, eo30⟩ := Kd.R_slice HO_7.out
           subst eo30
           have p231 : 0 ≤ ((rd ((rd_T62 s0_1 x9_2).f2) x12_3) : Int) := of_decide_eq_true (by with_reducible assumption)
           have q231 : (rd ((rd_T62 s0_1 x9_2).f2) x12_3) < (x7_2.length : Int) := of_decide_eq_true (by with_reducible assumption)
           obtain ⟨ad231, e231, hx231_0⟩ := Kd.at_int (Kd.R_reads' HO_7.out).2.2 (rd ((rd_T62 s0_1 x9_2).f2) x12_3) p231 q231
           cases e231
           replace p231 := eq_true p231
           replace q231 := eq_true q231
           go_wp2
           repeat (go_quiet (fail); try go_wp2)
           go_roundg k3
           case measure => have := HK1.out; have := HK2.out; have := HK3.out; omega
           case rel => exact ⟨(x10_3), (x11_3), (wrap64 (x12_3 + 1)), (by first | rfl | (simp; done) | (simp [*]; done)), (by first | rfl | (simp; done) | (simp [*]; done)), (by first | rfl | (simp; done) | (simp [*]; done)), H', ⟨by have := HK1.out; have := HK2.out; have := HK3.out; omega⟩, ⟨by (with_reducible repeat (first | apply Kd.R_alloc | apply Kd.R_drewN | apply Kd.R_drew)); exact HO_6.out⟩, ⟨by (with_reducible repeat (first | apply Kd.R_alloc | apply Kd.R_drewN | apply Kd.R_drew)); exact HO_7.out⟩, ⟨by with_reducible repeat (first | exact HI0.out | apply IsS30.alloc | apply IsS30.drewN | apply IsS30.drew | apply IsS30.set_0 | apply IsS30.set_3 | apply IsS30.set_4 | apply IsS30.set_5 | apply IsS30.set_6)⟩, ⟨by with_reducible repeat (first | exact HK.out | apply KeepBut.set_ | apply keep_drewN | apply keep_drew | apply keep_alloc)⟩, ⟨by with_reducible repeat (first | exact HB.out | apply below_alloc | apply pw_below_drewN | apply below_drew1 | refine below_set ?_ (IsS30.ge HI0.out))⟩⟩
          ·rw [if_neg c28] at H
           have c28b0 : decide ((rd x7_2 (rd ((rd_T62 s0_1 x9_2).f2) x12_3)) < 0) = false := decide_eq_false c28
           clear c28
           by_cases c31 : x10_3 < 0
           ·rw [if_pos c31] at H
            have c31b0 : decide (x10_3 < 0) = true := decide_eq_true c31
            clear c31
            by_cases c32 : (rd ((rd_T62 s0_1 x9_2).f2) x12_3) < (x6_2.length : Int)
            case neg => rw [if_neg c32] at H; exact absurd H (by simp)
            rw [if_pos c32] at H
            have c32b0 : decide ((rd ((rd_T62 s0_1 x9_2).f2) x12_3) < (x6_2.length : Int)) = true := decide_eq_true c32
            clear c32
            replace H := Option.bind_eq_some_iff.mp H
            obtain ⟨t236, A330, H⟩ := H
            replace H : (spec_l06From.l2 k3 x6_2 x7_2 x9_2 (wrap64 ((rd x6_2 (rd ((rd_T62 s0_1 x9_2).f2) x12_3)) + ((rd_T62 s0_1 x9_2).f0))) t236 (wrap64 (x12_3 + 1)) s0_0 s0_1 s0_2 s0_3 s0_4 s0_5 s0_6) = some (r1, r2, r3, r4, r5, r6, r7) := H
            have A33 := Aside0.mk A330
            clear A330
            have H' := Aside0.mk H
            clear H
            obtain ⟨ASz34_1, cSz34_1, ASz34_2, cSz34_2, HGz34, hgz34, HSz34_1, HSz34_2⟩ := HI0.out
            have hcz34_0 := cellS30_0 HGz34
            have hcz34_1 := cellS30_1 HGz34
            have hcz34_2 := cellS30_2 HGz34
            have hcz34_3 := cellS30_3 HGz34
            have hcz34_4 := cellS30_4 HGz34
            have hcz34_5 := cellS30_5 HGz34
            have hcz34_6 := cellS30_6 HGz34
            have hfz34_0 := blk_frozen HGz34 0
            have hfz34_3 := blk_frozen HGz34 3
            have hfz34_4 := blk_frozen HGz34 4
            have hfz34_5 := blk_frozen HGz34 5
            have hfz34_6 := blk_frozen HGz34 6
            clear HGz34 hgz34
            have p222 : 0 ≤ (x9_2 : Int) := of_decide_eq_true (by with_reducible assumption)
            have q222 : x9_2 < (s0_1.length : Int) := of_decide_eq_true (by with_reducible assumption)
            obtain ⟨ad222, A222_2, c222_2, e222, hx222_0, hx222_1, hx222_2, hl222_2, hi222_2⟩ := at_T62 HSz34_1 x9_2 p222 q222
            cases e222
            replace hx222_0 := pw_cell_below HB.out hx222_0
            replace hx222_1 := pw_cell_below HB.out hx222_1
            replace hx222_2 := pw_cell_below HB.out hx222_2
            have HR222_2 := Aside0.mk hi222_2
            have HC222_2 := Aside0.mk hl222_2
            clear hi222_2 hl222_2
            replace p222 := eq_true p222
            replace q222 := eq_true q222
            have p229 : 0 ≤ (x9_2 : Int) := of_decide_eq_true (by with_reducible assumption)
            have q229 : x9_2 < (s0_1.length : Int) := of_decide_eq_true (by with_reducible assumption)
            obtain ⟨ad229, A229_2, c229_2, e229, hx229_0, hx229_1, hx229_2, hl229_2, hi229_2⟩ := at_T62 HSz34_1 x9_2 p229 q229
            obtain rfl : ad222 = ad229 := (by injection e229)
            replace hx229_0 := pw_cell_below HB.out hx229_0
            replace hx229_1 := pw_cell_below HB.out hx229_1
            replace hx229_2 := pw_cell_below HB.out hx229_2
            (try (have ea_ := Option.some.inj (hx222_2.symm.trans hx229_2); injection ea_ with ea_ en_ ec_; subst ea_; subst ec_; clear en_))
            have HR229_2 := Aside0.mk hi229_2
            have HC229_2 := Aside0.mk hl229_2
            clear hi229_2 hl229_2
            replace p229 := eq_true p229
            replace q229 := eq_true q229
            have p230 : 0 ≤ (x12_3 : Int) := of_decide_eq_true (by with_reducible assumption)
            have q230 : x12_3 < (((rd_T62 s0_1 x9_2).f2).length : Int) := of_decide_eq_true (by with_reducible assumption)
            obtain ⟨ad230, e230, hx230_0⟩ := Kd.at_int HR229_2.out x12_3 p230 q230
            cases e230
            replace hx230_0 := pw_cell_below HB.out hx230_0
            replace p230 := eq_true p230
            replace q230 := eq_true q230
            obtain ⟨Ao35, co35, eo35⟩ := Kd.R_slice HO_7.out
            subst eo35
            have p231 : 0 ≤ ((rd ((rd_T62 s0_1 x9_2).f2) x12_3) : Int) := of_decide_eq_true (by with_reducible assumption)
            have q231 : (rd ((rd_T62 s0_1 x9_2).f2) x12_3) < (x7_2.length : Int) := of_decide_eq_true (by with_reducible assumption)
            obtain ⟨ad231, e231, hx231_0⟩ := Kd.at_int (Kd.R_reads' HO_7.out).2.2 (rd ((rd_T62 s0_1 x9_2).f2) x12_3) p231 q231
            cases e231
            replace p231 := eq_true p231
            replace q231 := eq_true q231
            obtain ⟨Ao36, co36, eo36⟩ := Kd.R_slice HO_6.out
            subst eo36
            have p232 : 0 ≤ ((rd ((rd_T62 s0_1 x9_2).f2) x12_3) : Int) := of_decide_eq_true (by with_reducible assumption)
            have q232 : (rd ((rd_T62 s0_1 x9_2).f2) x12_3) < (x6_2.length : Int) := of_decide_eq_true (by with_reducible assumption)
            obtain ⟨ad232, e232, hx232_0⟩ := Kd.at_int (Kd.R_reads' HO_6.out).2.2 (rd ((rd_T62 s0_1 x9_2).f2) x12_3) p232 q232
            cases e232
            replace p232 := eq_true p232
            replace q232 := eq_true q232
            have p233 : 0 ≤ (x9_2 : Int) := of_decide_eq_true (by with_reducible assumption)
            have q233 : x9_2 < (s0_1.length : Int) := of_decide_eq_true (by with_reducible assumption)
            obtain ⟨ad233, A233_2, c233_2, e233, hx233_0, hx233_1, hx233_2, hl233_2, hi233_2⟩ := at_T62 HSz34_1 x9_2 p233 q233
            obtain rfl : ad222 = ad233 := (by injection e233)
            replace hx233_0 := pw_cell_below HB.out hx233_0
            replace hx233_1 := pw_cell_below HB.out hx233_1
            replace hx233_2 := pw_cell_below HB.out hx233_2
            (try (have ea_ := Option.some.inj (hx222_2.symm.trans hx233_2); injection ea_ with ea_ en_ ec_; subst ea_; subst ec_; clear en_))
            have HR233_2 := Aside0.mk hi233_2
            have HC233_2 := Aside0.mk hl233_2
            clear hi233_2 hl233_2
            replace p233 := eq_true p233
            replace q233 := eq_true q233
            have p234 : 0 ≤ ((rd ((rd_T62 s0_1 x9_2).f2) x12_3) : Int) := of_decide_eq_true (by with_reducible assumption)
            have q234 : (rd ((rd_T62 s0_1 x9_2).f2) x12_3) < (x7_2.length : Int) := of_decide_eq_true (by with_reducible assumption)
            obtain ⟨ad234, e234, hx234_0⟩ := Kd.at_int (Kd.R_reads' HO_7.out).2.2 (rd ((rd_T62 s0_1 x9_2).f2) x12_3) p234 q234
            obtain rfl : ad231 = ad234 := (by injection e234)
            replace p234 := eq_true p234
            replace q234 := eq_true q234
            have p235 : 0 ≤ (x9_2 : Int) := of_decide_eq_true (by with_reducible assumption)
            have q235 : x9_2 < (s0_1.length : Int) := of_decide_eq_true (by with_reducible assumption)
            obtain ⟨ad235, A235_2, c235_2, e235, hx235_0, hx235_1, hx235_2, hl235_2, hi235_2⟩ := at_T62 HSz34_1 x9_2 p235 q235
            obtain rfl : ad222 = ad235 := (by injection e235)
            replace hx235_0 := pw_cell_below HB.out hx235_0
            replace hx235_1 := pw_cell_below HB.out hx235_1
            replace hx235_2 := pw_cell_below HB.out hx235_2
            (try (have ea_ := Option.some.inj (hx222_2.symm.trans hx235_2); injection ea_ with ea_ en_ ec_; subst ea_; subst ec_; clear en_))
            have HR235_2 := Aside0.mk hi235_2
            have HC235_2 := Aside0.mk hl235_2
            clear hi235_2 hl235_2
            replace p235 := eq_true p235
            replace q235 := eq_true q235
            go_wp2_with (first | (go_at_call 72; (with_reducible refine (spec_l00Max.calls x11_3 (wrap64 ((rd x7_2 (rd ((rd_T62 s0_1 x9_2).f2) x12_3)) + ((rd_T62 s0_1 x9_2).f1))) t236 _ A33.out).mono ?_); rintro e w' ⟨rfl, ⟨nd, rfl⟩⟩; (try first | exact ⟨rfl, _, World.drewN_drewN _ _ _⟩ | exact ⟨rfl, _, Eq.trans (World.drewN_drewN _ _ _) (congrArg (World.drewN _) (Nat.add_assoc _ _ _))⟩)))
            repeat (go_quiet ((go_at_call 72; (with_reducible refine (spec_l00Max.calls x11_3 (wrap64 ((rd x7_2 (rd ((rd_T62 s0_1 x9_2).f2) x12_3)) + ((rd_T62 s0_1 x9_2).f1))) t236 _ A33.out).mono ?_); rintro e w' ⟨rfl, ⟨nd, rfl⟩⟩; (try first | exact ⟨rfl, _, World.drewN_drewN _ _ _⟩ | exact ⟨rfl, _, Eq.trans (World.drewN_drewN _ _ _) (congrArg (World.drewN _) (Nat.add_assoc _ _ _))⟩))); try go_wp2_with (first | (go_at_call 72; (with_reducible refine (spec_l00Max.calls x11_3 (wrap64 ((rd x7_2 (rd ((rd_T62 s0_1 x9_2).f2) x12_3)) + ((rd_T62 s0_1 x9_2).f1))) t236 _ A33.out).mono ?_); rintro e w' ⟨rfl, ⟨nd, rfl⟩⟩; (try first | exact ⟨rfl, _, World.drewN_drewN _ _ _⟩ | exact ⟨rfl, _, Eq.trans (World.drewN_drewN _ _ _) (congrArg (World.drewN _) (Nat.add_assoc _ _ _))⟩))))
            go_roundg k3
            case measure => have := HK1.out; have := HK2.out; have := HK3.out; omega
            case rel => exact ⟨(wrap64 ((rd x6_2 (rd ((rd_T62 s0_1 x9_2).f2) x12_3)) + ((rd_T62 s0_1 x9_2).f0))), (t236), (wrap64 (x12_3 + 1)), (by first | rfl | (simp; done) | (simp [*]; done)), (by first | rfl | (simp; done) | (simp [*]; done)), (by first | rfl | (simp; done) | (simp [*]; done)), H', ⟨by have := HK1.out; have := HK2.out; have := HK3.out; omega⟩, ⟨by (with_reducible repeat (first | apply Kd.R_alloc | apply Kd.R_drewN | apply Kd.R_drew)); exact HO_6.out⟩, ⟨by (with_reducible repeat (first | apply Kd.R_alloc | apply Kd.R_drewN | apply Kd.R_drew)); exact HO_7.out⟩, ⟨by with_reducible repeat (first | exact HI0.out | apply IsS30.alloc | apply IsS30.drewN | apply IsS30.drew | apply IsS30.set_0 | apply IsS30.set_3 | apply IsS30.set_4 | apply IsS30.set_5 | apply IsS30.set_6)⟩, ⟨by with_reducible repeat (first | exact HK.out | apply KeepBut.set_ | apply keep_drewN | apply keep_drew | apply keep_alloc)⟩, ⟨by with_reducible repeat (first | exact HB.out | apply below_alloc | apply pw_below_drewN | apply below_drew1 | refine below_set ?_ (IsS30.ge HI0.out))⟩⟩
           ·rw [if_neg c31] at H
            have c31b0 : decide (x10_3 < 0) = false := decide_eq_false c31
            clear c31
            by_cases c37 : (rd ((rd_T62 s0_1 x9_2).f2) x12_3) < (x6_2.length : Int)
            case neg => rw [if_neg c37] at H; exact absurd H (by simp)
            rw [if_pos c37] at H
            have c37b0 : decide ((rd ((rd_T62 s0_1 x9_2).f2) x12_3) < (x6_2.length : Int)) = true := decide_eq_true c37
            clear c37
            by_cases c38 : (wrap64 ((rd x6_2 (rd ((rd_T62 s0_1 x9_2).f2) x12_3)) + ((rd_T62 s0_1 x9_2).f0))) < x10_3
            ·rw [if_pos c38] at H
             have c38b0 : decide ((wrap64 ((rd x6_2 (rd ((rd_T62 s0_1 x9_2).f2) x12_3)) + ((rd_T62 s0_1 x9_2).f0))) < x10_3) = true := decide_eq_true c38
             clear c38
             replace H := Option.bind_eq_some_iff.mp H
             obtain ⟨t243, A390, H⟩ := H
             replace H : (spec_l06From.l2 k3 x6_2 x7_2 x9_2 (wrap64 ((rd x6_2 (rd ((rd_T62 s0_1 x9_2).f2) x12_3)) + ((rd_T62 s0_1 x9_2).f0))) t243 (wrap64 (x12_3 + 1)) s0_0 s0_1 s0_2 s0_3 s0_4 s0_5 s0_6) = some (r1, r2, r3, r4, r5, r6, r7) := H
             have A39 := Aside0.mk A390
             clear A390
             have H' := Aside0.mk H
             clear H
             obtain ⟨ASz40_1, cSz40_1, ASz40_2, cSz40_2, HGz40, hgz40, HSz40_1, HSz40_2⟩ := HI0.out
             have hcz40_0 := cellS30_0 HGz40
             have hcz40_1 := cellS30_1 HGz40
             have hcz40_2 := cellS30_2 HGz40
             have hcz40_3 := cellS30_3 HGz40
             have hcz40_4 := cellS30_4 HGz40
             have hcz40_5 := cellS30_5 HGz40
             have hcz40_6 := cellS30_6 HGz40
             have hfz40_0 := blk_frozen HGz40 0
             have hfz40_3 := blk_frozen HGz40 3
             have hfz40_4 := blk_frozen HGz40 4
             have hfz40_5 := blk_frozen HGz40 5
             have hfz40_6 := blk_frozen HGz40 6
             clear HGz40 hgz40
             have p222 : 0 ≤ (x9_2 : Int) := of_decide_eq_true (by with_reducible assumption)
             have q222 : x9_2 < (s0_1.length : Int) := of_decide_eq_true (by with_reducible assumption)
             obtain ⟨ad222, A222_2, c222_2, e222, hx222_0, hx222_1, hx222_2, hl222_2, hi222_2⟩ := at_T62 HSz40_1 x9_2 p222 q222
             cases e222
             replace hx222_0 := pw_cell_below HB.out hx222_0
             replace hx222_1 := pw_cell_below HB.out hx222_1
             replace hx222_2 := pw_cell_below HB.out hx222_2
             have HR222_2 := Aside0.mk hi222_2
             have HC222_2 := Aside0.mk hl222_2
             clear hi222_2 hl222_2
             replace p222 := eq_true p222
             replace q222 := eq_true q222
             have p229 : 0 ≤ (x9_2 : Int) := of_decide_eq_true (by with_reducible assumption)
             have q229 : x9_2 < (s0_1.length : Int) := of_decide_eq_true (by with_reducible assumption)
             obtain ⟨ad229, A229_2, c229_2, e229, hx229_0, hx229_1, hx229_2, hl229_2, hi229_2⟩ := at_T62 HSz40_1 x9_2 p229 q229
             obtain rfl : ad222 = ad229 := (by injection e229)
             replace hx229_0 := pw_cell_below HB.out hx229_0
             replace hx229_1 := pw_cell_below HB.out hx229_1
             replace hx229_2 := pw_cell_below HB.out hx229_2
             (try (have ea_ := Option.some.inj (hx222_2.symm.trans hx229_2); injection ea_ with ea_ en_ ec_; subst ea_; subst ec_; clear en_))
             have HR229_2 := Aside0.mk hi229_2
             have HC229_2 := Aside0.mk hl229_2
             clear hi229_2 hl229_2
             replace p229 := eq_true p229
             replace q229 := eq_true q229
             have p230 : 0 ≤ (x12_3 : Int) := of_decide_eq_true (by with_reducible assumption)
             have q230 : x12_3 < (((rd_T62 s0_1 x9_2).f2).length : Int) := of_decide_eq_true (by with_reducible assumption)
             obtain ⟨ad230, e230, hx230_0⟩ := Kd.at_int HR229_2.out x12_3 p230 q230
             cases e230
             replace hx230_0 := pw_cell_below HB.out hx230_0
             replace p230 := eq_true p230
             replace q230 := eq_true q230
             obtain ⟨Ao41, co41, eo41⟩ := Kd.R_slice HO_7.out
             subst eo41
             have p231 : 0 ≤ ((rd ((rd_T62 s0_1 x9_2).f2) x12_3) : Int) := of_decide_eq_true (by with_reducible assumption)
             have q231 : (rd ((rd_T62 s0_1 x9_2).f2) x12_3) < (x7_2.length : Int) := of_decide_eq_true (by with_reducible assumption)
             obtain ⟨ad231, e231, hx231_0⟩ := Kd.at_int (Kd.R_reads' HO_7.out).2.2 (rd ((rd_T62 s0_1 x9_2).f2) x12_3) p231 q231
             cases e231
             replace p231 := eq_true p231
             replace q231 := eq_true q231
             obtain ⟨Ao42, co42, eo42⟩ := Kd.R_slice HO_6.out
             subst eo42
             have p237 : 0 ≤ ((rd ((rd_T62 s0_1 x9_2).f2) x12_3) : Int) := of_decide_eq_true (by with_reducible assumption)
             have q237 : (rd ((rd_T62 s0_1 x9_2).f2) x12_3) < (x6_2.length : Int) := of_decide_eq_true (by with_reducible assumption)
             obtain ⟨ad237, e237, hx237_0⟩ := Kd.at_int (Kd.R_reads' HO_6.out).2.2 (rd ((rd_T62 s0_1 x9_2).f2) x12_3) p237 q237
             cases e237
             replace p237 := eq_true p237
             replace q237 := eq_true q237
             have p238 : 0 ≤ (x9_2 : Int) := of_decide_eq_true (by with_reducible assumption)
             have q238 : x9_2 < (s0_1.length : Int) := of_decide_eq_true (by with_reducible assumption)
             obtain ⟨ad238, A238_2, c238_2, e238, hx238_0, hx238_1, hx238_2, hl238_2, hi238_2⟩ := at_T62 HSz40_1 x9_2 p238 q238
             obtain rfl : ad222 = ad238 := (by injection e238)
             replace hx238_0 := pw_cell_below HB.out hx238_0
             replace hx238_1 := pw_cell_below HB.out hx238_1
             replace hx238_2 := pw_cell_below HB.out hx238_2
             (try (have ea_ := Option.some.inj (hx222_2.symm.trans hx238_2); injection ea_ with ea_ en_ ec_; subst ea_; subst ec_; clear en_))
             have HR238_2 := Aside0.mk hi238_2
             have HC238_2 := Aside0.mk hl238_2
             clear hi238_2 hl238_2
             replace p238 := eq_true p238
             replace q238 := eq_true q238
             have p239 : 0 ≤ ((rd ((rd_T62 s0_1 x9_2).f2) x12_3) : Int) := of_decide_eq_true (by with_reducible assumption)
             have q239 : (rd ((rd_T62 s0_1 x9_2).f2) x12_3) < (x6_2.length : Int) := of_decide_eq_true (by with_reducible assumption)
             obtain ⟨ad239, e239, hx239_0⟩ := Kd.at_int (Kd.R_reads' HO_6.out).2.2 (rd ((rd_T62 s0_1 x9_2).f2) x12_3) p239 q239
             obtain rfl : ad237 = ad239 := (by injection e239)
             replace p239 := eq_true p239
             replace q239 := eq_true q239
             have p240 : 0 ≤ (x9_2 : Int) := of_decide_eq_true (by with_reducible assumption)
             have q240 : x9_2 < (s0_1.length : Int) := of_decide_eq_true (by with_reducible assumption)
             obtain ⟨ad240, A240_2, c240_2, e240, hx240_0, hx240_1, hx240_2, hl240_2, hi240_2⟩ := at_T62 HSz40_1 x9_2 p240 q240
             obtain rfl : ad222 = ad240 := (by injection e240)
             replace hx240_0 := pw_cell_below HB.out hx240_0
             replace hx240_1 := pw_cell_below HB.out hx240_1
             replace hx240_2 := pw_cell_below HB.out hx240_2
             (try (have ea_ := Option.some.inj (hx222_2.symm.trans hx240_2); injection ea_ with ea_ en_ ec_; subst ea_; subst ec_; clear en_))
             have HR240_2 := Aside0.mk hi240_2
             have HC240_2 := Aside0.mk hl240_2
             clear hi240_2 hl240_2
             replace p240 := eq_true p240
             replace q240 := eq_true q240
             have p241 : 0 ≤ ((rd ((rd_T62 s0_1 x9_2).f2) x12_3) : Int) := of_decide_eq_true (by with_reducible assumption)
             have q241 : (rd ((rd_T62 s0_1 x9_2).f2) x12_3) < (x7_2.length : Int) := of_decide_eq_true (by with_reducible assumption)
             obtain ⟨ad241, e241, hx241_0⟩ := Kd.at_int (Kd.R_reads' HO_7.out).2.2 (rd ((rd_T62 s0_1 x9_2).f2) x12_3) p241 q241
             obtain rfl : ad231 = ad241 := (by injection e241)
             replace p241 := eq_true p241
             replace q241 := eq_true q241
             have p242 : 0 ≤ (x9_2 : Int) := of_decide_eq_true (by with_reducible assumption)
             have q242 : x9_2 < (s0_1.length : Int) := of_decide_eq_true (by with_reducible assumption)
             obtain ⟨ad242, A242_2, c242_2, e242, hx242_0, hx242_1, hx242_2, hl242_2, hi242_2⟩ := at_T62 HSz40_1 x9_2 p242 q242
             obtain rfl : ad222 = ad242 := (by injection e242)
             replace hx242_0 := pw_cell_below HB.out hx242_0
             replace hx242_1 := pw_cell_below HB.out hx242_1
             replace hx242_2 := pw_cell_below HB.out hx242_2
             (try (have ea_ := Option.some.inj (hx222_2.symm.trans hx242_2); injection ea_ with ea_ en_ ec_; subst ea_; subst ec_; clear en_))
             have HR242_2 := Aside0.mk hi242_2
             have HC242_2 := Aside0.mk hl242_2
             clear hi242_2 hl242_2
             replace p242 := eq_true p242
             replace q242 := eq_true q242
             go_wp2_with (first | (go_at_call 72; (with_reducible refine (spec_l00Max.calls x11_3 (wrap64 ((rd x7_2 (rd ((rd_T62 s0_1 x9_2).f2) x12_3)) + ((rd_T62 s0_1 x9_2).f1))) t243 _ A39.out).mono ?_); rintro e w' ⟨rfl, ⟨nd, rfl⟩⟩; (try first | exact ⟨rfl, _, World.drewN_drewN _ _ _⟩ | exact ⟨rfl, _, Eq.trans (World.drewN_drewN _ _ _) (congrArg (World.drewN _) (Nat.add_assoc _ _ _))⟩)))
             repeat (go_quiet ((go_at_call 72; (with_reducible refine (spec_l00Max.calls x11_3 (wrap64 ((rd x7_2 (rd ((rd_T62 s0_1 x9_2).f2) x12_3)) + ((rd_T62 s0_1 x9_2).f1))) t243 _ A39.out).mono ?_); rintro e w' ⟨rfl, ⟨nd, rfl⟩⟩; (try first | exact ⟨rfl, _, World.drewN_drewN _ _ _⟩ | exact ⟨rfl, _, Eq.trans (World.drewN_drewN _ _ _) (congrArg (World.drewN _) (Nat.add_assoc _ _ _))⟩))); try go_wp2_with (first | (go_at_call 72; (with_reducible refine (spec_l00Max.calls x11_3 (wrap64 ((rd x7_2 (rd ((rd_T62 s0_1 x9_2).f2) x12_3)) + ((rd_T62 s0_1 x9_2).f1))) t243 _ A39.out).mono ?_); rintro e w' ⟨rfl, ⟨nd, rfl⟩⟩; (try first | exact ⟨rfl, _, World.drewN_drewN _ _ _⟩ | exact ⟨rfl, _, Eq.trans (World.drewN_drewN _ _ _) (congrArg (World.drewN _) (Nat.add_assoc _ _ _))⟩))))
             go_roundg k3
             case measure => have := HK1.out; have := HK2.out; have := HK3.out; omega
             case rel => exact ⟨(wrap64 ((rd x6_2 (rd ((rd_T62 s0_1 x9_2).f2) x12_3)) + ((rd_T62 s0_1 x9_2).f0))), (t243), (wrap64 (x12_3 + 1)), (by first | rfl | (simp; done) | (simp [*]; done)), (by first | rfl | (simp; done) | (simp [*]; done)), (by first | rfl | (simp; done) | (simp [*]; done)), H', ⟨by have := HK1.out; have := HK2.out; have := HK3.out; omega⟩, ⟨by (with_reducible repeat (first | apply Kd.R_alloc | apply Kd.R_drewN | apply Kd.R_drew)); exact HO_6.out⟩, ⟨by (with_reducible repeat (first | apply Kd.R_alloc | apply Kd.R_drewN | apply Kd.R_drew)); exact HO_7.out⟩, ⟨by with_reducible repeat (first | exact HI0.out | apply IsS30.alloc | apply IsS30.drewN | apply IsS30.drew | apply IsS30.set_0 | apply IsS30.set_3 | apply IsS30.set_4 | apply IsS30.set_5 | apply IsS30.set_6)⟩, ⟨by with_reducible repeat (first | exact HK.out | apply KeepBut.set_ | apply keep_drewN | apply keep_drew | apply keep_alloc)⟩, ⟨by with_reducible repeat (first | exact HB.out | apply below_alloc | apply pw_below_drewN | apply below_drew1 | refine below_set ?_ (IsS30.ge HI0.out))⟩⟩
            ·rw [if_neg c38] at H
             have c38b0 : decide ((wrap64 ((rd x6_2 (rd ((rd_T62 s0_1 x9_2).f2) x12_3)) + ((rd_T62 s0_1 x9_2).f0))) < x10_3) = false := decide_eq_false c38
             clear c38
             replace H := Option.bind_eq_some_iff.mp H
             obtain ⟨t246, A430, H⟩ := H
             replace H : (spec_l06From.l2 k3 x6_2 x7_2 x9_2 x10_3 t246 (wrap64 (x12_3 + 1)) s0_0 s0_1 s0_2 s0_3 s0_4 s0_5 s0_6) = some (r1, r2, r3, r4, r5, r6, r7) := H
             have A43 := Aside0.mk A430
             clear A430
             have H' := Aside0.mk H
             clear H
             obtain ⟨ASz44_1, cSz44_1, ASz44_2, cSz44_2, HGz44, hgz44, HSz44_1, HSz44_2⟩ := HI0.out
             have hcz44_0 := cellS30_0 HGz44
             have hcz44_1 := cellS30_1 HGz44
             have hcz44_2 := cellS30_2 HGz44
             have hcz44_3 := cellS30_3 HGz44
             have hcz44_4 := cellS30_4 HGz44
             have hcz44_5 := cellS30_5 HGz44
             have hcz44_6 := cellS30_6 HGz44
             have hfz44_0 := blk_frozen HGz44 0
             have hfz44_3 := blk_frozen HGz44 3
             have hfz44_4 := blk_frozen HGz44 4
             have hfz44_5 := blk_frozen HGz44 5
             have hfz44_6 := blk_frozen HGz44 6
             clear HGz44 hgz44
             have p222 : 0 ≤ (x9_2 : Int) := of_decide_eq_true (by with_reducible assumption)
             have q222 : x9_2 < (s0_1.length : Int) := of_decide_eq_true (by with_reducible assumption)
             obtain ⟨ad222, A222_2, c222_2, e222, hx222_0, hx222_1, hx222_2, hl222_2, hi222_2⟩ := at_T62 HSz44_1 x9_2 p222 q222
             cases e222
             replace hx222_0 := pw_cell_below HB.out hx222_0
             replace hx222_1 := pw_cell_below HB.out hx222_1
             replace hx222_2 := pw_cell_below HB.out hx222_2
             have HR222_2 := Aside0.mk hi222_2
             have HC222_2 := Aside0.mk hl222_2
             clear hi222_2 hl222_2
             replace p222 := eq_true p222
             replace q222 := eq_true q222
             have p229 : 0 ≤ (x9_2 : Int) := of_decide_eq_true (by with_reducible assumption)
             have q229 : x9_2 < (s0_1.length : Int) := of_decide_eq_true (by with_reducible assumption)
             obtain ⟨ad229, A229_2, c229_2, e229, hx229_0, hx229_1, hx229_2, hl229_2, hi229_2⟩ := at_T62 HSz44_1 x9_2 p229 q229
             obtain rfl : ad222 = ad229 := (by injection e229)
             replace hx229_0 := pw_cell_below HB.out hx229_0
             replace hx229_1 := pw_cell_below HB.out hx229_1
             replace hx229_2 := pw_cell_below HB.out hx229_2
             (try (have ea_ := Option.some.inj (hx222_2.symm.trans hx229_2); injection ea_ with ea_ en_ ec_; subst ea_; subst ec_; clear en_))
             have HR229_2 := Aside0.mk hi229_2
             have HC229_2 := Aside0.mk hl229_2
             clear hi229_2 hl229_2
             replace p229 := eq_true p229
             replace q229 := eq_true q229
             have p230 : 0 ≤ (x12_3 : Int) := of_decide_eq_true (by with_reducible assumption)
             have q230 : x12_3 < (((rd_T62 s0_1 x9_2).f2).length : Int) := of_decide_eq_true (by with_reducible assumption)
             obtain ⟨ad230, e230, hx230_0⟩ := Kd.at_int HR229_2.out x12_3 p230 q230
             cases e230
             replace hx230_0 := pw_cell_below HB.out hx230_0
             replace p230 := eq_true p230
             replace q230 := eq_true q230
             obtain ⟨Ao45, co45, eo45⟩ := Kd.R_slice HO_7.out
             subst eo45
             have p231 : 0 ≤ ((rd ((rd_T62 s0_1 x9_2).f2) x12_3) : Int) := of_decide_eq_true (by with_reducible assumption)
             have q231 : (rd ((rd_T62 s0_1 x9_2).f2) x12_3) < (x7_2.length : Int) := of_decide_eq_true (by with_reducible assumption)
             obtain ⟨ad231, e231, hx231_0⟩ := Kd.at_int (Kd.R_reads' HO_7.out).2.2 (rd ((rd_T62 s0_1 x9_2).f2) x12_3) p231 q231
             cases e231
             replace p231 := eq_true p231
             replace q231 := eq_true q231
             obtain ⟨Ao46, co46, eo46⟩ := Kd.R_slice HO_6.out
             subst eo46
             have p237 : 0 ≤ ((rd ((rd_T62 s0_1 x9_2).f2) x12_3) : Int) := of_decide_eq_true (by with_reducible assumption)
             have q237 : (rd ((rd_T62 s0_1 x9_2).f2) x12_3) < (x6_2.length : Int) := of_decide_eq_true (by with_reducible assumption)
             obtain ⟨ad237, e237, hx237_0⟩ := Kd.at_int (Kd.R_reads' HO_6.out).2.2 (rd ((rd_T62 s0_1 x9_2).f2) x12_3) p237 q237
             cases e237
             replace p237 := eq_true p237
             replace q237 := eq_true q237
             have p238 : 0 ≤ (x9_2 : Int) := of_decide_eq_true (by with_reducible assumption)
             have q238 : x9_2 < (s0_1.length : Int) := of_decide_eq_true (by with_reducible assumption)
             obtain ⟨ad238, A238_2, c238_2, e238, hx238_0, hx238_1, hx238_2, hl238_2, hi238_2⟩ := at_T62 HSz44_1 x9_2 p238 q238
             obtain rfl : ad222 = ad238 := (by injection e238)
             replace hx238_0 := pw_cell_below HB.out hx238_0
             replace hx238_1 := pw_cell_below HB.out hx238_1
             replace hx238_2 := pw_cell_below HB.out hx238_2
             (try (have ea_ := Option.some.inj (hx222_2.symm.trans hx238_2); injection ea_ with ea_ en_ ec_; subst ea_; subst ec_; clear en_))
             have HR238_2 := Aside0.mk hi238_2
             have HC238_2 := Aside0.mk hl238_2
             clear hi238_2 hl238_2
             replace p238 := eq_true p238
             replace q238 := eq_true q238
             have p244 : 0 ≤ ((rd ((rd_T62 s0_1 x9_2).f2) x12_3) : Int) := of_decide_eq_true (by with_reducible assumption)
             have q244 : (rd ((rd_T62 s0_1 x9_2).f2) x12_3) < (x7_2.length : Int) := of_decide_eq_true (by with_reducible assumption)
             obtain ⟨ad244, e244, hx244_0⟩ := Kd.at_int (Kd.R_reads' HO_7.out).2.2 (rd ((rd_T62 s0_1 x9_2).f2) x12_3) p244 q244
             obtain rfl : ad231 = ad244 := (by injection e244)
             replace p244 := eq_true p244
             replace q244 := eq_true q244
             have p245 : 0 ≤ (x9_2 : Int) := of_decide_eq_true (by with_reducible assumption)
             have q245 : x9_2 < (s0_1.length : Int) := of_decide_eq_true (by with_reducible assumption)
             obtain ⟨ad245, A245_2, c245_2, e245, hx245_0, hx245_1, hx245_2, hl245_2, hi245_2⟩ := at_T62 HSz44_1 x9_2 p245 q245
             obtain rfl : ad222 = ad245 := (by injection e245)
             replace hx245_0 := pw_cell_below HB.out hx245_0
             replace hx245_1 := pw_cell_below HB.out hx245_1
             replace hx245_2 := pw_cell_below HB.out hx245_2
             (try (have ea_ := Option.some.inj (hx222_2.symm.trans hx245_2); injection ea_ with ea_ en_ ec_; subst ea_; subst ec_; clear en_))
             have HR245_2 := Aside0.mk hi245_2
             have HC245_2 := Aside0.mk hl245_2
             clear hi245_2 hl245_2
             replace p245 := eq_true p245
             replace q245 := eq_true q245
             go_wp2_with (first | (go_at_call 72; (with_reducible refine (spec_l00Max.calls x11_3 (wrap64 ((rd x7_2 (rd ((rd_T62 s0_1 x9_2).f2) x12_3)) + ((rd_T62 s0_1 x9_2).f1))) t246 _ A43.out).mono ?_); rintro e w' ⟨rfl, ⟨nd, rfl⟩⟩; (try first | exact ⟨rfl, _, World.drewN_drewN _ _ _⟩ | exact ⟨rfl, _, Eq.trans (World.drewN_drewN _ _ _) (congrArg (World.drewN _) (Nat.add_assoc _ _ _))⟩)))
             repeat (go_quiet ((go_at_call 72; (with_reducible refine (spec_l00Max.calls x11_3 (wrap64 ((rd x7_2 (rd ((rd_T62 s0_1 x9_2).f2) x12_3)) + ((rd_T62 s0_1 x9_2).f1))) t246 _ A43.out).mono ?_); rintro e w' ⟨rfl, ⟨nd, rfl⟩⟩; (try first | exact ⟨rfl, _, World.drewN_drewN _ _ _⟩ | exact ⟨rfl, _, Eq.trans (World.drewN_drewN _ _ _) (congrArg (World.drewN _) (Nat.add_assoc _ _ _))⟩))); try go_wp2_with (first | (go_at_call 72; (with_reducible refine (spec_l00Max.calls x11_3 (wrap64 ((rd x7_2 (rd ((rd_T62 s0_1 x9_2).f2) x12_3)) + ((rd_T62 s0_1 x9_2).f1))) t246 _ A43.out).mono ?_); rintro e w' ⟨rfl, ⟨nd, rfl⟩⟩; (try first | exact ⟨rfl, _, World.drewN_drewN _ _ _⟩ | exact ⟨rfl, _, Eq.trans (World.drewN_drewN _ _ _) (congrArg (World.drewN _) (Nat.add_assoc _ _ _))⟩))))
             go_roundg k3
             case measure => have := HK1.out; have := HK2.out; have := HK3.out; omega
             case rel => exact ⟨(x10_3), (t246), (wrap64 (x12_3 + 1)), (by first | rfl | (simp; done) | (simp [*]; done)), (by first | rfl | (simp; done) | (simp [*]; done)), (by first | rfl | (simp; done) | (simp [*]; done)), H', ⟨by have := HK1.out; have := HK2.out; have := HK3.out; omega⟩, ⟨by (with_reducible repeat (first | apply Kd.R_alloc | apply Kd.R_drewN | apply Kd.R_drew)); exact HO_6.out⟩, ⟨by (with_reducible repeat (first | apply Kd.R_alloc | apply Kd.R_drewN | apply Kd.R_drew)); exact HO_7.out⟩, ⟨by with_reducible repeat (first | exact HI0.out | apply IsS30.alloc | apply IsS30.drewN | apply IsS30.drew | apply IsS30.set_0 | apply IsS30.set_3 | apply IsS30.set_4 | apply IsS30.set_5 | apply IsS30.set_6)⟩, ⟨by with_reducible repeat (first | exact HK.out | apply KeepBut.set_ | apply keep_drewN | apply keep_drew | apply keep_alloc)⟩, ⟨by with_reducible repeat (first | exact HB.out | apply below_alloc | apply pw_below_drewN | apply below_drew1 | refine below_set ?_ (IsS30.ge HI0.out))⟩⟩
         ·rw [if_neg c24] at H
          have c24b0 : decide (x12_3 < (((rd_T62 s0_1 x9_2).f2).length : Int)) = false := decide_eq_false c24
          clear c24
          by_cases c47 : x6_2.length < 17592186044416
          case neg => rw [if_neg c47] at H; exact absurd H (by simp)
          rw [if_pos c47] at H
          have LMc47 := Aside0.mk c47
          clear c47
          obtain ⟨y223, hy223⟩ : ∃ y_ : List Int, y_ = (x6_2 ++ [x10_3]) := ⟨_, rfl⟩
          replace H : (if x7_2.length < 17592186044416 then (spec_l06From.l1 k3 y223 (x7_2 ++ [x11_3]) (wrap64 (x9_2 + 1)) s0_0 s0_1 s0_2 s0_3 s0_4 s0_5 s0_6) else (none)) = some (r1, r2, r3, r4, r5, r6, r7) := by first | (rw [hy223]; with_reducible exact H) | (have H2_ := (Option.bind_some _ _).symm.trans H; rw [hy223]; with_reducible exact H2_) | (have H2_ := (Option.bind_some _ _).symm.trans H; with_reducible exact H2_) | with_reducible exact H | (rw [hy223]; exact H) | exact H
          have Ny223 := Aside0.mk hy223
          clear hy223
          by_cases c48 : x7_2.length < 17592186044416
          case neg => rw [if_neg c48] at H; exact absurd H (by simp)
          rw [if_pos c48] at H
          have LMc48 := Aside0.mk c48
          clear c48
          obtain ⟨y226, hy226⟩ : ∃ y_ : List Int, y_ = (x7_2 ++ [x11_3]) := ⟨_, rfl⟩
          replace H : (spec_l06From.l1 k3 y223 y226 (wrap64 (x9_2 + 1)) s0_0 s0_1 s0_2 s0_3 s0_4 s0_5 s0_6) = some (r1, r2, r3, r4, r5, r6, r7) := by first | (rw [hy226]; with_reducible exact H) | (have H2_ := (Option.bind_some _ _).symm.trans H; rw [hy226]; with_reducible exact H2_) | (have H2_ := (Option.bind_some _ _).symm.trans H; with_reducible exact H2_) | with_reducible exact H | (rw [hy226]; exact H) | exact H
          have Ny226 := Aside0.mk hy226
          clear hy226
          have H' := Aside0.mk H
          clear H
          obtain ⟨ASz49_1, cSz49_1, ASz49_2, cSz49_2, HGz49, hgz49, HSz49_1, HSz49_2⟩ := HI0.out
          have hcz49_0 := cellS30_0 HGz49
          have hcz49_1 := cellS30_1 HGz49
          have hcz49_2 := cellS30_2 HGz49
          have hcz49_3 := cellS30_3 HGz49
          have hcz49_4 := cellS30_4 HGz49
          have hcz49_5 := cellS30_5 HGz49
          have hcz49_6 := cellS30_6 HGz49
          have hfz49_0 := blk_frozen HGz49 0
          have hfz49_3 := blk_frozen HGz49 3
          have hfz49_4 := blk_frozen HGz49 4
          have hfz49_5 := blk_frozen HGz49 5
          have hfz49_6 := blk_frozen HGz49 6
          clear HGz49 hgz49
          have p222 : 0 ≤ (x9_2 : Int) := of_decide_eq_true (by with_reducible assumption)
          have q222 : x9_2 < (s0_1.length : Int) := of_decide_eq_true (by with_reducible assumption)
          obtain ⟨ad222, A222_2, c222_2, e222, hx222_0, hx222_1, hx222_2, hl222_2, hi222_2⟩ := at_T62 HSz49_1 x9_2 p222 q222
          cases e222
          replace hx222_0 := pw_cell_below HB.out hx222_0
          replace hx222_1 := pw_cell_below HB.out hx222_1
          replace hx222_2 := pw_cell_below HB.out hx222_2
          have HR222_2 := Aside0.mk hi222_2
          have HC222_2 := Aside0.mk hl222_2
          clear hi222_2 hl222_2
          replace p222 := eq_true p222
          replace q222 := eq_true q222
          go_wp2_with (first | ((with_reducible refine gate_builtin (b := .append) (xs := #[.tmp 124, .tmp 126]) rfl ?_); at_builtin; refine Kd.R_append (Kd.int .i64) w.heap.size rfl (.tmp 124) (.tmp 126) 23 2 (.int .i64 0) 8 rfl Try.underlying23 info2 rfl (by decide) (by omega) u6 x6_2 x10_3 [.int .i64 x10_3] (fun k_ => some k_ ≠ (u7 : Value).ownBlock) (fun _ => False) rfl rfl ?aP (fun _ hk => hk.elim) ?aF ?aO (Below.refl _ _) ?aS ?aL ?_; (case aP => exact rfl); (case aF => exact (fun k_ hk => Kd.fresh' (Kd.R_lt (by (with_reducible repeat (first | apply Kd.R_alloc | apply Kd.R_drewN | apply Kd.R_drew)); exact HO_7.out)) k_ hk)); (case aO => exact (by (with_reducible repeat (first | apply Kd.R_alloc | apply Kd.R_drewN | apply Kd.R_drew)); exact HO_6.out)); (case aS => exact (keep_size (w := w) (g := g) (row := none) (by with_reducible repeat (first | exact HK.out | apply KeepBut.set_ | apply keep_drewN | apply keep_drew | apply keep_alloc)))); (case aL => have := LMc47.out; omega); intro v224 w50 ho hb hg hat; rw [← Ny223.out] at ho; have n0_ := Aside0.mk (Kd.R_after (ok := (fun _ => True)) (by (with_reducible repeat (first | apply Kd.R_alloc | apply Kd.R_drewN | apply Kd.R_drew)); exact Kd.R_mono HO_7.out (fun _ hk => ⟨trivial, hk⟩)) hg hat); have n1_ := Aside0.mk (IsS30.grown (by with_reducible repeat (first | exact HI0.out | apply IsS30.alloc | apply IsS30.drewN | apply IsS30.drew | apply IsS30.set_0 | apply IsS30.set_3 | apply IsS30.set_4 | apply IsS30.set_5 | apply IsS30.set_6)) hg (IsS30.own_ne HI0.out HO_6.out (by decide))); have n2_ := Aside0.mk (below_weaken (by with_reducible repeat (first | exact HB.out | apply below_alloc | apply pw_below_drewN | apply below_drew1 | refine below_set ?_ (IsS30.ge HI0.out))) HL.out hb); have n3_ := Aside0.mk (KeepBut.trans (by with_reducible repeat (first | exact HK.out | apply KeepBut.set_ | apply keep_drewN | apply keep_drew | apply keep_alloc)) (KeepBut.of_grown hg g) (Kd.R_base2 HO_6.out)); have n4_ := Aside0.mk (ho); clear HO_7; clear HI0; clear HB; clear HK; clear HO_6; have HO_7 := n0_; have HI0 := n1_; have HB := n2_; have HK := n3_; have HO225 := n4_; clear n0_ n1_ n2_ n3_ n4_; clear ho hb hg hat) | ((with_reducible refine gate_builtin (b := .append) (xs := #[.tmp 128, .tmp 130]) rfl ?_); at_builtin; refine Kd.R_append (Kd.int .i64) w.heap.size rfl (.tmp 128) (.tmp 130) 23 2 (.int .i64 0) 8 rfl Try.underlying23 info2 rfl (by decide) (by omega) u7 x7_2 x11_3 [.int .i64 x11_3] (fun k_ => some k_ ≠ (v224 : Value).ownBlock) (fun _ => False) rfl rfl ?aP (fun _ hk => hk.elim) ?aF ?aO (Below.refl _ _) ?aS ?aL ?_; (case aP => exact rfl); (case aF => exact (fun k_ hk => Kd.fresh' (Kd.R_lt (by (with_reducible repeat (first | apply Kd.R_alloc | apply Kd.R_drewN | apply Kd.R_drew)); exact HO225.out)) k_ hk)); (case aO => exact (by (with_reducible repeat (first | apply Kd.R_alloc | apply Kd.R_drewN | apply Kd.R_drew)); exact Kd.R_mono HO_7.out (fun _ hk => hk.2))); (case aS => exact (keep_size (w := w) (g := g) (row := none) (by with_reducible repeat (first | exact HK.out | apply KeepBut.set_ | apply keep_drewN | apply keep_drew | apply keep_alloc)))); (case aL => have := LMc48.out; omega); intro v227 w51 ho hb hg hat; rw [← Ny226.out] at ho; have n0_ := Aside0.mk (IsS30.grown (by with_reducible repeat (first | exact HI0.out | apply IsS30.alloc | apply IsS30.drewN | apply IsS30.drew | apply IsS30.set_0 | apply IsS30.set_3 | apply IsS30.set_4 | apply IsS30.set_5 | apply IsS30.set_6)) hg (IsS30.own_ne HI0.out HO_7.out (by decide))); have n1_ := Aside0.mk (Kd.R_after (ok := (fun _ => True)) (by (with_reducible repeat (first | apply Kd.R_alloc | apply Kd.R_drewN | apply Kd.R_drew)); exact Kd.R_mono HO225.out (fun _ hk => ⟨trivial, hk⟩)) hg hat); have n2_ := Aside0.mk (below_weaken (by with_reducible repeat (first | exact HB.out | apply below_alloc | apply pw_below_drewN | apply below_drew1 | refine below_set ?_ (IsS30.ge HI0.out))) HL.out hb); have n3_ := Aside0.mk (KeepBut.trans (by with_reducible repeat (first | exact HK.out | apply KeepBut.set_ | apply keep_drewN | apply keep_drew | apply keep_alloc)) (KeepBut.of_grown hg g) (Kd.R_base2 HO_7.out)); have n4_ := Aside0.mk (ho); clear HI0; clear HO225; clear HB; clear HK; clear HO_7; have HI0 := n0_; have HO225 := n1_; have HB := n2_; have HK := n3_; have HO228 := n4_; clear n0_ n1_ n2_ n3_ n4_; clear ho hb hg hat))
          repeat (go_quiet (fail); try go_wp2_with (first | ((with_reducible refine gate_builtin (b := .append) (xs := #[.tmp 124, .tmp 126]) rfl ?_); at_builtin; refine Kd.R_append (Kd.int .i64) w.heap.size rfl (.tmp 124) (.tmp 126) 23 2 (.int .i64 0) 8 rfl Try.underlying23 info2 rfl (by decide) (by omega) u6 x6_2 x10_3 [.int .i64 x10_3] (fun k_ => some k_ ≠ (u7 : Value).ownBlock) (fun _ => False) rfl rfl ?aP (fun _ hk => hk.elim) ?aF ?aO (Below.refl _ _) ?aS ?aL ?_; (case aP => exact rfl); (case aF => exact (fun k_ hk => Kd.fresh' (Kd.R_lt (by (with_reducible repeat (first | apply Kd.R_alloc | apply Kd.R_drewN | apply Kd.R_drew)); exact HO_7.out)) k_ hk)); (case aO => exact (by (with_reducible repeat (first | apply Kd.R_alloc | apply Kd.R_drewN | apply Kd.R_drew)); exact HO_6.out)); (case aS => exact (keep_size (w := w) (g := g) (row := none) (by with_reducible repeat (first | exact HK.out | apply KeepBut.set_ | apply keep_drewN | apply keep_drew | apply keep_alloc)))); (case aL => have := LMc47.out; omega); intro v224 w50 ho hb hg hat; rw [← Ny223.out] at ho; have n0_ := Aside0.mk (Kd.R_after (ok := (fun _ => True)) (by (with_reducible repeat (first | apply Kd.R_alloc | apply Kd.R_drewN | apply Kd.R_drew)); exact Kd.R_mono HO_7.out (fun _ hk => ⟨trivial, hk⟩)) hg hat); have n1_ := Aside0.mk (IsS30.grown (by with_reducible repeat (first | exact HI0.out | apply IsS30.alloc | apply IsS30.drewN | apply IsS30.drew | apply IsS30.set_0 | apply IsS30.set_3 | apply IsS30.set_4 | apply IsS30.set_5 | apply IsS30.set_6)) hg (IsS30.own_ne HI0.out HO_6.out (by decide))); have n2_ := Aside0.mk (below_weaken (by with_reducible repeat (first | exact HB.out | apply below_alloc | apply pw_below_drewN | apply below_drew1 | refine below_set ?_ (IsS30.ge HI0.out))) HL.out hb); have n3_ := Aside0.mk (KeepBut.trans (by with_reducible repeat (first | exact HK.out | apply KeepBut.set_ | apply keep_drewN | apply keep_drew | apply keep_alloc)) (KeepBut.of_grown hg g) (Kd.R_base2 HO_6.out)); have n4_ := Aside0.mk (ho); clear HO_7; clear HI0; clear HB; clear HK; clear HO_6; have HO_7 := n0_; have HI0 := n1_; have HB := n2_; have HK := n3_; have HO225 := n4_; clear n0_ n1_ n2_ n3_ n4_; clear ho hb hg hat) | ((with_reducible refine gate_builtin (b := .append) (xs := #[.tmp 128, .tmp 130]) rfl ?_); at_builtin; refine Kd.R_append (Kd.int .i64) w.heap.size rfl (.tmp 128) (.tmp 130) 23 2 (.int .i64 0) 8 rfl Try.underlying23 info2 rfl (by decide) (by omega) u7 x7_2 x11_3 [.int .i64 x11_3] (fun k_ => some k_ ≠ (v224 : Value).ownBlock) (fun _ => False) rfl rfl ?aP (fun _ hk => hk.elim) ?aF ?aO (Below.refl _ _) ?aS ?aL ?_; (case aP => exact rfl); (case aF => exact (fun k_ hk => Kd.fresh' (Kd.R_lt (by (with_reducible repeat (first | apply Kd.R_alloc | apply Kd.R_drewN | apply Kd.R_drew)); exact HO225.out)) k_ hk)); (case aO => exact (by (with_reducible repeat (first | apply Kd.R_alloc | apply Kd.R_drewN | apply Kd.R_drew)); exact Kd.R_mono HO_7.out (fun _ hk => hk.2))); (case aS => exact (keep_size (w := w) (g := g) (row := none) (by with_reducible repeat (first | exact HK.out | apply KeepBut.set_ | apply keep_drewN | apply keep_drew | apply keep_alloc)))); (case aL => have := LMc48.out; omega); intro v227 w51 ho hb hg hat; rw [← Ny226.out] at ho; have n0_ := Aside0.mk (IsS30.grown (by with_reducible repeat (first | exact HI0.out | apply IsS30.alloc | apply IsS30.drewN | apply IsS30.drew | apply IsS30.set_0 | apply IsS30.set_3 | apply IsS30.set_4 | apply IsS30.set_5 | apply IsS30.set_6)) hg (IsS30.own_ne HI0.out HO_7.out (by decide))); have n1_ := Aside0.mk (Kd.R_after (ok := (fun _ => True)) (by (with_reducible repeat (first | apply Kd.R_alloc | apply Kd.R_drewN | apply Kd.R_drew)); exact Kd.R_mono HO225.out (fun _ hk => ⟨trivial, hk⟩)) hg hat); have n2_ := Aside0.mk (below_weaken (by with_reducible repeat (first | exact HB.out | apply below_alloc | apply pw_below_drewN | apply below_drew1 | refine below_set ?_ (IsS30.ge HI0.out))) HL.out hb); have n3_ := Aside0.mk (KeepBut.trans (by with_reducible repeat (first | exact HK.out | apply KeepBut.set_ | apply keep_drewN | apply keep_drew | apply keep_alloc)) (KeepBut.of_grown hg g) (Kd.R_base2 HO_7.out)); have n4_ := Aside0.mk (ho); clear HI0; clear HO225; clear HB; clear HK; clear HO_7; have HI0 := n0_; have HO225 := n1_; have HB := n2_; have HK := n3_; have HO228 := n4_; clear n0_ n1_ n2_ n3_ n4_; clear ho hb hg hat)))
          go_roundg k3
          case measure => have := HK1.out; have := HK2.out; have := HK3.out; omega
          case rel => exact ⟨(y223), (y226), (wrap64 (x9_2 + 1)), (by first | rfl | (simp; done) | (simp [*]; done)), H', ⟨by have := HK1.out; have := HK2.out; have := HK3.out; omega⟩, ⟨by (with_reducible repeat (first | apply Kd.R_alloc | apply Kd.R_drewN | apply Kd.R_drew)); exact Kd.R_mono HO225.out (fun _ hk => hk.2)⟩, ⟨by (with_reducible repeat (first | apply Kd.R_alloc | apply Kd.R_drewN | apply Kd.R_drew)); exact HO228.out⟩, ⟨by with_reducible repeat (first | exact HI0.out | apply IsS30.alloc | apply IsS30.drewN | apply IsS30.drew | apply IsS30.set_0 | apply IsS30.set_3 | apply IsS30.set_4 | apply IsS30.set_5 | apply IsS30.set_6)⟩, ⟨by with_reducible repeat (first | exact HK.out | apply KeepBut.set_ | apply keep_drewN | apply keep_drew | apply keep_alloc)⟩, ⟨by with_reducible repeat (first | exact HB.out | apply below_alloc | apply pw_below_drewN | apply below_drew1 | refine below_set ?_ (IsS30.ge HI0.out))⟩⟩
      ·rw [if_neg c20] at H
       have c20b0 : decide (x9_2 < (s0_1.length : Int)) = false := decide_eq_false c20
       clear c20
       simp only [Option.some.injEq, Prod.mk.injEq] at H
       obtain ⟨rfl, rfl, rfl, rfl, rfl, rfl, rfl⟩ := H
       obtain ⟨ASz52_1, cSz52_1, ASz52_2, cSz52_2, HGz52, hgz52, HSz52_1, HSz52_2⟩ := HI0.out
       have hcz52_0 := cellS30_0 HGz52
       have hcz52_1 := cellS30_1 HGz52
       have hcz52_2 := cellS30_2 HGz52
       have hcz52_3 := cellS30_3 HGz52
       have hcz52_4 := cellS30_4 HGz52
       have hcz52_5 := cellS30_5 HGz52
       have hcz52_6 := cellS30_6 HGz52
       have hfz52_0 := blk_frozen HGz52 0
       have hfz52_3 := blk_frozen HGz52 3
       have hfz52_4 := blk_frozen HGz52 4
       have hfz52_5 := blk_frozen HGz52 5
       have hfz52_6 := blk_frozen HGz52 6
       clear HGz52 hgz52
       go_wp2
       repeat (go_quiet (fail); try go_wp2)
       go_ret2
       exact ⟨_, _, by first | rfl | (simp [errW_none, errW_some] <;> rfl) | (simp [*, errW_none, errW_some] <;> rfl), by (with_reducible repeat (first | apply Kd.R_alloc | apply Kd.R_drewN | apply Kd.R_drew)); exact HO_6.out, by (with_reducible repeat (first | apply Kd.R_alloc | apply Kd.R_drewN | apply Kd.R_drew)); exact HO_7.out, by with_reducible repeat (first | exact HI0.out | apply IsS30.alloc | apply IsS30.drewN | apply IsS30.drew | apply IsS30.set_0 | apply IsS30.set_3 | apply IsS30.set_4 | apply IsS30.set_5 | apply IsS30.set_6), by with_reducible repeat (first | exact HB.out | apply below_alloc | apply pw_below_drewN | apply below_drew1 | refine below_set ?_ (IsS30.ge HI0.out)), by with_reducible repeat (first | exact HK.out | apply KeepBut.set_ | apply keep_drewN | apply keep_drew | apply keep_alloc)⟩

end Go.Proofs.Ytalafmahgeejiaa.Pa

namespace Go.Proofs.Ytalafmahgeejiaa.Pa
open Go.RowKit Go.Proofs.YtalafmahgeejiaaW.PrintWords Go.Proofs.YtalafmahgeejiaaW.PrintLast Go.Proofs.YtalafmahgeejiaaW.PrintMore
attribute [local go_sem] max2_int min2_int max_two min_two max_three min_three max_four min_four   -- for this text's walks alone
set_option linter.unusedVariables false
set_option linter.unusedSimpArgs false

/-! ### spec_l06Path: function 57 -/
def spec_l06Path.f (k : Nat) (s0_0 : Int) (s0_1 : List (S62)) (s0_2 : List Int) (s0_3 : Int) (s0_4 : Int) (s0_5 : Int) (s0_6 : Int) (a1 : Int) (a2 : Int) : Option (Int × Int × Bool × Int × Int × Int × Int × Int) := (spec_l06From.f k s0_0 s0_1 s0_2 s0_3 s0_4 s0_5 s0_6 a1).bind fun bt247 => (if 0 ≤ a2 then (if a2 < (s0_2.length : Int) then (if 0 ≤ (rd s0_2 a2) then (if (rd s0_2 a2) < (bt247.1.length : Int) then (if (rd s0_2 a2) < (bt247.2.1.length : Int) then (some (wrap64 ((rd bt247.1 (rd s0_2 a2)) + bt247.2.2.2.2.2.1), wrap64 ((rd bt247.2.1 (rd s0_2 a2)) + bt247.2.2.2.2.2.2), decide ((rd bt247.2.1 (rd s0_2 a2)) ≥ 0), bt247.2.2.1, bt247.2.2.2.1, bt247.2.2.2.2.1, bt247.2.2.2.2.2.1, bt247.2.2.2.2.2.2)) else (none)) else (none)) else (none)) else (none)) else (none))
set_option maxHeartbeats 8000000 in
set_option maxRecDepth 100000 in
theorem spec_l06Path.calls (k : Nat) (g : Nat) (s0_0 : Int) (s0_1 : List (S62)) (s0_2 : List Int) (s0_3 : Int) (s0_4 : Int) (s0_5 : Int) (s0_6 : Int) (a1 : Int) (a2 : Int) (r1 : Int) (r2 : Int) (r3 : Bool) (r4 : Int) (r5 : Int) (r6 : Int) (r7 : Int) (r8 : Int) (w0 w : World) (hI : IsS30 w0 w g s0_0 s0_1 s0_2 s0_3 s0_4 s0_5 s0_6) (hB : Below w0.heap.size w0 w) (h : spec_l06Path.f k s0_0 s0_1 s0_2 s0_3 s0_4 s0_5 s0_6 a1 a2 = some (r1, r2, r3, r4, r5, r6, r7, r8)) :
  Calls Try.prog 57 #[.pointer (some ⟨g, 0, none⟩), .int .i64 a1, .int .i64 a2] w fun e w' => e = .returned (.tuple #[.int .i64 r1, .int .i64 r2, .bool r3]) ∧ IsS30 w0 w' g r4 s0_1 s0_2 r5 r6 r7 r8 ∧ Below w0.heap.size w0 w' ∧ KeepBut w w' g none := by
 have HI0 := Aside0.mk hI
 have HK := Aside0.mk (KeepBut.refl w g none)
 have HL := Aside0.mk hB.size
 clear hI
 have HW0 := Aside0.mk hB.size
 have HB := Aside0.mk hB
 clear hB
 have H : ((spec_l06From.f k s0_0 s0_1 s0_2 s0_3 s0_4 s0_5 s0_6 a1).bind fun bt247 => (if 0 ≤ a2 then (if a2 < (s0_2.length : Int) then (if 0 ≤ (rd s0_2 a2) then (if (rd s0_2 a2) < (bt247.1.length : Int) then (if (rd s0_2 a2) < (bt247.2.1.length : Int) then (some (wrap64 ((rd bt247.1 (rd s0_2 a2)) + bt247.2.2.2.2.2.1), wrap64 ((rd bt247.2.1 (rd s0_2 a2)) + bt247.2.2.2.2.2.2), decide ((rd bt247.2.1 (rd s0_2 a2)) ≥ 0), bt247.2.2.1, bt247.2.2.2.1, bt247.2.2.2.2.1, bt247.2.2.2.2.2.1, bt247.2.2.2.2.2.2)) else (none)) else (none)) else (none)) else (none)) else (none))) = some (r1, r2, r3, r4, r5, r6, r7, r8) := h
 clear h
 replace H := Option.bind_eq_some_iff.mp H
 obtain ⟨⟨t247, t250, t253, t254, t255, t256, t257⟩, A40, H⟩ := H
 try dsimp only at H
 have A4 := Aside0.mk A40
 clear A40
 by_cases c5 : 0 ≤ a2
 case neg => rw [if_neg c5] at H; exact absurd H (by simp)
 rw [if_pos c5] at H
 have c5b0 : decide (0 ≤ a2) = true := decide_eq_true c5
 clear c5
 by_cases c6 : a2 < (s0_2.length : Int)
 case neg => rw [if_neg c6] at H; exact absurd H (by simp)
 rw [if_pos c6] at H
 have c6b0 : decide (a2 < (s0_2.length : Int)) = true := decide_eq_true c6
 clear c6
 by_cases c7 : 0 ≤ (rd s0_2 a2)
 case neg => rw [if_neg c7] at H; exact absurd H (by simp)
 rw [if_pos c7] at H
 have c7b0 : decide (0 ≤ (rd s0_2 a2)) = true := decide_eq_true c7
 clear c7
 by_cases c8 : (rd s0_2 a2) < (t247.length : Int)
 case neg => rw [if_neg c8] at H; exact absurd H (by simp)
 rw [if_pos c8] at H
 have c8b0 : decide ((rd s0_2 a2) < (t247.length : Int)) = true := decide_eq_true c8
 clear c8
 by_cases c9 : (rd s0_2 a2) < (t250.length : Int)
 case neg => rw [if_neg c9] at H; exact absurd H (by simp)
 rw [if_pos c9] at H
 have c9b0 : decide ((rd s0_2 a2) < (t250.length : Int)) = true := decide_eq_true c9
 clear c9
 simp only [Option.some.injEq, Prod.mk.injEq] at H
 obtain ⟨rfl, rfl, rfl, rfl, rfl, rfl, rfl, rfl⟩ := H
 go_enter Try.func57, Try.ntmps57
 go_wp2_with (first | (go_at_call 85; (with_reducible refine (spec_l06From.calls k g s0_0 s0_1 s0_2 s0_3 s0_4 s0_5 s0_6 a1 t247 t250 t253 t254 t255 t256 t257 w0 _ ?side1 ?side2 A4.out).mono ?_); (case side1 => repeat (first | (with_reducible first | exact HI0.out | apply IsS30.alloc | apply IsS30.drewN | apply IsS30.drew | apply IsS30.set_0 | apply IsS30.set_3 | apply IsS30.set_4 | apply IsS30.set_5 | apply IsS30.set_6) | exact HI0.out)); (case side2 => repeat (first | (with_reducible first | exact HB.out | apply below_alloc | apply pw_below_drewN | apply below_drew1 | refine below_set ?_ (IsS30.ge HI0.out)) | exact HB.out)); rintro e w10 ⟨v248, v251, rfl, ho0, ho1, hi, hb, hk⟩; have n0_ := Aside0.mk (Kd.R_lower ho0 (keep_size (w := w) (g := g) (row := none) (by with_reducible repeat (first | exact HK.out | apply KeepBut.set_ | apply keep_drewN | apply keep_drew | apply keep_alloc)))); have n1_ := Aside0.mk (Kd.R_lower ho1 (keep_size (w := w) (g := g) (row := none) (by with_reducible repeat (first | exact HK.out | apply KeepBut.set_ | apply keep_drewN | apply keep_drew | apply keep_alloc)))); have n2_ := Aside0.mk (KeepBut.trans (by with_reducible repeat (first | exact HK.out | apply KeepBut.set_ | apply keep_drewN | apply keep_drew | apply keep_alloc)) hk (.inl rfl)); have n3_ := Aside0.mk (hb); have n4_ := Aside0.mk (hi); clear HK; clear HB; clear HI0; have HO249 := n0_; have HO252 := n1_; have HK := n2_; have HB := n3_; have HI0 := n4_; clear n0_ n1_ n2_ n3_ n4_; (try clear hb); (try clear hb2); (try clear hk); (try clear hi); (try clear ho0); (try clear ho1); obtain ⟨ASz11_1, cSz11_1, ASz11_2, cSz11_2, HGz11, hgz11, HSz11_1, HSz11_2⟩ := HI0.out; have hcz11_0 := cellS30_0 HGz11; have hcz11_1 := cellS30_1 HGz11; have hcz11_2 := cellS30_2 HGz11; have hcz11_3 := cellS30_3 HGz11; have hcz11_4 := cellS30_4 HGz11; have hcz11_5 := cellS30_5 HGz11; have hcz11_6 := cellS30_6 HGz11; have hfz11_0 := blk_frozen HGz11 0; have hfz11_3 := blk_frozen HGz11 3; have hfz11_4 := blk_frozen HGz11 4; have hfz11_5 := blk_frozen HGz11 5; have hfz11_6 := blk_frozen HGz11 6; clear HGz11 hgz11; have p258 : 0 ≤ (a2 : Int) := of_decide_eq_true (by with_reducible assumption); have q258 : a2 < (s0_2.length : Int) := of_decide_eq_true (by with_reducible assumption); obtain ⟨ad258, e258, hx258_0⟩ := Kd.at_int HSz11_2 a2 p258 q258; cases e258; replace hx258_0 := pw_cell_below HB.out hx258_0; replace p258 := eq_true p258; replace q258 := eq_true q258; obtain ⟨Ao12, co12, eo12⟩ := Kd.R_slice HO249.out; subst eo12; have p259 : 0 ≤ ((rd s0_2 a2) : Int) := of_decide_eq_true (by with_reducible assumption); have q259 : (rd s0_2 a2) < (t247.length : Int) := of_decide_eq_true (by with_reducible assumption); obtain ⟨ad259, e259, hx259_0⟩ := Kd.at_int (Kd.R_reads' HO249.out).2.2 (rd s0_2 a2) p259 q259; cases e259; replace p259 := eq_true p259; replace q259 := eq_true q259; obtain ⟨Ao13, co13, eo13⟩ := Kd.R_slice HO252.out; subst eo13; have p260 : 0 ≤ ((rd s0_2 a2) : Int) := of_decide_eq_true (by with_reducible assumption); have q260 : (rd s0_2 a2) < (t250.length : Int) := of_decide_eq_true (by with_reducible assumption); obtain ⟨ad260, e260, hx260_0⟩ := Kd.at_int (Kd.R_reads' HO252.out).2.2 (rd s0_2 a2) p260 q260; cases e260; replace p260 := eq_true p260; replace q260 := eq_true q260; have p261 : 0 ≤ ((rd s0_2 a2) : Int) := of_decide_eq_true (by with_reducible assumption); have q261 : (rd s0_2 a2) < (t250.length : Int) := of_decide_eq_true (by with_reducible assumption); obtain ⟨ad261, e261, hx261_0⟩ := Kd.at_int (Kd.R_reads' HO252.out).2.2 (rd s0_2 a2) p261 q261; obtain rfl : ad260 = ad261 := (by injection e261); replace p261 := eq_true p261; replace q261 := eq_true q261))
 repeat (go_quiet ((go_at_call 85; (with_reducible refine (spec_l06From.calls k g s0_0 s0_1 s0_2 s0_3 s0_4 s0_5 s0_6 a1 t247 t250 t253 t254 t255 t256 t257 w0 _ ?side1 ?side2 A4.out).mono ?_); (case side1 => repeat (first | (with_reducible first | exact HI0.out | apply IsS30.alloc | apply IsS30.drewN | apply IsS30.drew | apply IsS30.set_0 | apply IsS30.set_3 | apply IsS30.set_4 | apply IsS30.set_5 | apply IsS30.set_6) | exact HI0.out)); (case side2 => repeat (first | (with_reducible first | exact HB.out | apply below_alloc | apply pw_below_drewN | apply below_drew1 | refine below_set ?_ (IsS30.ge HI0.out)) | exact HB.out)); rintro e w10 ⟨v248, v251, rfl, ho0, ho1, hi, hb, hk⟩; have n0_ := Aside0.mk (Kd.R_lower ho0 (keep_size (w := w) (g := g) (row := none) (by with_reducible repeat (first | exact HK.out | apply KeepBut.set_ | apply keep_drewN | apply keep_drew | apply keep_alloc)))); have n1_ := Aside0.mk (Kd.R_lower ho1 (keep_size (w := w) (g := g) (row := none) (by with_reducible repeat (first | exact HK.out | apply KeepBut.set_ | apply keep_drewN | apply keep_drew | apply keep_alloc)))); have n2_ := Aside0.mk (KeepBut.trans (by with_reducible repeat (first | exact HK.out | apply KeepBut.set_ | apply keep_drewN | apply keep_drew | apply keep_alloc)) hk (.inl rfl)); have n3_ := Aside0.mk (hb); have n4_ := Aside0.mk (hi); clear HK; clear HB; clear HI0; have HO249 := n0_; have HO252 := n1_; have HK := n2_; have HB := n3_; have HI0 := n4_; clear n0_ n1_ n2_ n3_ n4_; (try clear hb); (try clear hb2); (try clear hk); (try clear hi); (try clear ho0); (try clear ho1); obtain ⟨ASz11_1, cSz11_1, ASz11_2, cSz11_2, HGz11, hgz11, HSz11_1, HSz11_2⟩ := HI0.out; have hcz11_0 := cellS30_0 HGz11; have hcz11_1 := cellS30_1 HGz11; have hcz11_2 := cellS30_2 HGz11; have hcz11_3 := cellS30_3 HGz11; have hcz11_4 := cellS30_4 HGz11; have hcz11_5 := cellS30_5 HGz11; have hcz11_6 := cellS30_6 HGz11; have hfz11_0 := blk_frozen HGz11 0; have hfz11_3 := blk_frozen HGz11 3; have hfz11_4 := blk_frozen HGz11 4; have hfz11_5 := blk_frozen HGz11 5; have hfz11_6 := blk_frozen HGz11 6; clear HGz11 hgz11; have p258 : 0 ≤ (a2 : Int) := of_decide_eq_true (by with_reducible assumption); have q258 : a2 < (s0_2.length : Int) := of_decide_eq_true (by with_reducible assumption); obtain ⟨ad258, e258, hx258_0⟩ := Kd.at_int HSz11_2 a2 p258 q258; cases e258; replace hx258_0 := pw_cell_below HB.out hx258_0; replace p258 := eq_true p258; replace q258 := eq_true q258; obtain ⟨Ao12, co12, eo12⟩ := Kd.R_slice HO249.out; subst eo12; have p259 : 0 ≤ ((rd s0_2 a2) : Int) := of_decide_eq_true (by with_reducible assumption); have q259 : (rd s0_2 a2) < (t247.length : Int) := of_decide_eq_true (by with_reducible assumption); obtain ⟨ad259, e259, hx259_0⟩ := Kd.at_int (Kd.R_reads' HO249.out).2.2 (rd s0_2 a2) p259 q259; cases e259; replace p259 := eq_true p259; replace q259 := eq_true q259; obtain ⟨Ao13, co13, eo13⟩ := Kd.R_slice HO252.out; subst eo13; have p260 : 0 ≤ ((rd s0_2 a2) : Int) := of_decide_eq_true (by with_reducible assumption); have q260 : (rd s0_2 a2) < (t250.length : Int) := of_decide_eq_true (by with_reducible assumption); obtain ⟨ad260, e260, hx260_0⟩ := Kd.at_int (Kd.R_reads' HO252.out).2.2 (rd s0_2 a2) p260 q260; cases e260; replace p260 := eq_true p260; replace q260 := eq_true q260; have p261 : 0 ≤ ((rd s0_2 a2) : Int) := of_decide_eq_true (by with_reducible assumption); have q261 : (rd s0_2 a2) < (t250.length : Int) := of_decide_eq_true (by with_reducible assumption); obtain ⟨ad261, e261, hx261_0⟩ := Kd.at_int (Kd.R_reads' HO252.out).2.2 (rd s0_2 a2) p261 q261; obtain rfl : ad260 = ad261 := (by injection e261); replace p261 := eq_true p261; replace q261 := eq_true q261)); try go_wp2_with (first | (go_at_call 85; (with_reducible refine (spec_l06From.calls k g s0_0 s0_1 s0_2 s0_3 s0_4 s0_5 s0_6 a1 t247 t250 t253 t254 t255 t256 t257 w0 _ ?side1 ?side2 A4.out).mono ?_); (case side1 => repeat (first | (with_reducible first | exact HI0.out | apply IsS30.alloc | apply IsS30.drewN | apply IsS30.drew | apply IsS30.set_0 | apply IsS30.set_3 | apply IsS30.set_4 | apply IsS30.set_5 | apply IsS30.set_6) | exact HI0.out)); (case side2 => repeat (first | (with_reducible first | exact HB.out | apply below_alloc | apply pw_below_drewN | apply below_drew1 | refine below_set ?_ (IsS30.ge HI0.out)) | exact HB.out)); rintro e w10 ⟨v248, v251, rfl, ho0, ho1, hi, hb, hk⟩; have n0_ := Aside0.mk (Kd.R_lower ho0 (keep_size (w := w) (g := g) (row := none) (by with_reducible repeat (first | exact HK.out | apply KeepBut.set_ | apply keep_drewN | apply keep_drew | apply keep_alloc)))); have n1_ := Aside0.mk (Kd.R_lower ho1 (keep_size (w := w) (g := g) (row := none) (by with_reducible repeat (first | exact HK.out | apply KeepBut.set_ | apply keep_drewN | apply keep_drew | apply keep_alloc)))); have n2_ := Aside0.mk (KeepBut.trans (by with_reducible repeat (first | exact HK.out | apply KeepBut.set_ | apply keep_drewN | apply keep_drew | apply keep_alloc)) hk (.inl rfl)); have n3_ := Aside0.mk (hb); have n4_ := Aside0.mk (hi); clear HK; clear HB; clear HI0; have HO249 := n0_; have HO252 := n1_; have HK := n2_; have HB := n3_; have HI0 := n4_; clear n0_ n1_ n2_ n3_ n4_; (try clear hb); (try clear hb2); (try clear hk); (try clear hi); (try clear ho0); (try clear ho1); obtain ⟨ASz11_1, cSz11_1, ASz11_2, cSz11_2, HGz11, hgz11, HSz11_1, HSz11_2⟩ := HI0.out; have hcz11_0 := cellS30_0 HGz11; have hcz11_1 := cellS30_1 HGz11; have hcz11_2 := cellS30_2 HGz11; have hcz11_3 := cellS30_3 HGz11; have hcz11_4 := cellS30_4 HGz11; have hcz11_5 := cellS30_5 HGz11; have hcz11_6 := cellS30_6 HGz11; have hfz11_0 := blk_frozen HGz11 0; have hfz11_3 := blk_frozen HGz11 3; have hfz11_4 := blk_frozen HGz11 4; have hfz11_5 := blk_frozen HGz11 5; have hfz11_6 := blk_frozen HGz11 6; clear HGz11 hgz11; have p258 : 0 ≤ (a2 : Int) := of_decide_eq_true (by with_reducible assumption); have q258 : a2 < (s0_2.length : Int) := of_decide_eq_true (by with_reducible assumption); obtain ⟨ad258, e258, hx258_0⟩ := Kd.at_int HSz11_2 a2 p258 q258; cases e258; replace hx258_0 := pw_cell_below HB.out hx258_0; replace p258 := eq_true p258; replace q258 := eq_true q258; obtain ⟨Ao12, co12, eo12⟩ := Kd.R_slice HO249.out; subst eo12; have p259 : 0 ≤ ((rd s0_2 a2) : Int) := of_decide_eq_true (by with_reducible assumption); have q259 : (rd s0_2 a2) < (t247.length : Int) := of_decide_eq_true (by with_reducible assumption); obtain ⟨ad259, e259, hx259_0⟩ := Kd.at_int (Kd.R_reads' HO249.out).2.2 (rd s0_2 a2) p259 q259; cases e259; replace p259 := eq_true p259; replace q259 := eq_true q259; obtain ⟨Ao13, co13, eo13⟩ := Kd.R_slice HO252.out; subst eo13; have p260 : 0 ≤ ((rd s0_2 a2) : Int) := of_decide_eq_true (by with_reducible assumption); have q260 : (rd s0_2 a2) < (t250.length : Int) := of_decide_eq_true (by with_reducible assumption); obtain ⟨ad260, e260, hx260_0⟩ := Kd.at_int (Kd.R_reads' HO252.out).2.2 (rd s0_2 a2) p260 q260; cases e260; replace p260 := eq_true p260; replace q260 := eq_true q260; have p261 : 0 ≤ ((rd s0_2 a2) : Int) := of_decide_eq_true (by with_reducible assumption); have q261 : (rd s0_2 a2) < (t250.length : Int) := of_decide_eq_true (by with_reducible assumption); obtain ⟨ad261, e261, hx261_0⟩ := Kd.at_int (Kd.R_reads' HO252.out).2.2 (rd s0_2 a2) p261 q261; obtain rfl : ad260 = ad261 := (by injection e261); replace p261 := eq_true p261; replace q261 := eq_true q261)))
 go_ret3
 exact ⟨by first | rfl | (simp [errW_none, errW_some] <;> rfl) | (simp [*, errW_none, errW_some] <;> rfl), by with_reducible repeat (first | exact HI0.out | apply IsS30.alloc | apply IsS30.drewN | apply IsS30.drew | apply IsS30.set_0 | apply IsS30.set_3 | apply IsS30.set_4 | apply IsS30.set_5 | apply IsS30.set_6), by with_reducible repeat (first | exact HB.out | apply below_alloc | apply pw_below_drewN | apply below_drew1 | refine below_set ?_ (IsS30.ge HI0.out)), by with_reducible repeat (first | exact HK.out | apply KeepBut.set_ | apply keep_drewN | apply keep_drew | apply keep_alloc)⟩
end Go.Proofs.Ytalafmahgeejiaa.Pa

namespace Go.Proofs.Ytalafmahgeejiaa.Pa
open Go.RowKit Go.Proofs.YtalafmahgeejiaaW.PrintWords Go.Proofs.YtalafmahgeejiaaW.PrintLast Go.Proofs.YtalafmahgeejiaaW.PrintMore
attribute [local go_sem] max2_int min2_int max_two min_two max_three min_three max_four min_four   -- for this text's walks alone
set_option linter.unusedVariables false
set_option linter.unusedSimpArgs false

/-! ### impl_Circuit_nodes: function 54 -/
def impl_Circuit_nodes.f (a0_0 : Int) (l0_1 : List (S62)) (l0_2 : List Int) (a0_3 : Int) (a0_4 : Int) (a0_5 : Int) (a0_6 : Int) : Option (Int) := some (wrap64 (a0_0 + (l0_1.length : Int)))
set_option maxHeartbeats 8000000 in
set_option maxRecDepth 100000 in
theorem impl_Circuit_nodes.calls (a0_0 : Int) (A0_1 : Option Addr) (c0_1 : Nat) (l0_1 : List (S62)) (A0_2 : Option Addr) (c0_2 : Nat) (l0_2 : List Int) (a0_3 : Int) (a0_4 : Int) (a0_5 : Int) (a0_6 : Int) (r : Int) (w : World) (hr0_1 : Kd.C k62 w A0_1 l0_1.length l0_1) (hc0_1 : l0_1.length ≤ c0_1) (hr0_2 : Kd.C (Kd.int .i64) w A0_2 l0_2.length l0_2) (hc0_2 : l0_2.length ≤ c0_2) (h : impl_Circuit_nodes.f a0_0 l0_1 l0_2 a0_3 a0_4 a0_5 a0_6 = some r) :
  Calls Try.prog 54 #[.agg #[.int .i64 a0_0, .slice A0_1 l0_1.length c0_1, .slice A0_2 l0_2.length c0_2, .int .i64 a0_3, .int .i64 a0_4, .int .i64 a0_5, .int .i64 a0_6]] w fun e w' => e = .returned (.int .i64 r) ∧ Below w.heap.size w w' := by
 have hu30 := Try.underlying30
 have HR0_1 := Aside0.mk hr0_1
 have HC0_1 := Aside0.mk hc0_1
 clear hr0_1 hc0_1
 have HR0_2 := Aside0.mk hr0_2
 have HC0_2 := Aside0.mk hc0_2
 clear hr0_2 hc0_2
 have HB := Aside0.mk (Below.refl w.heap.size w)
 have H : (some (wrap64 (a0_0 + (l0_1.length : Int)))) = some r := h
 clear h
 obtain rfl := Option.some.inj H
 go_enter Try.func54, Try.ntmps54
 go_wp2_with (first | ((with_reducible refine gate_dst (N := 1) rfl ?_); refine box_event ?hg (N := 1) ?hd (cs := #[.int .i64 a0_0, .slice A0_1 l0_1.length c0_1, .slice A0_2 l0_2.length c0_2, .int .i64 a0_3, .int .i64 a0_4, .int .i64 a0_5, .int .i64 a0_6]) (t := 30) ?hr ?_; (case hd => rfl); (case hg => rfl); (case hr => first | (go_simp; done) | (go_simp; rfl)); intro gb154 hg w2 hbox hb; have n0_ := Aside0.mk (below_step (by repeat (first | (with_reducible first | exact HB.out | apply below_alloc | apply pw_below_drewN | apply below_drew1) | exact HB.out)) hb); have n1_ := Aside0.mk (hbox); have n2_ := Aside0.mk ((by rw [hg]; exact (below_size (by repeat (first | (with_reducible first | exact HB.out | apply below_alloc | apply pw_below_drewN | apply below_drew1) | exact HB.out))) : w.heap.size ≤ gb154)); have n3_ := Aside0.mk ((by rw [hg]; exact (below_size (by repeat (first | (with_reducible first | exact HB.out | apply below_alloc | apply pw_below_drewN | apply below_drew1) | exact HB.out))) : w.heap.size ≤ gb154)); clear HB; have HB := n0_; have BK154 := n1_; have GW154 := n2_; have GE154 := n3_; clear n0_ n1_ n2_ n3_; clear hb hbox hg; have hcz3_0 : w2.cell? ⟨gb154, 0, none⟩ = some (.int .i64 a0_0) := (blk_cell BK154.out 0).trans rfl; have hcz3_1 : w2.cell? ⟨gb154, 1, none⟩ = some (.slice A0_1 l0_1.length c0_1) := (blk_cell BK154.out 1).trans rfl; have hcz3_2 : w2.cell? ⟨gb154, 2, none⟩ = some (.slice A0_2 l0_2.length c0_2) := (blk_cell BK154.out 2).trans rfl; have hcz3_3 : w2.cell? ⟨gb154, 3, none⟩ = some (.int .i64 a0_3) := (blk_cell BK154.out 3).trans rfl; have hcz3_4 : w2.cell? ⟨gb154, 4, none⟩ = some (.int .i64 a0_4) := (blk_cell BK154.out 4).trans rfl; have hcz3_5 : w2.cell? ⟨gb154, 5, none⟩ = some (.int .i64 a0_5) := (blk_cell BK154.out 5).trans rfl; have hcz3_6 : w2.cell? ⟨gb154, 6, none⟩ = some (.int .i64 a0_6) := (blk_cell BK154.out 6).trans rfl; have hfz3_0 := blk_frozen BK154.out 0; have hfz3_1 := blk_frozen BK154.out 1; have hfz3_2 := blk_frozen BK154.out 2; have hfz3_3 := blk_frozen BK154.out 3; have hfz3_4 := blk_frozen BK154.out 4; have hfz3_5 := blk_frozen BK154.out 5; have hfz3_6 := blk_frozen BK154.out 6))
 go_ret
 exact ⟨by first | rfl | (simp [errW_none, errW_some] <;> rfl) | (simp [*, errW_none, errW_some] <;> rfl), by repeat (first | (with_reducible first | exact HB.out | apply below_alloc | apply pw_below_drewN | apply below_drew1 | refine below_set ?_ GE154.out) | exact HB.out)⟩

end Go.Proofs.Ytalafmahgeejiaa.Pa

