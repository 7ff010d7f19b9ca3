-- Written for this claim by a program of this session.
import Derived.Test.YtljboamepnhfpaaPax0
import Derived.Test.YtljboamepnhfpaaCore3
import Derived.Test.YtljboamepnhfpaaCore4
import Derived.Test.YtljboamepnhfpaaCore5
namespace Go.Proofs.Ytljboamepnhfpaa.Pa
open Go.RowKit Go.Proofs.YtljboamepnhfpaaW.PrintWords Go.Proofs.YtljboamepnhfpaaW.PrintLast Go.Proofs.YtljboamepnhfpaaW.PrintMore
attribute [local go_sem] max2_int min2_int max_two min_two max_three min_three max_four min_four   -- for this text's walks alone
set_option linter.unusedVariables false
set_option linter.unusedSimpArgs false

/-! ### spec_EarliestTimes: function 41 -/
def spec_EarliestTimes.l0 : Nat → Int → List (List Int) → Bool → List Int → Int → Int → List (S45) → Option (List Int × Bool × Int)
 | 0, _, _, _, _, _, _, _ => none
 | k + 1, x1, x6, x7, x8, x9, x1000, x1001 => if x9 < x1000 then (if x7 = true then (if 0 ≤ x9 then (if x9 < (x6.length : Int) then (if 0 ≤ x1 then (if x1 < ((rd_L8 x6 x9).length : Int) then (if (rd (rd_L8 x6 x9) x1) = 1000000 then (some (([] : List Int), false, x1000)) else (if x8.length < 17592186044416 then (spec_EarliestTimes.l0 k x1 x6 x7 (x8 ++ [wrap64 (-(rd (rd_L8 x6 x9) x1))]) (wrap64 (x9 + 1)) x1000 x1001) else (none))) else (none)) else (none)) else (none)) else (none)) else (some (([] : List Int), false, x1000))) else (some (x8, true, x1000))
def spec_EarliestTimes.fB (k : Nat) (s0_0 : Int) (s0_1 : List (S45)) (a1 : Int) : Option (List Int × Bool × Int) := (spec_l04Event.f s0_0 s0_1 a1).bind fun bt634 => (if bt634.1 = true then ((spec_l04Tight.f k bt634.2 s0_1 (([] : List Int))).bind fun bt639 => (spec_EarliestTimes.l0 k a1 bt639.1 bt639.2.1 (([] : List Int)) 0 bt639.2.2 s0_1)) else (some (([] : List Int), false, bt634.2)))
theorem spec_EarliestTimes.mono_l : ∀ k, (∀ y0 y1 y2 y3 y4 y5 y6, LeO (spec_EarliestTimes.l0 k y0 y1 y2 y3 y4 y5 y6) (spec_EarliestTimes.l0 (k + 1) y0 y1 y2 y3 y4 y5 y6))
 | 0 => fun _ _ _ _ _ _ _ r h => by simp [spec_EarliestTimes.l0] at h
 | k + 1 => by
  have ih0 := spec_EarliestTimes.mono_l k
  ·intro y0 y1 y2 y3 y4 y5 y6
   unfold spec_EarliestTimes.l0
   repeat' first
   | (with_reducible exact ih0 _ _ _ _ _ _ _)
   | (with_reducible exact spec_l04Tight.mono _ _ _ _)
   | (with_reducible exact LeO.refl _)
   | (with_reducible exact LeO.none _)
   | (with_reducible refine LeO.ite ?_ ?_)
   | (with_reducible refine LeO.bind ?_ (fun _ => ?_))
   | exact ih0 _ _ _ _ _ _ _
   | exact spec_l04Tight.mono _ _ _ _
   | exact LeO.none _
   | refine LeO.ite ?_ ?_
   | refine LeO.bind ?_ (fun _ => ?_)
theorem spec_EarliestTimes.monoB : ∀ a0 a1 a2 k, LeO (spec_EarliestTimes.fB k a0 a1 a2) (spec_EarliestTimes.fB (k + 1) a0 a1 a2) := by
 intro a0 a1 a2 k
 have ih0 := spec_EarliestTimes.mono_l k
 unfold spec_EarliestTimes.fB
 repeat' first
   | (with_reducible exact ih0 _ _ _ _ _ _ _)
   | (with_reducible exact spec_l04Tight.mono _ _ _ _)
   | (with_reducible exact LeO.refl _)
   | (with_reducible exact LeO.none _)
   | (with_reducible refine LeO.ite ?_ ?_)
   | (with_reducible refine LeO.bind ?_ (fun _ => ?_))
   | exact ih0 _ _ _ _ _ _ _
   | exact spec_l04Tight.mono _ _ _ _
   | exact LeO.none _
   | refine LeO.ite ?_ ?_
   | refine LeO.bind ?_ (fun _ => ?_)
set_option maxHeartbeats 8000000 in
set_option maxRecDepth 100000 in
theorem spec_EarliestTimes.callsB (k : Nat) (A0_1 : Option Addr) (c0_1 : Nat) (g : Nat) (s0_0 : Int) (s0_1 : List (S45)) (a1 : Int) (r1 : List Int) (r2 : Bool) (r3 : Int) (w0 w : World) (hI : IsS29 w0 w g s0_0 s0_1) (hB : Below w0.heap.size w0 w) (hg_ : g = w0.heap.size) (hw_ : w = w0.alloc (.cells #[.int .i64 s0_0, .slice A0_1 s0_1.length c0_1] 29)) (h : spec_EarliestTimes.fB k s0_0 s0_1 a1 = some (r1, r2, r3)) :
  Calls Try.prog 41 #[.agg #[.int .i64 s0_0, .slice A0_1 s0_1.length c0_1], .int .i64 a1] w0 fun e w' => ∃ v0_ : Value, e = .returned (.tuple #[v0_, .bool r2]) ∧ Kd.R (Kd.int .i64) 2 w' w.heap.size (fun _ => True) v0_ r1 ∧ IsS29 w0 w' g r3 s0_1 ∧ Below w0.heap.size w0 w' ∧ KeepBut w w' g none := by
 have hu29_ := Try.underlying29
 have HG_ := Aside0.mk hg_
 have HW_ := Aside0.mk hw_
 clear hg_ hw_
 have HI0 := Aside0.mk hI
 have HK := Aside0.mk (KeepBut.refl w g none)
 have HL := Aside0.mk hB.size
 clear hI
 have HW0 := Aside0.mk hB.size
 have HB := Aside0.mk hB
 clear hB
 have H : ((spec_l04Event.f s0_0 s0_1 a1).bind fun bt634 => (if bt634.1 = true then ((spec_l04Tight.f k bt634.2 s0_1 (([] : List Int))).bind fun bt639 => (spec_EarliestTimes.l0 k a1 bt639.1 bt639.2.1 (([] : List Int)) 0 bt639.2.2 s0_1)) else (some (([] : List Int), false, bt634.2)))) = some (r1, r2, r3) := h
 clear h
 replace H := Option.bind_eq_some_iff.mp H
 obtain ⟨⟨t634, t635⟩, A30, H⟩ := H
 replace H : (if t634 = true then ((spec_l04Tight.f k t635 s0_1 (([] : List Int))).bind fun bt639 => (spec_EarliestTimes.l0 k a1 bt639.1 bt639.2.1 (([] : List Int)) 0 bt639.2.2 s0_1)) else (some (([] : List Int), false, t635))) = some (r1, r2, r3) := H
 have A3 := Aside0.mk A30
 clear A30
 by_cases c4 : t634 = true
 ·subst c4
  have H1 : ((spec_l04Tight.f k t635 s0_1 (([] : List Int))).bind fun bt639 => (spec_EarliestTimes.l0 k a1 bt639.1 bt639.2.1 (([] : List Int)) 0 bt639.2.2 s0_1)) = some (r1, r2, r3) := by rw [if_pos rfl] at H; exact H
  clear H
  have H := H1
  clear H1
  obtain ⟨y636, hy636⟩ : ∃ y_ : List Int, y_ = (([] : List Int)) := ⟨_, rfl⟩
  replace H : ((spec_l04Tight.f k t635 s0_1 y636).bind fun bt639 => (spec_EarliestTimes.l0 k a1 bt639.1 bt639.2.1 (([] : List Int)) 0 bt639.2.2 s0_1)) = some (r1, r2, r3) := by first | (rw [hy636]; with_reducible exact H) | (have H2_ := (Option.bind_some _ _).symm.trans H; rw [hy636]; with_reducible exact H2_) | (have H2_ := (Option.bind_some _ _).symm.trans H; with_reducible exact H2_) | with_reducible exact H | (rw [hy636]; exact H) | exact H
  have Ny636 := Aside0.mk hy636
  clear hy636
  replace H := Option.bind_eq_some_iff.mp H
  obtain ⟨⟨t639, t642, t643⟩, A50, H⟩ := H
  replace H : (spec_EarliestTimes.l0 k a1 t639 t642 (([] : List Int)) 0 t643 s0_1) = some (r1, r2, r3) := H
  have A5 := Aside0.mk A50
  clear A50
  obtain ⟨y644, hy644⟩ : ∃ y_ : List Int, y_ = (([] : List Int)) := ⟨_, rfl⟩
  replace H : (spec_EarliestTimes.l0 k a1 t639 t642 y644 0 t643 s0_1) = some (r1, r2, r3) := by first | (rw [hy644]; with_reducible exact H) | (have H2_ := (Option.bind_some _ _).symm.trans H; rw [hy644]; with_reducible exact H2_) | (have H2_ := (Option.bind_some _ _).symm.trans H; with_reducible exact H2_) | with_reducible exact H | (rw [hy644]; exact H) | exact H
  have Ny644 := Aside0.mk hy644
  clear hy644
  have H' := Aside0.mk H
  clear H
  go_enter Try.func41, Try.ntmps41
  go_wp2_with (first | ((with_reducible refine gate_dst (N := 2) rfl ?_); refine box_here (g := g) (w1 := w) (t := 29) ?hg (N := 2) ?hd HG_.out HW_.out ?hr ?_; (case hd => rfl); (case hg => rfl); (case hr => first | (go_simp; done) | (go_simp; rfl))) | ((with_reducible refine gate_callee (f := 62) rfl ?_); refine goesL_ (some 11) rfl rfl Try.func62 (by kernel_rfl) rfl #[.pointer (some ⟨g, 0, none⟩), .int .i64 a1] rfl (by (try simp only [List.map_toArray, List.map_cons, List.map_nil]); first | done | rfl | (simp only [List.length_drop, List.length_take]; rfl)) ?_; (with_reducible refine (spec_l04Event.calls g s0_0 s0_1 a1 true t635 w0 _ ?side1 ?side2 A3.out).mono ?_); (case side1 => repeat (first | (with_reducible first | exact HI0.out | apply IsS29.alloc | apply IsS29.drewN | apply IsS29.drew | apply IsS29.set_0) | exact HI0.out)); (case side2 => repeat (first | (with_reducible first | exact HB.out | apply below_alloc | apply pw_below_drewN | apply below_drew1 | refine below_set ?_ (IsS29.ge HI0.out)) | exact HB.out)); rintro e w6 ⟨rfl, hi, hb, hk⟩; refine ⟨_, rfl, ?_⟩; have n0_ := Aside0.mk (KeepBut.trans (by repeat (first | (with_reducible first | exact HK.out | apply KeepBut.set_ | apply keep_drewN | apply keep_drew | apply keep_alloc) | exact HK.out)) hk (.inl rfl)); have n1_ := Aside0.mk (hb); have n2_ := Aside0.mk (hi); clear HK; clear HB; clear HI0; have HK := n0_; have HB := n1_; have HI0 := n2_; clear n0_ n1_ n2_; (try clear hb); (try clear hb2); (try clear hk); (try clear hi)) | ((with_reducible refine gate_dst (N := 14) rfl ?_); refine Kd.R_lit (Kd.int .i64) _ 2 ?hg (N := 14) ?hd (xs := ([] : List Int)) (inner := []) (ok := fun _ => True) (okp := fun _ => True) ?hr ?hp (fun _ hk => hk) trivial (Below.refl _ _) (Nat.le_refl _) (by simp) ?_; (case hd => rfl); (case hg => rfl); (case hr => first | (go_simp; done) | (go_simp; rfl)); (case hp => exact (Reps.none _ _)); intro v637 w7 ho8 hb hg_ hnew_; clear hg_ hnew_; (first | rw [← Ny636.out] at ho8 | (simp only [Int.reduceToNat] at ho8; rw [← Ny636.out] at ho8)); have n0_ := Aside0.mk (Kd.R_lower ho8 (keep_size (w := w) (g := g) (row := none) (by repeat (first | (with_reducible first | exact HK.out | apply KeepBut.set_ | apply keep_drewN | apply keep_drew | apply keep_alloc) | exact HK.out)))); have n1_ := Aside0.mk (IsS29.below (by repeat (first | (with_reducible first | exact HI0.out | apply IsS29.alloc | apply IsS29.drewN | apply IsS29.drew | apply IsS29.set_0) | exact HI0.out)) hb); have n2_ := Aside0.mk (KeepBut.trans (by repeat (first | (with_reducible first | exact HK.out | apply KeepBut.set_ | apply keep_drewN | apply keep_drew | apply keep_alloc) | exact HK.out)) (KeepBut.of_below hb g none) (.inl rfl)); have n3_ := Aside0.mk (below_step (by repeat (first | (with_reducible first | exact HB.out | apply below_alloc | apply pw_below_drewN | apply below_drew1 | refine below_set ?_ (IsS29.ge HI0.out)) | exact HB.out)) hb); clear HI0; clear HK; clear HB; have HO638 := n0_; have HI0 := n1_; have HK := n2_; have HB := n3_; clear n0_ n1_ n2_ n3_; clear hb ho8; obtain ⟨Ao9, co9, eo9⟩ := Kd.R_slice HO638.out; subst eo9) | ((with_reducible refine gate_callee (f := 63) rfl ?_); refine goesL_ (some 15) rfl rfl Try.func63 (by kernel_rfl) rfl #[.pointer (some ⟨g, 0, none⟩), .slice Ao9 y636.length co9] rfl (by (try simp only [List.map_toArray, List.map_cons, List.map_nil]); first | done | rfl | (simp only [List.length_drop, List.length_take]; rfl)) ?_; (with_reducible refine (spec_l04Tight.calls k g t635 s0_1 _ _ y636 t639 t642 t643 w0 _ ?side1 ?side2 ?side3 ?side4 ?side5 A5.out).mono ?_); (case side1 => repeat (first | (with_reducible first | exact HI0.out | apply IsS29.alloc | apply IsS29.drewN | apply IsS29.drew | apply IsS29.set_0) | exact HI0.out)); (case side2 => repeat (first | (with_reducible first | exact HB.out | apply below_alloc | apply pw_below_drewN | apply below_drew1 | refine below_set ?_ (IsS29.ge HI0.out)) | exact HB.out)); (case side3 => repeat (first | exact (Kd.R_reads' HO638.out).2.2 | (with_reducible refine Kd.C_alloc ?_ _) | (with_reducible refine Kd.C_drewN ?_ _) | (with_reducible refine Kd.C_drew ?_))); (case side4 => exact (Kd.R_reads' HO638.out).2.1); (case side5 => exact far_slice (IsS29.own_ne HI0.out HO638.out (by decide))); rintro e w10 ⟨v640, rfl, ho0, hi, hb, hk⟩; refine ⟨_, rfl, ?_⟩; have n0_ := Aside0.mk (Kd.R_mono (Kd.R_keep (IsS29.apart (show IsS29 w0 _ g t635 s0_1 from by repeat (first | (with_reducible first | exact HI0.out | apply IsS29.alloc | apply IsS29.drewN | apply IsS29.drew | apply IsS29.set_0) | exact HI0.out)) (by (with_reducible repeat (first | apply Kd.R_alloc | apply Kd.R_drewN | apply Kd.R_drew)); exact HO638.out) (by decide)) hk (fun _ h => h.2)) (fun _ h => h.1)); have n1_ := Aside0.mk (Kd.S_lower (Kd.S_new' ho0 (Kd.R_lt (by (with_reducible repeat (first | apply Kd.R_alloc | apply Kd.R_drewN | apply Kd.R_drew)); exact HO638.out))) (keep_size (w := w) (g := g) (row := none) (by repeat (first | (with_reducible first | exact HK.out | apply KeepBut.set_ | apply keep_drewN | apply keep_drew | apply keep_alloc) | exact HK.out)))); have n2_ := Aside0.mk (KeepBut.trans (by repeat (first | (with_reducible first | exact HK.out | apply KeepBut.set_ | apply keep_drewN | apply keep_drew | apply keep_alloc) | exact HK.out)) hk (.inl rfl)); have n3_ := Aside0.mk (hb); have n4_ := Aside0.mk (hi); clear HO638; clear HK; clear HB; clear HI0; have HO638 := n0_; have HO641 := n1_; have HK := n2_; have HB := n3_; have HI0 := n4_; clear n0_ n1_ n2_ n3_ n4_; (try clear hb); (try clear hb2); (try clear hk); (try clear hi); (try clear ho0)) | ((with_reducible refine gate_dst (N := 18) rfl ?_); refine Kd.R_lit (Kd.int .i64) _ 2 ?hg (N := 18) ?hd (xs := ([] : List Int)) (inner := []) (ok := fun _ => True) (okp := fun _ => True) ?hr ?hp (fun _ hk => hk) trivial (Below.refl _ _) (Nat.le_refl _) (by simp) ?_; (case hd => rfl); (case hg => rfl); (case hr => first | (go_simp; done) | (go_simp; rfl)); (case hp => exact (Reps.none _ _)); intro v645 w11 ho12 hb hg_ hnew_; clear hg_ hnew_; (first | rw [← Ny644.out] at ho12 | (simp only [Int.reduceToNat] at ho12; rw [← Ny644.out] at ho12)); have n0_ := Aside0.mk (Kd.R_elder' (by (with_reducible repeat (first | apply Kd.R_alloc | apply Kd.R_drewN | apply Kd.R_drew)); exact HO638.out) (Kd.R_base ho12) hb); have n1_ := Aside0.mk (Kd.S_elder' (by (with_reducible repeat (first | apply Kd.S_alloc | apply Kd.S_drewN | apply Kd.S_drew)); exact HO641.out) (Kd.R_base ho12) hb); have n2_ := Aside0.mk (Kd.R_lower (Kd.R_new' ho12 (Kd.R_lt (by (with_reducible repeat (first | apply Kd.R_alloc | apply Kd.R_drewN | apply Kd.R_drew)); exact HO638.out))) (keep_size (w := w) (g := g) (row := none) (by repeat (first | (with_reducible first | exact HK.out | apply KeepBut.set_ | apply keep_drewN | apply keep_drew | apply keep_alloc) | exact HK.out)))); have n3_ := Aside0.mk (IsS29.below (by repeat (first | (with_reducible first | exact HI0.out | apply IsS29.alloc | apply IsS29.drewN | apply IsS29.drew | apply IsS29.set_0) | exact HI0.out)) hb); have n4_ := Aside0.mk (KeepBut.trans (by repeat (first | (with_reducible first | exact HK.out | apply KeepBut.set_ | apply keep_drewN | apply keep_drew | apply keep_alloc) | exact HK.out)) (KeepBut.of_below hb g none) (.inl rfl)); have n5_ := Aside0.mk (below_step (by repeat (first | (with_reducible first | exact HB.out | apply below_alloc | apply pw_below_drewN | apply below_drew1 | refine below_set ?_ (IsS29.ge HI0.out)) | exact HB.out)) hb); clear HO638; clear HO641; clear HI0; clear HK; clear HB; have HO638 := n0_; have HO641 := n1_; have HO646 := n2_; have HI0 := n3_; have HK := n4_; have HB := n5_; clear n0_ n1_ n2_ n3_ n4_ n5_; clear hb ho12))
  go_loopg [8, 9] k (fun kq v8 v9 w' => ∃ (x8_1 : List Int) (x9_1 : Int), v9 = .int .i64 x9_1 ∧ Aside0 (spec_EarliestTimes.l0 kq a1 t639 t642 x8_1 x9_1 t643 s0_1 = some (r1, r2, r3)) ∧ Aside0 (kq ≤ k) ∧ Aside0 (Kd.S (Kd.slice 2 (Kd.int .i64)) 33 w' w.heap.size (fun k_ => some k_ ≠ (v8 : Value).ownBlock) v640 t639) ∧ Aside0 (Kd.R (Kd.int .i64) 2 w' w.heap.size (fun _ => True) v8 x8_1) ∧ Aside0 (IsS29 w0 w' g t643 s0_1) ∧ Aside0 (KeepBut w w' g none) ∧ Aside0 (Below w0.heap.size w0 w'))
  case atStart => exact ⟨(y644), (0), (by first | rfl | (simp; done) | (simp [*]; done)), H', ⟨Nat.le_refl _⟩, ⟨by (with_reducible repeat (first | apply Kd.S_alloc | apply Kd.S_drewN | apply Kd.S_drew)); exact Kd.S_mono HO641.out (fun _ hk => hk.2)⟩, ⟨by (with_reducible repeat (first | apply Kd.R_alloc | apply Kd.R_drewN | apply Kd.R_drew)); exact Kd.R_mono HO646.out (fun _ hk => trivial)⟩, ⟨by repeat (first | (with_reducible first | exact HI0.out | apply IsS29.alloc | apply IsS29.drewN | apply IsS29.drew | apply IsS29.set_0) | exact HI0.out)⟩, ⟨by repeat (first | (with_reducible first | exact HK.out | apply KeepBut.set_ | apply keep_drewN | apply keep_drew | apply keep_alloc) | exact HK.out)⟩, ⟨by repeat (first | (with_reducible first | exact HB.out | apply below_alloc | apply pw_below_drewN | apply below_drew1 | refine below_set ?_ (IsS29.ge HI0.out)) | exact HB.out)⟩⟩
  case round =>
   clear H'
   try clear p2
   try clear c4
   try clear c6
   obtain ⟨x8_1, x9_1, rfl, HA, HK1, HO_6, HO_8, HI0, HK, HB⟩ := hrel
   cases gk with
   | zero => exact absurd HA.out (by simp [spec_EarliestTimes.l0])
   | succ k1 =>
    have H := HA.out
    clear HA
    simp only [spec_EarliestTimes.l0] at H
    by_cases c13 : x9_1 < t643
    ·rw [if_pos c13] at H
     have c13b0 : decide (x9_1 < t643) = true := decide_eq_true c13
     clear c13
     by_cases c14 : t642 = true
     ·subst c14
      have H1 : (if 0 ≤ x9_1 then (if x9_1 < (t639.length : Int) then (if 0 ≤ a1 then (if a1 < ((rd_L8 t639 x9_1).length : Int) then (if (rd (rd_L8 t639 x9_1) a1) = 1000000 then (some (([] : List Int), false, t643)) else (if x8_1.length < 17592186044416 then (spec_EarliestTimes.l0 k1 a1 t639 true (x8_1 ++ [wrap64 (-(rd (rd_L8 t639 x9_1) a1))]) (wrap64 (x9_1 + 1)) t643 s0_1) else (none))) else (none)) else (none)) else (none)) else (none)) = some (r1, r2, r3) := by rw [if_pos rfl] at H; exact H
      clear H
      have H := H1
      clear H1
      by_cases c15 : 0 ≤ x9_1
      ·rw [if_pos c15] at H
       have c15b0 : decide (0 ≤ x9_1) = true := decide_eq_true c15
       clear c15
       by_cases c16 : x9_1 < (t639.length : Int)
       ·rw [if_pos c16] at H
        have c16b0 : decide (x9_1 < (t639.length : Int)) = true := decide_eq_true c16
        clear c16
        by_cases c17 : 0 ≤ a1
        ·rw [if_pos c17] at H
         have c17b0 : decide (0 ≤ a1) = true := decide_eq_true c17
         clear c17
         by_cases c18 : a1 < ((rd_L8 t639 x9_1).length : Int)
         ·rw [if_pos c18] at H
          have c18b0 : decide (a1 < ((rd_L8 t639 x9_1).length : Int)) = true := decide_eq_true c18
          clear c18
          by_cases c19 : (rd (rd_L8 t639 x9_1) a1) = 1000000
          ·rw [if_pos c19] at H
           have c19b0 : ((rd (rd_L8 t639 x9_1) a1) == 1000000) = true := beq_iff_eq.mpr c19
           have c19b1 : ((rd (rd_L8 t639 x9_1) a1) != 1000000) = false := bne_eq_false_iff_eq.mpr c19
           clear c19
           simp only [Option.some.injEq, Prod.mk.injEq] at H
           obtain ⟨rfl, rfl, rfl⟩ := H
           obtain ⟨ASz20_1, cSz20_1, HGz20, hgz20, HSz20_1⟩ := HI0.out
           have hcz20_0 := cellS29_0 HGz20
           have hcz20_1 := cellS29_1 HGz20
           have hfz20_0 := blk_frozen HGz20 0
           clear HGz20 hgz20
           obtain ⟨Ao21, co21, eo21⟩ := Kd.S_slice HO_6.out
           subst eo21
           have p647 : 0 ≤ (x9_1 : Int) := of_decide_eq_true (by with_reducible assumption)
           have q647 : x9_1 < (t639.length : Int) := of_decide_eq_true (by with_reducible assumption)
           obtain ⟨ad647, A647_0, c647_0, e647, hx647_0, hl647_0, hi647_0⟩ := at_L8 (Kd.S_reads' HO_6.out).2.2 x9_1 p647 q647
           cases e647
           obtain ⟨ce647, hce647, hMe647, hcc647⟩ := Kd.S_get HO_6.out [] x9_1 p647 (by first | exact q647 | exact of_decide_eq_true (by with_reducible assumption) | (have e_ := (Kd.S_reads' HO_6.out).1; omega))
           obtain ⟨ve647_0, rfl, ge647_0⟩ := hMe647
           have hv647_0 := hcc647 0 _ rfl
           rw [Nat.add_zero, show ((Kd.slice 2 (Kd.int .i64))).sz = 1 from rfl, Nat.mul_one] at hv647_0
           replace hv647_0 := Option.some.inj (hv647_0.symm.trans hx647_0)
           rw [hv647_0] at ge647_0
           have HL647_0 := Aside0.mk (show Kd.R (Kd.int .i64) 2 _ _ _ _ (rd_L8 t639 x9_1) from ge647_0)
           clear hv647_0 ge647_0
           clear hcc647 hce647
           have HR647_0 := Aside0.mk hi647_0
           have HC647_0 := Aside0.mk hl647_0
           clear hi647_0 hl647_0
           replace p647 := eq_true p647
           replace q647 := eq_true q647
           have p648 : 0 ≤ (a1 : Int) := of_decide_eq_true (by with_reducible assumption)
           have q648 : a1 < ((rd_L8 t639 x9_1).length : Int) := of_decide_eq_true (by with_reducible assumption)
           obtain ⟨ad648, e648, hx648_0⟩ := Kd.at_int (by repeat (first | (with_reducible exact HR647_0.out) | (with_reducible refine Kd.C_alloc ?_ _) | (with_reducible refine Kd.C_drewN ?_ _) | (with_reducible refine Kd.C_drew ?_) | exact HR647_0.out)) a1 p648 q648
           cases e648
           replace p648 := eq_true p648
           replace q648 := eq_true q648
           go_wp2
           go_ret2
           exact ⟨_, by first | rfl | (simp [errW_none, errW_some] <;> rfl) | (simp [*, errW_none, errW_some] <;> rfl), by first | exact Kd.R_nil _ _ _ _ _ | exact Kd.N_nil _ _ _ _ _ | exact Kd.V_nil _ _ _ _ _ | exact Kd.Q_nil _ _ _ _ _ | exact Kd.S_nil _ _ _ _ _, by repeat (first | (with_reducible first | exact HI0.out | apply IsS29.alloc | apply IsS29.drewN | apply IsS29.drew | apply IsS29.set_0) | exact HI0.out), by repeat (first | (with_reducible first | exact HB.out | apply below_alloc | apply pw_below_drewN | apply below_drew1 | refine below_set ?_ (IsS29.ge HI0.out)) | exact HB.out), by repeat (first | (with_reducible first | exact HK.out | apply KeepBut.set_ | apply keep_drewN | apply keep_drew | apply keep_alloc) | exact HK.out)⟩
          ·rw [if_neg c19] at H
           have c19b0 : ((rd (rd_L8 t639 x9_1) a1) == 1000000) = false := beq_eq_false_iff_ne.mpr c19
           have c19b1 : ((rd (rd_L8 t639 x9_1) a1) != 1000000) = true := bne_iff_ne.mpr c19
           by_cases c22 : x8_1.length < 17592186044416
           ·rw [if_pos c22] at H
            have LMc22 := Aside0.mk c22
            clear c22
            obtain ⟨y651, hy651⟩ : ∃ y_ : List Int, y_ = (x8_1 ++ [wrap64 (-(rd (rd_L8 t639 x9_1) a1))]) := ⟨_, rfl⟩
            replace H : (spec_EarliestTimes.l0 k1 a1 t639 true y651 (wrap64 (x9_1 + 1)) t643 s0_1) = some (r1, r2, r3) := by first | (rw [hy651]; with_reducible exact H) | (have H2_ := (Option.bind_some _ _).symm.trans H; rw [hy651]; with_reducible exact H2_) | (have H2_ := (Option.bind_some _ _).symm.trans H; with_reducible exact H2_) | with_reducible exact H | (rw [hy651]; exact H) | exact H
            have Ny651 := Aside0.mk hy651
            clear hy651
            have H' := Aside0.mk H
            clear H
            obtain ⟨ASz23_1, cSz23_1, HGz23, hgz23, HSz23_1⟩ := HI0.out
            have hcz23_0 := cellS29_0 HGz23
            have hcz23_1 := cellS29_1 HGz23
            have hfz23_0 := blk_frozen HGz23 0
            clear HGz23 hgz23
            obtain ⟨Ao24, co24, eo24⟩ := Kd.S_slice HO_6.out
            subst eo24
            have p647 : 0 ≤ (x9_1 : Int) := of_decide_eq_true (by with_reducible assumption)
            have q647 : x9_1 < (t639.length : Int) := of_decide_eq_true (by with_reducible assumption)
            obtain ⟨ad647, A647_0, c647_0, e647, hx647_0, hl647_0, hi647_0⟩ := at_L8 (Kd.S_reads' HO_6.out).2.2 x9_1 p647 q647
            cases e647
            obtain ⟨ce647, hce647, hMe647, hcc647⟩ := Kd.S_get HO_6.out [] x9_1 p647 (by first | exact q647 | exact of_decide_eq_true (by with_reducible assumption) | (have e_ := (Kd.S_reads' HO_6.out).1; omega))
            obtain ⟨ve647_0, rfl, ge647_0⟩ := hMe647
            have hv647_0 := hcc647 0 _ rfl
            rw [Nat.add_zero, show ((Kd.slice 2 (Kd.int .i64))).sz = 1 from rfl, Nat.mul_one] at hv647_0
            replace hv647_0 := Option.some.inj (hv647_0.symm.trans hx647_0)
            rw [hv647_0] at ge647_0
            have HL647_0 := Aside0.mk (show Kd.R (Kd.int .i64) 2 _ _ _ _ (rd_L8 t639 x9_1) from ge647_0)
            clear hv647_0 ge647_0
            clear hcc647 hce647
            have HR647_0 := Aside0.mk hi647_0
            have HC647_0 := Aside0.mk hl647_0
            clear hi647_0 hl647_0
            replace p647 := eq_true p647
            replace q647 := eq_true q647
            have p648 : 0 ≤ (a1 : Int) := of_decide_eq_true (by with_reducible assumption)
            have q648 : a1 < ((rd_L8 t639 x9_1).length : Int) := of_decide_eq_true (by with_reducible assumption)
            obtain ⟨ad648, e648, hx648_0⟩ := Kd.at_int (by repeat (first | (with_reducible exact HR647_0.out) | (with_reducible refine Kd.C_alloc ?_ _) | (with_reducible refine Kd.C_drewN ?_ _) | (with_reducible refine Kd.C_drew ?_) | exact HR647_0.out)) a1 p648 q648
            cases e648
            replace p648 := eq_true p648
            replace q648 := eq_true q648
            have p649 : 0 ≤ (x9_1 : Int) := of_decide_eq_true (by with_reducible assumption)
            have q649 : x9_1 < (t639.length : Int) := of_decide_eq_true (by with_reducible assumption)
            obtain ⟨ad649, A649_0, c649_0, e649, hx649_0, hl649_0, hi649_0⟩ := at_L8 (Kd.S_reads' HO_6.out).2.2 x9_1 p649 q649
            obtain rfl : ad647 = ad649 := (by injection e649)
            obtain ⟨ce649, hce649, hMe649, hcc649⟩ := Kd.S_get HO_6.out [] x9_1 p649 (by first | exact q649 | exact of_decide_eq_true (by with_reducible assumption) | (have e_ := (Kd.S_reads' HO_6.out).1; omega))
            obtain ⟨ve649_0, rfl, ge649_0⟩ := hMe649
            have hv649_0 := hcc649 0 _ rfl
            rw [Nat.add_zero, show ((Kd.slice 2 (Kd.int .i64))).sz = 1 from rfl, Nat.mul_one] at hv649_0
            replace hv649_0 := Option.some.inj (hv649_0.symm.trans hx649_0)
            rw [hv649_0] at ge649_0
            have HL649_0 := Aside0.mk (show Kd.R (Kd.int .i64) 2 _ _ _ _ (rd_L8 t639 x9_1) from ge649_0)
            clear hv649_0 ge649_0
            clear hcc649 hce649
            have HR649_0 := Aside0.mk hi649_0
            have HC649_0 := Aside0.mk hl649_0
            clear hi649_0 hl649_0
            replace p649 := eq_true p649
            replace q649 := eq_true q649
            have ea_ := Option.some.inj (hx647_0.symm.trans hx649_0)
            injection ea_ with ea_ en_ ec_
            subst ea_
            subst ec_
            clear en_
            have p650 : 0 ≤ (a1 : Int) := of_decide_eq_true (by with_reducible assumption)
            have q650 : a1 < ((rd_L8 t639 x9_1).length : Int) := of_decide_eq_true (by with_reducible assumption)
            obtain ⟨ad650, e650, hx650_0⟩ := Kd.at_int (by repeat (first | (with_reducible exact HR649_0.out) | (with_reducible refine Kd.C_alloc ?_ _) | (with_reducible refine Kd.C_drewN ?_ _) | (with_reducible refine Kd.C_drew ?_) | exact HR649_0.out)) a1 p650 q650
            cases e650
            replace p650 := eq_true p650
            replace q650 := eq_true q650
            go_wp2_with (first | ((with_reducible refine gate_builtin (b := .append) (xs := #[.tmp 37, .tmp 46]) rfl ?_); at_builtin; refine Kd.R_append (Kd.int .i64) w.heap.size rfl (.tmp 37) (.tmp 46) 33 2 (.int .i64 0) 8 rfl Try.underlying33 info2 rfl (by decide) (by omega) u8 x8_1 (wrap64 (-(rd (rd_L8 t639 x9_1) a1))) [.int .i64 (wrap64 (-(rd (rd_L8 t639 x9_1) a1)))] (fun _ => True) (fun _ => False) rfl rfl ?aP (fun _ hk => hk.elim) ?aF ?aO (Below.refl _ _) ?aS ?aL ?_; (case aP => exact rfl); (case aF => exact (fun _ _ => trivial)); (case aO => exact (by (with_reducible repeat (first | apply Kd.R_alloc | apply Kd.R_drewN | apply Kd.R_drew)); exact HO_8.out)); (case aS => exact (keep_size (w := w) (g := g) (row := none) (by repeat (first | (with_reducible first | exact HK.out | apply KeepBut.set_ | apply keep_drewN | apply keep_drew | apply keep_alloc) | exact HK.out)))); (case aL => have := LMc22.out; omega); intro v652 w25 ho hb hg hat; rw [← Ny651.out] at ho; have n0_ := Aside0.mk (Kd.S_after (ok := (fun _ => True)) (by (with_reducible repeat (first | apply Kd.S_alloc | apply Kd.S_drewN | apply Kd.S_drew)); exact Kd.S_mono HO_6.out (fun _ hk => ⟨trivial, hk⟩)) hg hat); have n1_ := Aside0.mk (IsS29.grown (by repeat (first | (with_reducible first | exact HI0.out | apply IsS29.alloc | apply IsS29.drewN | apply IsS29.drew | apply IsS29.set_0) | exact HI0.out)) hg (IsS29.own_ne HI0.out HO_8.out (by decide))); have n2_ := Aside0.mk (Kd.R_after (ok := (fun k_ => some k_ ≠ (.slice (some ad647) t639.length co24 : Value).ownBlock)) (by (with_reducible repeat (first | apply Kd.R_alloc | apply Kd.R_drewN | apply Kd.R_drew)); exact Kd.R_mono HL647_0.out (fun _ hk => ⟨hk.2, hk.1⟩)) hg hat); have n3_ := Aside0.mk (Kd.R_after (ok := (fun k_ => some k_ ≠ (.slice (some ad647) t639.length co24 : Value).ownBlock)) (by (with_reducible repeat (first | apply Kd.R_alloc | apply Kd.R_drewN | apply Kd.R_drew)); exact Kd.R_mono HL649_0.out (fun _ hk => ⟨hk.2, hk.1⟩)) hg hat); have n4_ := Aside0.mk (below_weaken (by repeat (first | (with_reducible first | exact HB.out | apply below_alloc | apply pw_below_drewN | apply below_drew1 | refine below_set ?_ (IsS29.ge HI0.out)) | exact HB.out)) HL.out hb); have n5_ := Aside0.mk (KeepBut.trans (by repeat (first | (with_reducible first | exact HK.out | apply KeepBut.set_ | apply keep_drewN | apply keep_drew | apply keep_alloc) | exact HK.out)) (KeepBut.of_grown hg g) (Kd.R_base2 HO_8.out)); have n6_ := Aside0.mk (ho); clear HO_6; clear HI0; clear HL647_0; clear HL649_0; clear HB; clear HK; clear HO_8; have HO_6 := n0_; have HI0 := n1_; have HL647_0 := n2_; have HL649_0 := n3_; have HB := n4_; have HK := n5_; have HO653 := n6_; clear n0_ n1_ n2_ n3_ n4_ n5_ n6_; clear ho hb hg hat))
            go_roundg k1
            case measure => have := HK1.out; omega
            case rel => exact ⟨(y651), (wrap64 (x9_1 + 1)), (by first | rfl | (simp; done) | (simp [*]; done)), H', ⟨by have := HK1.out; omega⟩, ⟨by (with_reducible repeat (first | apply Kd.S_alloc | apply Kd.S_drewN | apply Kd.S_drew)); exact Kd.S_mono HO_6.out (fun _ hk => hk.2)⟩, ⟨by (with_reducible repeat (first | apply Kd.R_alloc | apply Kd.R_drewN | apply Kd.R_drew)); exact HO653.out⟩, ⟨by repeat (first | (with_reducible first | exact HI0.out | apply IsS29.alloc | apply IsS29.drewN | apply IsS29.drew | apply IsS29.set_0) | exact HI0.out)⟩, ⟨by repeat (first | (with_reducible first | exact HK.out | apply KeepBut.set_ | apply keep_drewN | apply keep_drew | apply keep_alloc) | exact HK.out)⟩, ⟨by repeat (first | (with_reducible first | exact HB.out | apply below_alloc | apply pw_below_drewN | apply below_drew1 | refine below_set ?_ (IsS29.ge HI0.out)) | exact HB.out)⟩⟩
           ·rw [if_neg c22] at H
            exact absurd H (by simp)
         ·rw [if_neg c18] at H
          exact absurd H (by simp)
        ·rw [if_neg c17] at H
         exact absurd H (by simp)
       ·rw [if_neg c16] at H
        exact absurd H (by simp)
      ·rw [if_neg c15] at H
       exact absurd H (by simp)
     ·replace c14 := Bool.eq_false_iff.mpr c14
      subst c14
      have H1 : (some (([] : List Int), false, t643)) = some (r1, r2, r3) := by rw [if_neg (show ¬ (false = true) by decide)] at H; exact H
      clear H
      have H := H1
      clear H1
      simp only [Option.some.injEq, Prod.mk.injEq] at H
      obtain ⟨rfl, rfl, rfl⟩ := H
      obtain ⟨ASz26_1, cSz26_1, HGz26, hgz26, HSz26_1⟩ := HI0.out
      have hcz26_0 := cellS29_0 HGz26
      have hcz26_1 := cellS29_1 HGz26
      have hfz26_0 := blk_frozen HGz26 0
      clear HGz26 hgz26
      go_wp2
      go_ret2
      exact ⟨_, by first | rfl | (simp [errW_none, errW_some] <;> rfl) | (simp [*, errW_none, errW_some] <;> rfl), by first | exact Kd.R_nil _ _ _ _ _ | exact Kd.N_nil _ _ _ _ _ | exact Kd.V_nil _ _ _ _ _ | exact Kd.Q_nil _ _ _ _ _ | exact Kd.S_nil _ _ _ _ _, by repeat (first | (with_reducible first | exact HI0.out | apply IsS29.alloc | apply IsS29.drewN | apply IsS29.drew | apply IsS29.set_0) | exact HI0.out), by repeat (first | (with_reducible first | exact HB.out | apply below_alloc | apply pw_below_drewN | apply below_drew1 | refine below_set ?_ (IsS29.ge HI0.out)) | exact HB.out), by repeat (first | (with_reducible first | exact HK.out | apply KeepBut.set_ | apply keep_drewN | apply keep_drew | apply keep_alloc) | exact HK.out)⟩
    ·rw [if_neg c13] at H
     have c13b0 : decide (x9_1 < t643) = false := decide_eq_false c13
     clear c13
     simp only [Option.some.injEq, Prod.mk.injEq] at H
     obtain ⟨rfl, rfl, rfl⟩ := H
     obtain ⟨ASz27_1, cSz27_1, HGz27, hgz27, HSz27_1⟩ := HI0.out
     have hcz27_0 := cellS29_0 HGz27
     have hcz27_1 := cellS29_1 HGz27
     have hfz27_0 := blk_frozen HGz27 0
     clear HGz27 hgz27
     go_wp2
     go_ret2
     exact ⟨_, by first | rfl | (simp [errW_none, errW_some] <;> rfl) | (simp [*, errW_none, errW_some] <;> rfl), by (with_reducible repeat (first | apply Kd.R_alloc | apply Kd.R_drewN | apply Kd.R_drew)); exact HO_8.out, by repeat (first | (with_reducible first | exact HI0.out | apply IsS29.alloc | apply IsS29.drewN | apply IsS29.drew | apply IsS29.set_0) | exact HI0.out), by repeat (first | (with_reducible first | exact HB.out | apply below_alloc | apply pw_below_drewN | apply below_drew1 | refine below_set ?_ (IsS29.ge HI0.out)) | exact HB.out), by repeat (first | (with_reducible first | exact HK.out | apply KeepBut.set_ | apply keep_drewN | apply keep_drew | apply keep_alloc) | exact HK.out)⟩
 ·replace c4 := Bool.eq_false_iff.mpr c4
  subst c4
  have H1 : (some (([] : List Int), false, t635)) = some (r1, r2, r3) := by rw [if_neg (show ¬ (false = true) by decide)] at H; exact H
  clear H
  have H := H1
  clear H1
  simp only [Option.some.injEq, Prod.mk.injEq] at H
  obtain ⟨rfl, rfl, rfl⟩ := H
  go_enter Try.func41, Try.ntmps41
  go_wp2_with (first | ((with_reducible refine gate_dst (N := 2) rfl ?_); refine box_here (g := g) (w1 := w) (t := 29) ?hg (N := 2) ?hd HG_.out HW_.out ?hr ?_; (case hd => rfl); (case hg => rfl); (case hr => first | (go_simp; done) | (go_simp; rfl))) | ((with_reducible refine gate_callee (f := 62) rfl ?_); refine goesL_ (some 11) rfl rfl Try.func62 (by kernel_rfl) rfl #[.pointer (some ⟨g, 0, none⟩), .int .i64 a1] rfl (by (try simp only [List.map_toArray, List.map_cons, List.map_nil]); first | done | rfl | (simp only [List.length_drop, List.length_take]; rfl)) ?_; (with_reducible refine (spec_l04Event.calls g s0_0 s0_1 a1 false t635 w0 _ ?side1 ?side2 A3.out).mono ?_); (case side1 => repeat (first | (with_reducible first | exact HI0.out | apply IsS29.alloc | apply IsS29.drewN | apply IsS29.drew | apply IsS29.set_0) | exact HI0.out)); (case side2 => repeat (first | (with_reducible first | exact HB.out | apply below_alloc | apply pw_below_drewN | apply below_drew1 | refine below_set ?_ (IsS29.ge HI0.out)) | exact HB.out)); rintro e w28 ⟨rfl, hi, hb, hk⟩; refine ⟨_, rfl, ?_⟩; have n0_ := Aside0.mk (KeepBut.trans (by repeat (first | (with_reducible first | exact HK.out | apply KeepBut.set_ | apply keep_drewN | apply keep_drew | apply keep_alloc) | exact HK.out)) hk (.inl rfl)); have n1_ := Aside0.mk (hb); have n2_ := Aside0.mk (hi); clear HK; clear HB; clear HI0; have HK := n0_; have HB := n1_; have HI0 := n2_; clear n0_ n1_ n2_; (try clear hb); (try clear hb2); (try clear hk); (try clear hi)))
  go_ret2
  exact ⟨_, by first | rfl | (simp [errW_none, errW_some] <;> rfl) | (simp [*, errW_none, errW_some] <;> rfl), by first | exact Kd.R_nil _ _ _ _ _ | exact Kd.N_nil _ _ _ _ _ | exact Kd.V_nil _ _ _ _ _ | exact Kd.Q_nil _ _ _ _ _ | exact Kd.S_nil _ _ _ _ _, by repeat (first | (with_reducible first | exact HI0.out | apply IsS29.alloc | apply IsS29.drewN | apply IsS29.drew | apply IsS29.set_0) | exact HI0.out), by repeat (first | (with_reducible first | exact HB.out | apply below_alloc | apply pw_below_drewN | apply below_drew1 | refine below_set ?_ (IsS29.ge HI0.out)) | exact HB.out), by repeat (first | (with_reducible first | exact HK.out | apply KeepBut.set_ | apply keep_drewN | apply keep_drew | apply keep_alloc) | exact HK.out)⟩
def spec_EarliestTimes.f (k : Nat) (s0_0 : Int) (s0_1 : List (S45)) (a1 : Int) : Option (List Int × Bool) := (spec_EarliestTimes.fB k s0_0 s0_1 a1).bind fun b => some (b.1, b.2.1)
theorem spec_EarliestTimes.mono : ∀ a0 a1 a2 k, LeO (spec_EarliestTimes.f k a0 a1 a2) (spec_EarliestTimes.f (k + 1) a0 a1 a2) := by
 intro a0 a1 a2 k
 unfold spec_EarliestTimes.f
 exact LeO.bind (spec_EarliestTimes.monoB a0 a1 a2 k) (fun _ => LeO.refl _)
theorem spec_EarliestTimes.calls (k : Nat) (s0_0 : Int) (A0_1 : Option Addr) (c0_1 : Nat) (s0_1 : List (S45)) (a1 : Int) (r1 : List Int) (r2 : Bool) (w : World) (hr0_1 : Kd.C k45 w A0_1 s0_1.length s0_1) (hc0_1 : s0_1.length ≤ c0_1) (h : spec_EarliestTimes.f k s0_0 s0_1 a1 = some (r1, r2)) :
  Calls Try.prog 41 #[.agg #[.int .i64 s0_0, .slice A0_1 s0_1.length c0_1], .int .i64 a1] w fun e w' => ∃ v0_ : Value, e = .returned (.tuple #[v0_, .bool r2]) ∧ Kd.R (Kd.int .i64) 2 w' w.heap.size (fun _ => True) v0_ r1 ∧ Below w.heap.size w w' := by
 have hB_ : Below w.heap.size w (w.alloc (.cells #[.int .i64 s0_0, .slice A0_1 s0_1.length c0_1] 29)) := below_alloc (Below.refl _ _) _
 have hI_ := IsS29.new w w A0_1 c0_1 s0_0 s0_1 (Below.refl _ _) hr0_1
 obtain ⟨b_, h0_, h1_⟩ := Option.bind_eq_some_iff.mp h
 obtain ⟨b0_, b1_, b2_⟩ := b_
 simp only [Option.some.injEq, Prod.mk.injEq] at h1_
 obtain ⟨rfl, rfl⟩ := h1_
 refine (spec_EarliestTimes.callsB k A0_1 c0_1 w.heap.size s0_0 s0_1 a1 _ _ _ w (w.alloc (.cells #[.int .i64 s0_0, .slice A0_1 s0_1.length c0_1] 29)) hI_ hB_  rfl rfl h0_).mono ?_
 rintro e w' ⟨v0_, he_, ho0_, _, hb_, _⟩
 exact ⟨v0_, he_, Kd.R_lower ho0_ hB_.size, hb_⟩

end Go.Proofs.Ytljboamepnhfpaa.Pa
