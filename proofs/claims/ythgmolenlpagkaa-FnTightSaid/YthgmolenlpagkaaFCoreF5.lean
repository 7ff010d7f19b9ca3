-- Written for this claim by a program of this session.
import Derived.Test.YthgmolenlpagkaaFPax0
import Derived.Test.YthgmolenlpagkaaFCoreF2
import Derived.Test.YthgmolenlpagkaaFCoreF4
import Derived.Test.YthgmolenlpagkaaFCoreF3
import Derived.Laws.BitsLemmas
import Derived.Maps.Own
import Derived.Maps.Views
import Derived.Laws.EntriesVeiled
import Derived.Laws.Cover3
namespace Go.Proofs.Ythgmolenlpagkaa.Pa
open Go.RowKit Go.Proofs.YthgmolenlpagkaaW.PrintWords Go.Proofs.YthgmolenlpagkaaW.PrintLast Go.Proofs.YthgmolenlpagkaaW.PrintMore
attribute [local go_sem] max2_int min2_int max_two min_two max_three min_three max_four min_four   -- for this text's walks alone
set_option linter.unusedVariables false
set_option linter.unusedSimpArgs false

/-! ### spec_R8Diagram: function 5 -/
def spec_R8Diagram.f (k : Nat) (l0 : List Int) : Option (Int × (List (S36))) := (spec_l00From.f l0).bind fun bt157 => ((spec_l04DrawOk.f k bt157.1 bt157.2.1 bt157.2.2).bind fun bt161 => (if bt161.1 > 6 then (some (2, (([] : List (S36))))) else (some (bt161.1, bt161.2.1))))
theorem spec_R8Diagram.mono : ∀ a0 k, LeO (spec_R8Diagram.f k a0) (spec_R8Diagram.f (k + 1) a0) := by
 intro a0 k
 unfold spec_R8Diagram.f
 repeat' first
   | (with_reducible exact spec_l04DrawOk.mono _ _ _ _)
   | (with_reducible exact LeO.refl _)
   | (with_reducible exact LeO.none _)
   | (with_reducible refine LeO.ite ?_ ?_)
   | (with_reducible refine LeO.bind ?_ (fun _ => ?_))
   | exact spec_l04DrawOk.mono _ _ _ _
   | exact LeO.none _
   | refine LeO.ite ?_ ?_
   | refine LeO.bind ?_ (fun _ => ?_)
set_option maxHeartbeats 8000000 in
set_option maxRecDepth 100000 in
theorem spec_R8Diagram.calls (k : Nat) (A0 : Option Addr) (c0 : Nat) (l0 : List Int) (r1 : Int) (r2 : List (S36)) (w : World) (hr0 : Kd.C (Kd.int .u8) w A0 l0.length l0) (hc0 : l0.length ≤ c0) (h : spec_R8Diagram.f k l0 = some (r1, r2)) :
  Calls Try.prog 5 #[.slice A0 l0.length c0] w fun e w' => ∃ v1_ : Value, e = .returned (.agg #[.int .i64 r1, v1_]) ∧ Kd.R k36 36 w' w.heap.size (fun _ => True) v1_ r2 ∧ Below w.heap.size w w' := by
 have hu26 := Try.underlying26
 have HR0 := Aside0.mk hr0
 have HC0 := Aside0.mk hc0
 clear hr0 hc0
 have HB := Aside0.mk (Below.refl w.heap.size w)
 have H : ((spec_l00From.f l0).bind fun bt157 => ((spec_l04DrawOk.f k bt157.1 bt157.2.1 bt157.2.2).bind fun bt161 => (if bt161.1 > 6 then (some (2, (([] : List (S36))))) else (some (bt161.1, bt161.2.1))))) = some (r1, r2) := h
 clear h
 replace H := Option.bind_eq_some_iff.mp H
 obtain ⟨⟨t157, t158, t159⟩, A20, H⟩ := H
 replace H : ((spec_l04DrawOk.f k t157 t158 t159).bind fun bt161 => (if bt161.1 > 6 then (some (2, (([] : List (S36))))) else (some (bt161.1, bt161.2.1)))) = some (r1, r2) := H
 have A2 := Aside0.mk A20
 clear A20
 replace H := Option.bind_eq_some_iff.mp H
 obtain ⟨⟨t161, t162, t165, t166⟩, A30, H⟩ := H
 replace H : (if t161 > 6 then (some (2, (([] : List (S36))))) else (some (t161, t162))) = some (r1, r2) := H
 have A3 := Aside0.mk A30
 clear A30
 by_cases c4 : t161 > 6
 ·rw [if_pos c4] at H
  have c4b0 : decide (6 < t161) = true := decide_eq_true c4
  clear c4
  obtain ⟨y168, hy168⟩ : ∃ y_ : List (S36), y_ = (([] : List (S36))) := ⟨_, rfl⟩
  replace H : (some (2, y168)) = some (r1, r2) := by first | (rw [hy168]; with_reducible exact H) | (have H2_ := (Option.bind_some _ _).symm.trans H; rw [hy168]; with_reducible exact H2_) | (have H2_ := (Option.bind_some _ _).symm.trans H; with_reducible exact H2_) | with_reducible exact H | (rw [hy168]; exact H) | exact H
  have Ny168 := Aside0.mk hy168
  clear hy168
  simp only [Option.some.injEq, Prod.mk.injEq] at H
  obtain ⟨rfl, rfl⟩ := H
  go_enter Try.func5, Try.ntmps5
  go_wp2_with (first | ((with_reducible refine gate_dst (N := 2) rfl ?_); refine box_event ?hg (N := 2) ?hd (cs := #[.int .i64 0, .slice none 0 0]) (t := 26) ?hr ?_; (case hd => rfl); (case hg => rfl); (case hr => first | (go_simp; done) | (go_simp; rfl)); intro gb156 hg w5 hbox hb; have n0_ := Aside0.mk (below_step (by repeat (first | (with_reducible first | exact HB.out | apply below_alloc | apply pw_below_drewN | apply below_drew1) | exact HB.out)) hb); have n1_ := Aside0.mk (hbox); have n2_ := Aside0.mk ((by rw [hg]; exact (below_size (by repeat (first | (with_reducible first | exact HB.out | apply below_alloc | apply pw_below_drewN | apply below_drew1) | exact HB.out))) : w.heap.size ≤ gb156)); have n3_ := Aside0.mk ((by rw [hg]; exact (below_size (by repeat (first | (with_reducible first | exact HB.out | apply below_alloc | apply pw_below_drewN | apply below_drew1) | exact HB.out))) : w.heap.size ≤ gb156)); clear HB; have HB := n0_; have BK156 := n1_; have GW156 := n2_; have GE156 := n3_; clear n0_ n1_ n2_ n3_; clear hb hbox hg) | ((with_reducible refine gate_callee (f := 12) rfl ?_); refine goesL_ (some 6) rfl rfl Try.func12 (by kernel_rfl) rfl #[.slice A0 l0.length c0] rfl (by (try simp only [List.map_toArray, List.map_cons, List.map_nil]); first | done | rfl | (simp only [List.length_drop, List.length_take]; rfl)) ?_; (with_reducible refine (spec_l00From.calls _ _ l0 t157 t158 t159 w _ ?side1 ?side2 ?side3 A2.out).mono ?_); (case side1 => repeat (first | (with_reducible first | exact HB.out | apply below_alloc | apply pw_below_drewN | apply below_drew1 | refine below_set ?_ GE156.out) | exact HB.out)); (case side2 => exact HR0.out); (case side3 => exact HC0.out); rintro e w6 ⟨g160, rfl, hi, hb, hb2⟩; refine ⟨_, rfl, ?_⟩; have n0_ := Aside0.mk (blk_below (g := gb156) (o := .cells #[.int .i64 0, .slice none 0 0] 26 (0, 0)) (by (with_reducible repeat (first | refine blk_drewN ?_ _ | refine blk_drew ?_ | refine blk_alloc ?_ _)); exact BK156.out) hb2); have n1_ := Aside0.mk (hb); have n2_ := Aside0.mk (hi); have n3_ := Aside0.mk (IsS54.ne_blk hi (blk_below (g := gb156) (o := .cells #[.int .i64 0, .slice none 0 0] 26 (0, 0)) (by (with_reducible repeat (first | refine blk_drewN ?_ _ | refine blk_drew ?_ | refine blk_alloc ?_ _)); exact BK156.out) hb2) (by decide)); have n4_ := Aside0.mk (Ne.symm (IsS54.ne_blk hi (blk_below (g := gb156) (o := .cells #[.int .i64 0, .slice none 0 0] 26 (0, 0)) (by (with_reducible repeat (first | refine blk_drewN ?_ _ | refine blk_drew ?_ | refine blk_alloc ?_ _)); exact BK156.out) hb2) (by decide))); clear BK156; clear HB; have BK156 := n0_; have HB := n1_; have HI160 := n2_; have NB160_156 := n3_; have NB156_160 := n4_; clear n0_ n1_ n2_ n3_ n4_; (try clear hb); (try clear hb2); (try clear hk); (try clear hi)) | ((with_reducible refine gate_callee (f := 13) rfl ?_); refine goesL_ (some 8) rfl rfl Try.func13 (by kernel_rfl) rfl #[.pointer (some ⟨g160, 0, none⟩)] rfl (by (try simp only [List.map_toArray, List.map_cons, List.map_nil]); first | done | rfl | (simp only [List.length_drop, List.length_take]; rfl)) ?_; (with_reducible refine (spec_l04DrawOk.calls k g160 t157 t158 t159 t161 t162 t165 t166 w _ ?side1 ?side2 A3.out).mono ?_); (case side1 => repeat (first | (with_reducible first | exact HI160.out | apply IsS54.alloc | apply IsS54.drewN | apply IsS54.drew | apply IsS54.set_1 | apply IsS54.set_2 | refine IsS54.far ?_ NB160_156.out _) | exact HI160.out)); (case side2 => repeat (first | (with_reducible first | exact HB.out | apply below_alloc | apply pw_below_drewN | apply below_drew1 | refine below_set ?_ (IsS54.ge HI160.out) | refine below_set ?_ GE156.out) | exact HB.out)); rintro e w7 ⟨v163, rfl, ho0, hi, hb, hk⟩; refine ⟨_, rfl, ?_⟩; have n0_ := Aside0.mk (KeepBut.blk hk (g' := gb156) (o := .cells #[.int .i64 0, .slice none 0 0] 26 (0, 0)) (by (with_reducible repeat (first | refine blk_drewN ?_ _ | refine blk_drew ?_ | refine blk_alloc ?_ _)); exact BK156.out) NB156_160.out (by simp)); have n1_ := Aside0.mk (Kd.R_lower ho0 (below_size (by repeat (first | (with_reducible first | exact HB.out | apply below_alloc | apply pw_below_drewN | apply below_drew1 | refine below_set ?_ (IsS54.ge HI160.out) | refine below_set ?_ GE156.out) | exact HB.out)))); have n2_ := Aside0.mk (hb); have n3_ := Aside0.mk (hi); clear BK156; clear HB; clear HI160; have BK156 := n0_; have HO164 := n1_; have HB := n2_; have HI160 := n3_; clear n0_ n1_ n2_ n3_; (try clear hb); (try clear hb2); (try clear hk); (try clear hi); (try clear ho0)) | ((with_reducible refine gate_dst (N := 4) rfl ?_); refine box_event ?hg (N := 4) ?hd (cs := #[.int .i64 0, .slice none 0 0]) (t := 26) ?hr ?_; (case hd => rfl); (case hg => rfl); (case hr => first | (go_simp; done) | (go_simp; rfl)); intro gb167 hg w8 hbox hb; have n0_ := Aside0.mk (Kd.R_below (by (with_reducible repeat (first | apply Kd.R_alloc | apply Kd.R_drewN | apply Kd.R_drew)); exact HO164.out) hb); have n1_ := Aside0.mk (blk_below (g := gb156) (o := .cells #[.int .i64 0, .slice none 0 0] 26 (0, 0)) (by (with_reducible repeat (first | refine blk_drewN ?_ _ | refine blk_drew ?_ | refine blk_alloc ?_ _)); exact BK156.out) hb); have n2_ := Aside0.mk (IsS54.below (by repeat (first | (with_reducible first | exact HI160.out | apply IsS54.alloc | apply IsS54.drewN | apply IsS54.drew | apply IsS54.set_1 | apply IsS54.set_2 | refine IsS54.far ?_ NB160_156.out _) | exact HI160.out)) hb); have n3_ := Aside0.mk (below_step (by repeat (first | (with_reducible first | exact HB.out | apply below_alloc | apply pw_below_drewN | apply below_drew1 | refine below_set ?_ (IsS54.ge HI160.out) | refine below_set ?_ GE156.out) | exact HB.out)) hb); have n4_ := Aside0.mk (hbox); have n5_ := Aside0.mk ((by rw [hg]; exact (below_size (by repeat (first | (with_reducible first | exact HB.out | apply below_alloc | apply pw_below_drewN | apply below_drew1 | refine below_set ?_ (IsS54.ge HI160.out) | refine below_set ?_ GE156.out) | exact HB.out))) : w.heap.size ≤ gb167)); have n6_ := Aside0.mk ((by rw [hg]; exact (below_size (by repeat (first | (with_reducible first | exact HB.out | apply below_alloc | apply pw_below_drewN | apply below_drew1 | refine below_set ?_ (IsS54.ge HI160.out) | refine below_set ?_ GE156.out) | exact HB.out))) : w.heap.size ≤ gb167)); have n7_ := Aside0.mk ((by rw [hg]; exact Nat.ne_of_lt (blk_lt (g := gb156) (o := .cells #[.int .i64 0, .slice none 0 0] 26 (0, 0)) (by (with_reducible repeat (first | refine blk_drewN ?_ _ | refine blk_drew ?_ | refine blk_alloc ?_ _)); exact BK156.out)) : gb156 ≠ gb167)); have n8_ := Aside0.mk ((by rw [hg]; exact Nat.ne_of_gt (blk_lt (g := gb156) (o := .cells #[.int .i64 0, .slice none 0 0] 26 (0, 0)) (by (with_reducible repeat (first | refine blk_drewN ?_ _ | refine blk_drew ?_ | refine blk_alloc ?_ _)); exact BK156.out)) : gb167 ≠ gb156)); have n9_ := Aside0.mk ((by rw [hg]; exact Nat.ne_of_lt (IsS54.lt (show IsS54 w _ g160 t157 t165 t166 from by repeat (first | (with_reducible first | exact HI160.out | apply IsS54.alloc | apply IsS54.drewN | apply IsS54.drew | apply IsS54.set_1 | apply IsS54.set_2 | refine IsS54.far ?_ NB160_156.out _) | exact HI160.out))) : g160 ≠ gb167)); have n10_ := Aside0.mk ((by rw [hg]; exact Nat.ne_of_gt (IsS54.lt (show IsS54 w _ g160 t157 t165 t166 from by repeat (first | (with_reducible first | exact HI160.out | apply IsS54.alloc | apply IsS54.drewN | apply IsS54.drew | apply IsS54.set_1 | apply IsS54.set_2 | refine IsS54.far ?_ NB160_156.out _) | exact HI160.out))) : gb167 ≠ g160)); clear HO164; clear BK156; clear HI160; clear HB; have HO164 := n0_; have BK156 := n1_; have HI160 := n2_; have HB := n3_; have BK167 := n4_; have GW167 := n5_; have GE167 := n6_; have NB156_167 := n7_; have NB167_156 := n8_; have NB160_167 := n9_; have NB167_160 := n10_; clear n0_ n1_ n2_ n3_ n4_ n5_ n6_ n7_ n8_ n9_ n10_; clear hb hbox hg; have hnb9 := NB167_156.out; have hnc9 := NB156_167.out; have hnb10 := NB167_160.out; have hnc10 := NB160_167.out; have hcz11_0 : w8.cell? ⟨gb167, 0, none⟩ = some (.int .i64 0) := (blk_cell BK167.out 0).trans rfl; have hcz11_1 : w8.cell? ⟨gb167, 1, none⟩ = some (.slice none 0 0) := (blk_cell BK167.out 1).trans rfl; have hfz11_0 := blk_frozen BK167.out 0; have hfz11_1 := blk_frozen BK167.out 1; obtain ⟨Ao12, co12, eo12⟩ := Kd.R_slice HO164.out; subst eo12) | ((with_reducible refine gate_dst (N := 12) rfl ?_); refine Kd.R_lit k36 _ 36 ?hg (N := 12) ?hd (xs := ([] : List (S36))) (inner := []) (ok := fun _ => True) (okp := fun _ => True) ?hr ?hp (fun _ hk => hk) trivial (Below.refl _ _) (Nat.le_refl _) (by simp) ?_; (case hd => rfl); (case hg => rfl); (case hr => first | (go_simp; done) | (go_simp; rfl)); (case hp => exact (Reps.none _ _)); intro v169 w13 ho14 hb hg_ hnew_; clear hg_ hnew_; (first | rw [← Ny168.out] at ho14 | (simp only [Int.reduceToNat] at ho14; rw [← Ny168.out] at ho14)); have n0_ := Aside0.mk (Kd.R_elder' (by (with_reducible repeat (first | apply Kd.R_alloc | apply Kd.R_drewN | apply Kd.R_drew)); exact (Kd.R_mono (Kd.R_far (p := ⟨gb167, 1, none⟩) (Kd.R_far (p := ⟨gb167, 0, none⟩) (Kd.R_types HO164.out BK167.out (by decide)) (fun _ hk => hk.2) (.int .i64 t161)) (fun _ hk => hk.2) (.slice Ao12 t162.length co12)) (fun _ h_ => h_.1))) (Kd.R_base ho14) hb); have n1_ := Aside0.mk (Kd.R_lower (Kd.R_new' ho14 (Kd.R_lt (by (with_reducible repeat (first | apply Kd.R_alloc | apply Kd.R_drewN | apply Kd.R_drew)); exact (Kd.R_mono (Kd.R_far (p := ⟨gb167, 1, none⟩) (Kd.R_far (p := ⟨gb167, 0, none⟩) (Kd.R_types HO164.out BK167.out (by decide)) (fun _ hk => hk.2) (.int .i64 t161)) (fun _ hk => hk.2) (.slice Ao12 t162.length co12)) (fun _ h_ => h_.1))))) (below_size (by repeat (first | (with_reducible first | exact HB.out | apply below_alloc | apply pw_below_drewN | apply below_drew1 | refine below_set ?_ (IsS54.ge HI160.out) | refine below_set ?_ GE156.out | refine below_set ?_ GE167.out) | exact HB.out)))); have n2_ := Aside0.mk (blk_below (g := gb156) (o := .cells #[.int .i64 0, .slice none 0 0] 26 (0, 0)) (by (with_reducible repeat (first | refine blk_drewN ?_ _ | refine blk_drew ?_ | refine blk_alloc ?_ _)); refine blk_far ?_ NB156_167.out _; (with_reducible repeat (first | refine blk_drewN ?_ _ | refine blk_drew ?_ | refine blk_alloc ?_ _)); refine blk_far ?_ NB156_167.out _; (with_reducible repeat (first | refine blk_drewN ?_ _ | refine blk_drew ?_ | refine blk_alloc ?_ _)); exact BK156.out) hb); have n3_ := Aside0.mk (IsS54.below (show IsS54 w ((w8.setCell ⟨gb167, 0, none⟩ (.int .i64 t161)).setCell ⟨gb167, 1, none⟩ (.slice Ao12 t162.length co12)) g160 t157 t165 t166 from by repeat (first | (with_reducible first | exact HI160.out | apply IsS54.alloc | apply IsS54.drewN | apply IsS54.drew | apply IsS54.set_1 | apply IsS54.set_2 | refine IsS54.far ?_ NB160_156.out _ | refine IsS54.far ?_ NB160_167.out _) | exact HI160.out)) hb); have n4_ := Aside0.mk (blk_below (g := gb167) (o := .cells #[.int .i64 t161, .slice Ao12 t162.length co12] 26 (0, 0)) (by (with_reducible repeat (first | refine blk_drewN ?_ _ | refine blk_drew ?_ | refine blk_alloc ?_ _)); refine blk_put (cs := #[.int .i64 t161, .slice none 0 0]) ?_ 1 _ rfl; (with_reducible repeat (first | refine blk_drewN ?_ _ | refine blk_drew ?_ | refine blk_alloc ?_ _)); refine blk_put (cs := #[.int .i64 0, .slice none 0 0]) ?_ 0 _ rfl; (with_reducible repeat (first | refine blk_drewN ?_ _ | refine blk_drew ?_ | refine blk_alloc ?_ _)); exact BK167.out) hb); have n5_ := Aside0.mk (below_step (by repeat (first | (with_reducible first | exact HB.out | apply below_alloc | apply pw_below_drewN | apply below_drew1 | refine below_set ?_ (IsS54.ge HI160.out) | refine below_set ?_ GE156.out | refine below_set ?_ GE167.out) | exact HB.out)) hb); clear HO164; clear BK156; clear HI160; clear BK167; clear HB; have HO164 := n0_; have HO170 := n1_; have BK156 := n2_; have HI160 := n3_; have BK167 := n4_; have HB := n5_; clear n0_ n1_ n2_ n3_ n4_ n5_; clear hb ho14; obtain ⟨Ao15, co15, eo15⟩ := Kd.R_slice HO170.out; subst eo15; have hnb16 := NB156_160.out; have hnc16 := NB160_156.out; have hcz17_0 : w13.cell? ⟨gb156, 0, none⟩ = some (.int .i64 0) := (blk_cell BK156.out 0).trans rfl; have hcz17_1 : w13.cell? ⟨gb156, 1, none⟩ = some (.slice none 0 0) := (blk_cell BK156.out 1).trans rfl; have hfz17_0 := blk_frozen BK156.out 0; have hfz17_1 := blk_frozen BK156.out 1))
  refine bodyPost_ret (results_cell_row rfl _ _ gb156 26 #[.int .i64 2, .slice Ao15 y168.length co15] (0, 0) _ rfl (by (with_reducible repeat (first | refine blk_drewN ?_ _ | refine blk_drew ?_ | refine blk_alloc ?_ _)); refine blk_put (cs := #[.int .i64 2, .slice none 0 0]) ?_ 1 _ rfl; (with_reducible repeat (first | refine blk_drewN ?_ _ | refine blk_drew ?_ | refine blk_alloc ?_ _)); refine blk_put (cs := #[.int .i64 0, .slice none 0 0]) ?_ 0 _ rfl; (with_reducible repeat (first | refine blk_drewN ?_ _ | refine blk_drew ?_ | refine blk_alloc ?_ _)); exact BK156.out) Try.underlying26 rfl (by kernel_rfl)) rfl ?_
  exact ⟨_, by first | rfl | (simp [errW_none, errW_some] <;> rfl) | (simp [*, errW_none, errW_some] <;> rfl), by (with_reducible repeat (first | apply Kd.R_alloc | apply Kd.R_drewN | apply Kd.R_drew)); exact Kd.R_mono (Kd.R_far (p := ⟨gb156, 1, none⟩) (Kd.R_far (p := ⟨gb156, 0, none⟩) (Kd.R_types HO170.out BK156.out (by decide)) (fun _ hk => hk.2) (.int .i64 2)) (fun _ hk => hk.2) (.slice Ao15 y168.length co15)) (fun _ hk => trivial), by repeat (first | (with_reducible first | exact HB.out | apply below_alloc | apply pw_below_drewN | apply below_drew1 | refine below_set ?_ (IsS54.ge HI160.out) | refine below_set ?_ GE156.out | refine below_set ?_ GE167.out) | exact HB.out)⟩
 ·rw [if_neg c4] at H
  have c4b0 : decide (6 < t161) = false := decide_eq_false c4
  clear c4
  simp only [Option.some.injEq, Prod.mk.injEq] at H
  obtain ⟨rfl, rfl⟩ := H
  go_enter Try.func5, Try.ntmps5
  go_wp2_with (first | ((with_reducible refine gate_dst (N := 2) rfl ?_); refine box_event ?hg (N := 2) ?hd (cs := #[.int .i64 0, .slice none 0 0]) (t := 26) ?hr ?_; (case hd => rfl); (case hg => rfl); (case hr => first | (go_simp; done) | (go_simp; rfl)); intro gb156 hg w18 hbox hb; have n0_ := Aside0.mk (below_step (by repeat (first | (with_reducible first | exact HB.out | apply below_alloc | apply pw_below_drewN | apply below_drew1) | exact HB.out)) hb); have n1_ := Aside0.mk (hbox); have n2_ := Aside0.mk ((by rw [hg]; exact (below_size (by repeat (first | (with_reducible first | exact HB.out | apply below_alloc | apply pw_below_drewN | apply below_drew1) | exact HB.out))) : w.heap.size ≤ gb156)); have n3_ := Aside0.mk ((by rw [hg]; exact (below_size (by repeat (first | (with_reducible first | exact HB.out | apply below_alloc | apply pw_below_drewN | apply below_drew1) | exact HB.out))) : w.heap.size ≤ gb156)); clear HB; have HB := n0_; have BK156 := n1_; have GW156 := n2_; have GE156 := n3_; clear n0_ n1_ n2_ n3_; clear hb hbox hg) | ((with_reducible refine gate_callee (f := 12) rfl ?_); refine goesL_ (some 6) rfl rfl Try.func12 (by kernel_rfl) rfl #[.slice A0 l0.length c0] rfl (by (try simp only [List.map_toArray, List.map_cons, List.map_nil]); first | done | rfl | (simp only [List.length_drop, List.length_take]; rfl)) ?_; (with_reducible refine (spec_l00From.calls _ _ l0 t157 t158 t159 w _ ?side1 ?side2 ?side3 A2.out).mono ?_); (case side1 => repeat (first | (with_reducible first | exact HB.out | apply below_alloc | apply pw_below_drewN | apply below_drew1 | refine below_set ?_ GE156.out) | exact HB.out)); (case side2 => exact HR0.out); (case side3 => exact HC0.out); rintro e w19 ⟨g160, rfl, hi, hb, hb2⟩; refine ⟨_, rfl, ?_⟩; have n0_ := Aside0.mk (blk_below (g := gb156) (o := .cells #[.int .i64 0, .slice none 0 0] 26 (0, 0)) (by (with_reducible repeat (first | refine blk_drewN ?_ _ | refine blk_drew ?_ | refine blk_alloc ?_ _)); exact BK156.out) hb2); have n1_ := Aside0.mk (hb); have n2_ := Aside0.mk (hi); have n3_ := Aside0.mk (IsS54.ne_blk hi (blk_below (g := gb156) (o := .cells #[.int .i64 0, .slice none 0 0] 26 (0, 0)) (by (with_reducible repeat (first | refine blk_drewN ?_ _ | refine blk_drew ?_ | refine blk_alloc ?_ _)); exact BK156.out) hb2) (by decide)); have n4_ := Aside0.mk (Ne.symm (IsS54.ne_blk hi (blk_below (g := gb156) (o := .cells #[.int .i64 0, .slice none 0 0] 26 (0, 0)) (by (with_reducible repeat (first | refine blk_drewN ?_ _ | refine blk_drew ?_ | refine blk_alloc ?_ _)); exact BK156.out) hb2) (by decide))); clear BK156; clear HB; have BK156 := n0_; have HB := n1_; have HI160 := n2_; have NB160_156 := n3_; have NB156_160 := n4_; clear n0_ n1_ n2_ n3_ n4_; (try clear hb); (try clear hb2); (try clear hk); (try clear hi)) | ((with_reducible refine gate_callee (f := 13) rfl ?_); refine goesL_ (some 8) rfl rfl Try.func13 (by kernel_rfl) rfl #[.pointer (some ⟨g160, 0, none⟩)] rfl (by (try simp only [List.map_toArray, List.map_cons, List.map_nil]); first | done | rfl | (simp only [List.length_drop, List.length_take]; rfl)) ?_; (with_reducible refine (spec_l04DrawOk.calls k g160 t157 t158 t159 t161 t162 t165 t166 w _ ?side1 ?side2 A3.out).mono ?_); (case side1 => repeat (first | (with_reducible first | exact HI160.out | apply IsS54.alloc | apply IsS54.drewN | apply IsS54.drew | apply IsS54.set_1 | apply IsS54.set_2 | refine IsS54.far ?_ NB160_156.out _) | exact HI160.out)); (case side2 => repeat (first | (with_reducible first | exact HB.out | apply below_alloc | apply pw_below_drewN | apply below_drew1 | refine below_set ?_ (IsS54.ge HI160.out) | refine below_set ?_ GE156.out) | exact HB.out)); rintro e w20 ⟨v163, rfl, ho0, hi, hb, hk⟩; refine ⟨_, rfl, ?_⟩; have n0_ := Aside0.mk (KeepBut.blk hk (g' := gb156) (o := .cells #[.int .i64 0, .slice none 0 0] 26 (0, 0)) (by (with_reducible repeat (first | refine blk_drewN ?_ _ | refine blk_drew ?_ | refine blk_alloc ?_ _)); exact BK156.out) NB156_160.out (by simp)); have n1_ := Aside0.mk (Kd.R_lower ho0 (below_size (by repeat (first | (with_reducible first | exact HB.out | apply below_alloc | apply pw_below_drewN | apply below_drew1 | refine below_set ?_ (IsS54.ge HI160.out) | refine below_set ?_ GE156.out) | exact HB.out)))); have n2_ := Aside0.mk (hb); have n3_ := Aside0.mk (hi); clear BK156; clear HB; clear HI160; have BK156 := n0_; have HO164 := n1_; have HB := n2_; have HI160 := n3_; clear n0_ n1_ n2_ n3_; (try clear hb); (try clear hb2); (try clear hk); (try clear hi); (try clear ho0)) | ((with_reducible refine gate_dst (N := 4) rfl ?_); refine box_event ?hg (N := 4) ?hd (cs := #[.int .i64 0, .slice none 0 0]) (t := 26) ?hr ?_; (case hd => rfl); (case hg => rfl); (case hr => first | (go_simp; done) | (go_simp; rfl)); intro gb167 hg w21 hbox hb; have n0_ := Aside0.mk (Kd.R_below (by (with_reducible repeat (first | apply Kd.R_alloc | apply Kd.R_drewN | apply Kd.R_drew)); exact HO164.out) hb); have n1_ := Aside0.mk (blk_below (g := gb156) (o := .cells #[.int .i64 0, .slice none 0 0] 26 (0, 0)) (by (with_reducible repeat (first | refine blk_drewN ?_ _ | refine blk_drew ?_ | refine blk_alloc ?_ _)); exact BK156.out) hb); have n2_ := Aside0.mk (IsS54.below (by repeat (first | (with_reducible first | exact HI160.out | apply IsS54.alloc | apply IsS54.drewN | apply IsS54.drew | apply IsS54.set_1 | apply IsS54.set_2 | refine IsS54.far ?_ NB160_156.out _) | exact HI160.out)) hb); have n3_ := Aside0.mk (below_step (by repeat (first | (with_reducible first | exact HB.out | apply below_alloc | apply pw_below_drewN | apply below_drew1 | refine below_set ?_ (IsS54.ge HI160.out) | refine below_set ?_ GE156.out) | exact HB.out)) hb); have n4_ := Aside0.mk (hbox); have n5_ := Aside0.mk ((by rw [hg]; exact (below_size (by repeat (first | (with_reducible first | exact HB.out | apply below_alloc | apply pw_below_drewN | apply below_drew1 | refine below_set ?_ (IsS54.ge HI160.out) | refine below_set ?_ GE156.out) | exact HB.out))) : w.heap.size ≤ gb167)); have n6_ := Aside0.mk ((by rw [hg]; exact (below_size (by repeat (first | (with_reducible first | exact HB.out | apply below_alloc | apply pw_below_drewN | apply below_drew1 | refine below_set ?_ (IsS54.ge HI160.out) | refine below_set ?_ GE156.out) | exact HB.out))) : w.heap.size ≤ gb167)); have n7_ := Aside0.mk ((by rw [hg]; exact Nat.ne_of_lt (blk_lt (g := gb156) (o := .cells #[.int .i64 0, .slice none 0 0] 26 (0, 0)) (by (with_reducible repeat (first | refine blk_drewN ?_ _ | refine blk_drew ?_ | refine blk_alloc ?_ _)); exact BK156.out)) : gb156 ≠ gb167)); have n8_ := Aside0.mk ((by rw [hg]; exact Nat.ne_of_gt (blk_lt (g := gb156) (o := .cells #[.int .i64 0, .slice none 0 0] 26 (0, 0)) (by (with_reducible repeat (first | refine blk_drewN ?_ _ | refine blk_drew ?_ | refine blk_alloc ?_ _)); exact BK156.out)) : gb167 ≠ gb156)); have n9_ := Aside0.mk ((by rw [hg]; exact Nat.ne_of_lt (IsS54.lt (show IsS54 w _ g160 t157 t165 t166 from by repeat (first | (with_reducible first | exact HI160.out | apply IsS54.alloc | apply IsS54.drewN | apply IsS54.drew | apply IsS54.set_1 | apply IsS54.set_2 | refine IsS54.far ?_ NB160_156.out _) | exact HI160.out))) : g160 ≠ gb167)); have n10_ := Aside0.mk ((by rw [hg]; exact Nat.ne_of_gt (IsS54.lt (show IsS54 w _ g160 t157 t165 t166 from by repeat (first | (with_reducible first | exact HI160.out | apply IsS54.alloc | apply IsS54.drewN | apply IsS54.drew | apply IsS54.set_1 | apply IsS54.set_2 | refine IsS54.far ?_ NB160_156.out _) | exact HI160.out))) : gb167 ≠ g160)); clear HO164; clear BK156; clear HI160; clear HB; have HO164 := n0_; have BK156 := n1_; have HI160 := n2_; have HB := n3_; have BK167 := n4_; have GW167 := n5_; have GE167 := n6_; have NB156_167 := n7_; have NB167_156 := n8_; have NB160_167 := n9_; have NB167_160 := n10_; clear n0_ n1_ n2_ n3_ n4_ n5_ n6_ n7_ n8_ n9_ n10_; clear hb hbox hg; have hnb22 := NB167_156.out; have hnc22 := NB156_167.out; have hnb23 := NB167_160.out; have hnc23 := NB160_167.out; have hcz24_0 : w21.cell? ⟨gb167, 0, none⟩ = some (.int .i64 0) := (blk_cell BK167.out 0).trans rfl; have hcz24_1 : w21.cell? ⟨gb167, 1, none⟩ = some (.slice none 0 0) := (blk_cell BK167.out 1).trans rfl; have hfz24_0 := blk_frozen BK167.out 0; have hfz24_1 := blk_frozen BK167.out 1; obtain ⟨Ao25, co25, eo25⟩ := Kd.R_slice HO164.out; subst eo25; have hnb26 := NB156_160.out; have hnc26 := NB160_156.out; have hcz27_0 : w21.cell? ⟨gb156, 0, none⟩ = some (.int .i64 0) := (blk_cell BK156.out 0).trans rfl; have hcz27_1 : w21.cell? ⟨gb156, 1, none⟩ = some (.slice none 0 0) := (blk_cell BK156.out 1).trans rfl; have hfz27_0 := blk_frozen BK156.out 0; have hfz27_1 := blk_frozen BK156.out 1))
  refine bodyPost_ret (results_cell_row rfl _ _ gb156 26 #[.int .i64 t161, .slice Ao25 t162.length co25] (0, 0) _ rfl (by (with_reducible repeat (first | refine blk_drewN ?_ _ | refine blk_drew ?_ | refine blk_alloc ?_ _)); refine blk_put (cs := #[.int .i64 t161, .slice none 0 0]) ?_ 1 _ rfl; (with_reducible repeat (first | refine blk_drewN ?_ _ | refine blk_drew ?_ | refine blk_alloc ?_ _)); refine blk_put (cs := #[.int .i64 0, .slice none 0 0]) ?_ 0 _ rfl; (with_reducible repeat (first | refine blk_drewN ?_ _ | refine blk_drew ?_ | refine blk_alloc ?_ _)); refine blk_far ?_ NB156_167.out _; (with_reducible repeat (first | refine blk_drewN ?_ _ | refine blk_drew ?_ | refine blk_alloc ?_ _)); refine blk_far ?_ NB156_167.out _; (with_reducible repeat (first | refine blk_drewN ?_ _ | refine blk_drew ?_ | refine blk_alloc ?_ _)); exact BK156.out) Try.underlying26 rfl (by kernel_rfl)) rfl ?_
  exact ⟨_, by first | rfl | (simp [errW_none, errW_some] <;> rfl) | (simp [*, errW_none, errW_some] <;> rfl), by (with_reducible repeat (first | apply Kd.R_alloc | apply Kd.R_drewN | apply Kd.R_drew)); exact Kd.R_mono (Kd.R_far (p := ⟨gb156, 1, none⟩) (Kd.R_far (p := ⟨gb156, 0, none⟩) (Kd.R_far (p := ⟨gb167, 1, none⟩) (Kd.R_far (p := ⟨gb167, 0, none⟩) (Kd.R_types (Kd.R_types HO164.out BK167.out (by decide)) BK156.out (by decide)) (fun _ hk => hk.1.2) (.int .i64 t161)) (fun _ hk => hk.1.2) (.slice Ao25 t162.length co25)) (fun _ hk => hk.2) (.int .i64 t161)) (fun _ hk => hk.2) (.slice Ao25 t162.length co25)) (fun _ hk => trivial), by repeat (first | (with_reducible first | exact HB.out | apply below_alloc | apply pw_below_drewN | apply below_drew1 | refine below_set ?_ (IsS54.ge HI160.out) | refine below_set ?_ GE156.out | refine below_set ?_ GE167.out) | exact HB.out)⟩

end Go.Proofs.Ythgmolenlpagkaa.Pa

/- What the short laws draw from their bytes: diagrams in bounds, times in bounds. -/
namespace Go.Proofs.Ythgmolenlpagkaa.Pure
open Go.RowKit Go.Proofs.Ythgmolenlpagkaa.Pa Go.Proofs.YthgmolenlpagkaaW.PrintWords Go.Proofs.YthgmolenlpagkaaW.PrintLast Go.Proofs.YthgmolenlpagkaaW.PrintMore
set_option linter.unusedVariables false
set_option linter.unusedSimpArgs false

/-- A bound between two of n events, of a small size. -/
def Good8 (n : Int) (b : S36) : Prop := 0 ≤ b.f0 ∧ b.f0 ≤ n - 1 ∧ 0 ≤ b.f1 ∧ b.f1 ≤ n - 1 ∧ b.f0 ≠ b.f1 ∧ -1000 ≤ b.f2 ∧ b.f2 ≤ 1000
theorem draw_l1 (l : List Int) (hl : Bytes l) (hlen : l.length ≤ 1000) (n : Nat) (h1 : 1 ≤ n) (hn : n ≤ 10) (x4 : List Int) (h4 : x4.length = n) (hx4 : ∀ t ∈ x4, 0 ≤ t ∧ t ≤ 19) (c : Nat) : ∀ (k : Nat) (p h : Int) (bs : List S36), 0 ≤ p → p + 5 * (c : Int) ≤ 1000 → bs.length + c ≤ 9 → (∀ b ∈ bs, Good8 (n : Int) b) →
  ∃ bs' p' h', spec_l04DrawOk.l1 (k + 2 * c + 2) x4 (c : Int) l p h (n : Int) bs = some ((n : Int), bs', p', h') ∧ bs'.length ≤ 9 ∧ ∀ b ∈ bs', Good8 (n : Int) b := by
 induction c with
 | zero =>
  intro k p h bs hp hp2 hb hg
  refine ⟨bs, p, h, ?_, by omega, hg⟩
  rw [show k + 2 * 0 + 2 = (k + 1) + 1 from rfl]
  simp only [spec_l04DrawOk.l1]
  rw [if_neg (by omega)]
  simp only [spec_l04DrawOk.j3]
  simp
 | succ c ih =>
  intro k p h bs hp hp2 hb hg
  push_cast at hp2
  rw [show k + 2 * (c + 1) + 2 = (k + 2 * c + 2 + 1) + 1 by omega]
  by_cases hn1 : n = 1
  ·subst hn1
   refine ⟨bs, p, h, ?_, by omega, hg⟩
   generalize k + 2 * c + 2 = q
   simp only [spec_l04DrawOk.l1]
   rw [if_pos (by omega)]
   simp only [spec_l04DrawOk.j3]
   simp
  ·obtain ⟨a, p1, g1, e1, a0, a1, _, q1, q2⟩ := pick_tells l hl hlen p h (n : Int) hp (by omega) (by omega)
   have a2 := a1 (by omega)
   obtain ⟨b, p2, g2, e2, b0, b1, b1', q3, q4⟩ := pick_tells l hl hlen p1 g1 ((n : Int) - 1) (by omega) (by omega) (by omega)
   have b2 : b ≤ (n : Int) - 2 := by
    by_cases hh : (2 : Int) ≤ (n : Int) - 1
    ·have := b1 hh; omega
    ·have := b1' (by omega); omega
   obtain ⟨s, p3, g3, e3, s0, s1, _, q5, q6⟩ := pick_tells l hl hlen p2 g2 6 (by omega) (by omega) (by omega)
   have s2 := s1 (by omega)
   obtain ⟨o, p4, g4, e4, q7, q8⟩ := one_tells l hl hlen p3 g3 12 (by omega) (by omega) (by omega)
   have hm : Int.tmod (a + 1 + b) (n : Int) = if a + 1 + b < (n : Int) then a + 1 + b else a + 1 + b - (n : Int) := by
    rw [Int.tmod_eq_emod_of_nonneg (by omega)]
    split
    ·exact Int.emod_eq_of_lt (by omega) (by omega)
    ·rw [← Int.sub_emod_right]
     exact Int.emod_eq_of_lt (by omega) (by omega)
   generalize hT : Int.tmod (a + 1 + b) (n : Int) = T at hm
   have t0 : 0 ≤ T := by rw [hm]; split <;> omega
   have t1 : T < (n : Int) := by rw [hm]; split <;> omega
   have t2 : a ≠ T := by rw [hm]; split <;> omega
   have ra : 0 ≤ rd x4 a ∧ rd x4 a ≤ 19 := by
    have := rd_get (l := x4) (i := a.toNat) (by omega)
    rw [show ((a.toNat : Nat) : Int) = a by omega] at this
    rw [this]; exact hx4 _ (List.getElem_mem _)
   have rT : 0 ≤ rd x4 T ∧ rd x4 T ≤ 19 := by
    have := rd_get (l := x4) (i := T.toNat) (by omega)
    rw [show ((T.toNat : Nat) : Int) = T by omega] at this
    rw [this]; exact hx4 _ (List.getElem_mem _)
   have next : ∀ m : Int, -1000 ≤ m → m ≤ 1000 → ∃ bs' p' h', spec_l04DrawOk.l1 (k + 2 * c + 2) x4 (c : Int) l p4 g4 (n : Int) (bs ++ [⟨a, T, m⟩]) = some ((n : Int), bs', p', h') ∧ bs'.length ≤ 9 ∧ ∀ b ∈ bs', Good8 (n : Int) b := by
    intro m m0 m1
    refine ih k p4 g4 _ (by omega) (by omega) (by simp; omega) (fun y hy => ?_)
    rcases List.mem_append.mp hy with hy | hy
    ·exact hg y hy
    ·rw [List.mem_singleton] at hy
     subst hy
     exact ⟨a0, (by show a ≤ (n : Int) - 1; omega), t0, (by show T ≤ (n : Int) - 1; omega), t2, m0, m1⟩
   generalize k + 2 * c + 2 = q at next ⊢
   simp only [spec_l04DrawOk.l1]
   rw [if_pos (by omega), decide_eq_true (by omega : (n : Int) > 1)]
   simp only [spec_l04DrawOk.j3, if_true]
   rw [e1]
   simp only [Option.bind_some]
   rw [wrap_id (x := (n : Int) - 1) (by omega) (by omega), e2]
   simp only [Option.bind_some]
   rw [wrap_id (x := a + 1) (by omega) (by omega), wrap_id (x := a + 1 + b) (by omega) (by omega), hT, if_neg (by omega), if_pos t0, if_pos (by omega), if_pos a0, if_pos (by omega), e3]
   simp only [Option.bind_some]
   rw [e4]
   simp only [Option.bind_some]
   have hc : wrap64 (((c + 1 : Nat) : Int) - 1) = (c : Int) := by rw [wrap_id (by omega) (by omega)]; omega
   rw [hc, wrap_id (x := rd x4 T - rd x4 a) (by omega) (by omega), wrap_id (x := rd x4 T - rd x4 a + s) (by omega) (by omega), wrap_id (x := rd x4 T - rd x4 a + s - 4) (by omega) (by omega)]
   by_cases ho : o = true
   ·rw [if_pos ho, if_pos (by omega)]
    exact next _ (by omega) (by omega)
   ·rw [if_neg ho, if_pos (by omega)]
    exact next _ (by omega) (by omega)
theorem draw_l0 (l : List Int) (hl : Bytes l) (hlen : l.length ≤ 1000) (n : Nat) (h1 : 1 ≤ n) (hn : n ≤ 10) (d : Nat) : ∀ (k : Nat) (x4 : List Int) (i : Nat) (p h : Int), x4.length = i → i + d = n → 0 ≤ p → p ≤ 2 + i → (∀ t ∈ x4, 0 ≤ t ∧ t ≤ 19) →
  ∃ bs' p' h', spec_l04DrawOk.l0 (k + 20 + d + 1) x4 (i : Int) l p h (n : Int) [] = some ((n : Int), bs', p', h') ∧ bs'.length ≤ 9 ∧ ∀ b ∈ bs', Good8 (n : Int) b := by
 induction d with
 | zero =>
  intro k x4 i p h ha hi hp hp2 ht
  obtain ⟨c, p1, g1, e1, c0, c1, _, q1, q2⟩ := pick_tells l hl hlen p h 10 hp (by omega) (by omega)
  have c2 := c1 (by omega)
  obtain ⟨cn, rfl⟩ : ∃ m : Nat, c = m := ⟨c.toNat, by omega⟩
  have := draw_l1 l hl hlen n h1 hn x4 (by omega) ht cn (k + 20 - 2 * cn - 2) p1 g1 [] (by omega) (by omega) (by simp; omega) (by simp)
  rw [show k + 20 - 2 * cn - 2 + 2 * cn + 2 = k + 20 by omega] at this
  simp only [Nat.add_zero, spec_l04DrawOk.l0]
  rw [if_neg (by omega), e1]
  simp only [Option.bind_some]
  exact this
 | succ d ih =>
  intro k x4 i p h ha hi hp hp2 ht
  obtain ⟨v, p1, g1, e1, v0, v1, _, q1, q2⟩ := pick_tells l hl hlen p h 20 hp (by omega) (by omega)
  have v2 := v1 (by omega)
  have := ih k (x4 ++ [v]) (i + 1) p1 g1 (by simp [ha]) (by omega) (by omega) (by push_cast; omega) (fun t hm => by
   rcases List.mem_append.mp hm with hm | hm
   ·exact ht t hm
   ·rw [List.mem_singleton] at hm; omega)
  rw [show k + 20 + (d + 1) + 1 = (k + 20 + d + 1) + 1 from rfl]
  rw [show ((i + 1 : Nat) : Int) = (i : Int) + 1 from by omega] at this
  generalize k + 20 + d + 1 = q at this ⊢
  simp only [spec_l04DrawOk.l0]
  rw [if_pos (by omega), e1]
  simp only [Option.bind_some]
  rw [if_pos (by omega), wrap_id (by omega) (by omega)]
  exact this
/-- A drawn diagram is in bounds and has at most six events. -/
theorem diagram_tells (l : List Int) (hl : Bytes l) (hlen : l.length ≤ 1000) : ∃ K, ∀ k, K ≤ k → ∃ (n : Nat) (bs : List S36), spec_R8Diagram.f k l = some ((n : Int), bs) ∧ 1 ≤ n ∧ n ≤ 6 ∧ bs.length ≤ 9 ∧ ∀ b ∈ bs, Good8 (n : Int) b := by
 refine ⟨100, fun k hk => ?_⟩
 obtain ⟨a, p1, g1, e1, a0, a1, _, q1, q2⟩ := pick_tells l hl hlen 0 0 6 (by omega) (by omega) (by omega)
 have a2 := a1 (by omega)
 obtain ⟨o, p2, g2, e2, q3, q4⟩ := one_tells l hl hlen p1 g1 20 (by omega) (by omega) (by omega)
 have run : ∀ n : Nat, 1 ≤ n → n ≤ 10 → ∃ bs' p' h', spec_l04DrawOk.j0 k l p2 g2 (n : Int) [] = some ((n : Int), bs', p', h') ∧ bs'.length ≤ 9 ∧ ∀ b ∈ bs', Good8 (n : Int) b := by
  intro n h1 hn
  obtain ⟨q, rfl⟩ : ∃ q, k = (q + 20 + n + 1) + 1 := ⟨k - 22 - n, by omega⟩
  have := draw_l0 l hl hlen n h1 hn n q [] 0 p2 g2 rfl (by omega) (by omega) (by omega) (by simp)
  rw [show ((0 : Nat) : Int) = 0 from rfl] at this
  simp only [spec_l04DrawOk.j0]
  exact this
 have both : ∃ (n : Nat) (bs : List S36) (p h : Int), spec_l04DrawOk.f k l 0 0 = some ((n : Int), bs, p, h) ∧ 1 ≤ n ∧ bs.length ≤ 9 ∧ ∀ b ∈ bs, Good8 (n : Int) b := by
  unfold spec_l04DrawOk.f
  rw [e1]
  simp only [Option.bind_some]
  rw [e2]
  simp only [Option.bind_some]
  by_cases ho : o = true
  ·rw [if_pos ho]
   obtain ⟨bs, p, h, e, r1, r2⟩ := run 10 (by omega) (by omega)
   exact ⟨10, bs, p, h, e, by omega, r1, r2⟩
  ·rw [if_neg ho, wrap_id (by omega) (by omega)]
   obtain ⟨bs, p, h, e, r1, r2⟩ := run (1 + a).toNat (by omega) (by omega)
   rw [show (((1 + a).toNat : Nat) : Int) = 1 + a by omega] at e r2
   refine ⟨(1 + a).toNat, bs, p, h, ?_, by omega, r1, ?_⟩
   ·rw [e, show (((1 + a).toNat : Nat) : Int) = 1 + a by omega]
   ·rw [show (((1 + a).toNat : Nat) : Int) = 1 + a by omega]; exact r2
 obtain ⟨n, bs, p, h, e, n1, r1, r2⟩ := both
 unfold spec_R8Diagram.f spec_l00From.f
 simp only [Option.bind_some]
 rw [e]
 simp only [Option.bind_some]
 by_cases c : (n : Int) > 6
 ·rw [if_pos c]
  exact ⟨2, [], rfl, by omega, by omega, by simp, by simp⟩
 ·rw [if_neg c]
  exact ⟨n, bs, rfl, n1, by omega, r1, r2⟩
end Go.Proofs.Ythgmolenlpagkaa.Pure

namespace Go.Proofs.Ythgmolenlpagkaa.Pa
open Go.RowKit Go.Proofs.YthgmolenlpagkaaW.PrintWords Go.Proofs.YthgmolenlpagkaaW.PrintLast Go.Proofs.YthgmolenlpagkaaW.PrintMore
attribute [local go_sem] max2_int min2_int max_two min_two max_three min_three max_four min_four   -- for this text's walks alone
set_option linter.unusedVariables false
set_option linter.unusedSimpArgs false

/-! ### AUX mapB -/
/-- Block b of w is a map from whole numbers to yes or no, of at most n entries, that tells f. -/
def MapIs (w : World) (b n : Nat) (f : Int → Bool) : Prop :=
 ∃ D : DataW Unit, w.ownsMap Try.prog 2 (plainElem Try.prog 4) b n D ∧ Go.Maps.IsMap D ∧ ∀ x, (Lit.int .i64 x).wf = true → D.atKey (.int .i64 x) (.lit (.bool false)) = .lit (.bool (f x))
theorem plain_bool {v : Value} {x : Bool} {ps : List MemPlace} (h : plainElem (H := Unit) Try.prog 4 v = some (.lit (.bool x), ps)) : v = .bool x := by
 unfold plainElem at h
 rw [Try.underlying4] at h
 cases v <;> simp at h
 obtain ⟨rfl, _⟩ := h
 rfl
theorem MapIs.look {w : World} {b n : Nat} {f : Int → Bool} (h : MapIs w b n f) (x : Int) (hx : (Lit.int .i64 x).wf = true) :
  ∀ m, (Instr.lookup 57 (.map (some b)) (.int .i64 x) false).run Try.prog (w.drewN m) = .ok (.bool (f x)) (w.drewN m) := by
 intro m
 obtain ⟨D, ho, hm, ha⟩ := h
 have ho' : (w.drewN m).ownsMap Try.prog 2 (plainElem (H := Unit) Try.prog 4) b n D := ho
 obtain ⟨v, ps, hr, hv⟩ := ho'.lookup (t := 57) (e := 4) (Go.Maps.int_keyed Try.underlying2) Try.underlying57 (Try.zeroValue4 _) (plainElem_bool Try.underlying4 false) (Go.Maps.keyOf_int_mk Try.underlying2 hx)
 rw [ha x hx] at hv
 rw [hr, plain_bool hv]
theorem MapIs.put {w : World} {b n : Nat} {f : Int → Bool} (h : MapIs w b n f) (hn : n < 9223372036854775807) (x : Int) (hx : (Lit.int .i64 x).wf = true) (v : Bool) :
  ∃ w', (Instr.mapUpdate 57 (.map (some b)) (.int .i64 x) (.bool v)).run Try.prog w = .ok () w' ∧ MapIs w' b (n + 1) (fun y => if y = x then v else f y) ∧ w.grownBy w' (some b) := by
 obtain ⟨D, ho, hm, ha⟩ := h
 obtain ⟨w', hr, hw, hg⟩ := ho.update (t := 57) (e := 4) (Go.Maps.int_keyed Try.underlying2) Try.underlying57 hn (Go.Maps.keyOf_int_mk Try.underlying2 hx) (plainElem_bool Try.underlying4 v)
 refine ⟨w', hr, ⟨_, hw, ?_, fun y hy => ?_⟩, hg⟩
 ·obtain ⟨es, cl, _, _, _, e⟩ := hw
  exact ⟨_, e⟩
 ·by_cases hq : y = x
  ·subst hq
   show _ = DataW.lit (Lit.bool (if y = y then v else f y))
   rw [if_pos rfl]
   exact Go.Maps.atKey_put_same hm (show Go.WideAt.IsKeyLit (.int .i64 y) from trivial) _ _
  ·show _ = DataW.lit (Lit.bool (if y = x then v else f y))
   rw [if_neg hq, ← ha y hy]
   exact Go.Maps.atKey_put_other (fun e => hq (by injection e)) _ _
theorem MapIs.keep {w w' : World} {b n : Nat} {f : Int → Bool} (h : MapIs w b n f) (hk : w'.heap[b]? = w.heap[b]?) : MapIs w' b n f := by
 obtain ⟨D, ⟨es, cl, hb, r⟩, hm⟩ := h
 exact ⟨D, ⟨es, cl, hk.trans hb, r⟩, hm⟩
theorem MapIs.block {w : World} {b n : Nat} {f : Int → Bool} (h : MapIs w b n f) : ∃ es cl, w.heap[b]? = some (.map es cl) := by
 obtain ⟨D, ⟨es, cl, hb, r⟩, hm⟩ := h
 exact ⟨es, cl, hb⟩
theorem MapIs.tells {w : World} {b n n' : Nat} {f f' : Int → Bool} (h : MapIs w b n f) (hn : n ≤ n') (hf : ∀ x, (Lit.int .i64 x).wf = true → f x = f' x) : MapIs w b n' f' := by
 obtain ⟨D, ho, hm, ha⟩ := h
 exact ⟨D, ho.mono hn, hm, fun x hx => by rw [ha x hx, hf x hx]⟩
theorem MapIs.made (w : World) (f : Int → Bool) (hf : ∀ x, f x = false) : MapIs (w.alloc (.map #[] 0)) w.heap.size 0 f :=
 ⟨.map [], World.ownsMap_made w _ _ _, ⟨_, rfl⟩, fun x _ => by rw [hf x]; rfl⟩
theorem MapIs.lt {w : World} {b n : Nat} {f : Int → Bool} (h : MapIs w b n f) : b < w.heap.size := by
 obtain ⟨es, cl, hb⟩ := h.block
 exact (Array.getElem?_eq_some_iff.1 hb).1
theorem MapIs.below {w w' : World} {b n : Nat} {f : Int → Bool} (h : MapIs w b n f) (hb : Below w.heap.size w w') : MapIs w' b n f := h.keep (hb.block b h.lt)
theorem MapIs.ne {w : World} {b n g t : Nat} {f : Int → Bool} {cs : Array Value} (h : MapIs w b n f) (hg : w.heap[g]? = some (.cells cs t (0, 0))) : some g ≠ some b := by
 obtain ⟨es, cl, hb⟩ := h.block
 intro e
 injection e with e
 subst e
 rw [hb] at hg
 cases hg
theorem MapIs.over {α : Type} {d : Kd α} {e base : Nat} {ok : Nat → Prop} {v : Value} {xs : List α} {w w' : World} {b n : Nat} {f : Int → Bool} (h : MapIs w b n f) (hr : d.R e w base ok v xs) (hg : w.grownBy w' v.ownBlock) : MapIs w' b n f := by
 refine h.keep (hg.block b h.lt (fun e1 => ?_))
 obtain ⟨cs, hc⟩ := Kd.R_typed hr b e1.symm
 exact h.ne hc rfl
theorem MapIs.set {w : World} {b n g t j : Nat} {f : Int → Bool} {cs : Array Value} {u : Value} (h : MapIs w b n f) (hg : w.heap[g]? = some (.cells cs t (0, 0))) : MapIs (w.setCell ⟨g, j, none⟩ u) b n f :=
 h.keep (Below.heap_setCell w ⟨g, j, none⟩ u b (fun e => h.ne hg (by rw [e])))
theorem MapIs.row {α : Type} {d : Kd α} {e base : Nat} {ok : Nat → Prop} {v : Value} {xs : List α} {w w' : World} {b n : Nat} {f : Int → Bool} (h : MapIs w b n f) (hr : d.R e w base ok v xs) (hg : w.grownBy w' (some b)) : d.R e w' base ok v xs :=
 Kd.R_mono (Kd.R_grown (Kd.R_bound hr) hg (fun k hk e1 => by
  obtain ⟨_, _, _, q, _, cs, hc⟩ := hk
  exact h.ne hc e1)) (fun _ hk => hk.1)

end Go.Proofs.Ythgmolenlpagkaa.Pa

namespace Go.Proofs.Ythgmolenlpagkaa.Pa
open Go.RowKit Go.Proofs.YthgmolenlpagkaaW.PrintWords Go.Proofs.YthgmolenlpagkaaW.PrintLast Go.Proofs.YthgmolenlpagkaaW.PrintMore
attribute [local go_sem] max2_int min2_int max_two min_two max_three min_three max_four min_four   -- for this text's walks alone
set_option linter.unusedVariables false
set_option linter.unusedSimpArgs false

/-! ### AUX keepT -/
/-- What lies in cells of other kinds than t1 and t2 stays. -/
def KeepT (t1 t2 : Nat) (w w' : World) : Prop := ∀ (g : Nat) (cs : Array Value) (t : Nat), w.heap[g]? = some (.cells cs t (0, 0)) → t ≠ t1 → t ≠ t2 → w'.heap[g]? = some (.cells cs t (0, 0))
section
variable {t1 t2 : Nat} {w w1 w2 : World}
theorem KeepT.refl (t1 t2 : Nat) (w : World) : KeepT t1 t2 w w := fun _ _ _ h _ _ => h
theorem KeepT.then_ (h : KeepT t1 t2 w w1) (k : KeepT t1 t2 w1 w2) : KeepT t1 t2 w w2 := fun g cs t hg a b => k g cs t (h g cs t hg a b) a b
theorem KeepT.below (h : KeepT t1 t2 w w1) (hb : Below w1.heap.size w1 w2) : KeepT t1 t2 w w2 := h.then_ (fun _ _ _ hg _ _ => blk_below hg hb)
/-- A row of kind t1 has grown. -/
theorem KeepT.grown {α : Type} {d : Kd α} {base : Nat} {ok : Nat → Prop} {v : Value} {xs : List α} (h : KeepT t1 t2 w w1) (hr : d.R t1 w1 base ok v xs) (hg : w1.grownBy w2 v.ownBlock) : KeepT t1 t2 w w2 :=
 h.then_ (fun _ _ _ hgb a _ => blk_grown hgb hg (Kd.R_ne hr hgb (Ne.symm a)))
/-- A store into a block of kind t2. -/
theorem KeepT.set {g0 j : Nat} {cs0 : Array Value} {u : Value} (h : KeepT t1 t2 w w1) (h0 : w1.heap[g0]? = some (.cells cs0 t2 (0, 0))) : KeepT t1 t2 w (w1.setCell ⟨g0, j, none⟩ u) :=
 h.then_ (fun _ _ _ hgb _ b => blk_far hgb (p := ⟨g0, j, none⟩) (blk_ne hgb h0 b) u)
/-- A store into a map. -/
theorem KeepT.map {bm : Nat} {es : Array MapEntry} {cl : Nat} (h : KeepT t1 t2 w w1) (hm : w1.heap[bm]? = some (.map es cl)) (hg : w1.grownBy w2 (some bm)) : KeepT t1 t2 w w2 :=
 h.then_ (fun g _ _ hgb _ _ => blk_grown hgb hg (fun e => by injection e with e; subst e; rw [hm] at hgb; cases hgb))
end

end Go.Proofs.Ythgmolenlpagkaa.Pa

namespace Go.Proofs.Ythgmolenlpagkaa.Pa
open Go.RowKit Go.Proofs.YthgmolenlpagkaaW.PrintWords Go.Proofs.YthgmolenlpagkaaW.PrintLast Go.Proofs.YthgmolenlpagkaaW.PrintMore
attribute [local go_sem] max2_int min2_int max_two min_two max_three min_three max_four min_four   -- for this text's walks alone
set_option linter.unusedVariables false
set_option linter.unusedSimpArgs false

/-! ### AUX ringGo -/
def ringGo.T8 : Bool × List (List Nat × List Nat) := (true, [([], []), ([], []), ([1], [1]), ([], []), ([], []), ([4], [4]), ([3, 5], [3, 5]), ([6, 6, 3, 4, 5, 6], [6]), ([0, 2, 7, 0, 1, 2, 3, 4, 5, 6, 7], [0, 2])])
def ringGo.B8 : List Nat := [0, 0, 2, 0, 0, 16, 56, 120, 255]
theorem ringGo.tab8 : rtab .any (opsOf Try.f28 8) = ringGo.T8 := by kernel_rfl
theorem ringGo.bits8 : waitsOk ringGo.T8.2 ringGo.B8 = true := by kernel_rfl
def ringGo.T11 : Bool × List (List Nat × List Nat) := (true, [([], []), ([], []), ([1], [1]), ([], []), ([], []), ([4], [4]), ([3, 5], [3, 5]), ([6, 3, 4, 5, 6], [6]), ([0, 2, 7, 0, 1, 2, 3, 4, 5, 6, 7], [0, 2])])
def ringGo.B11 : List Nat := [0, 0, 2, 0, 0, 16, 56, 120, 255]
theorem ringGo.tab11 : rtab .any (opsOf Try.f28 11) = ringGo.T11 := by kernel_rfl
theorem ringGo.bits11 : waitsOk ringGo.T11.2 ringGo.B11 = true := by kernel_rfl
/-- Whether a bound of a list leaves an event. -/
def usedIn (l : List S36) (ls : List Int) (x : Int) : Bool := ls.any fun i => (rd_T36 l i).f0 == x
/-- The end of a list's last bound. -/
def endOf (l : List S36) (ls : List Int) : Int := (rd_T36 l (rd ls ((ls.length : Int) - 1))).f1
/-- A bound that cannot go on a list. -/
def skipB (l : List S36) (ls : List Int) (i : Int) : Bool := usedIn l ls (rd_T36 l i).f0 || (!ls.isEmpty && (endOf l ls != (rd_T36 l i).f0))
/-- The bounds from i on: the first with which the list goes on to a ring. -/
def ringL (l : List S36) (rec : List Int → Int → Option (Option (List Int))) : Nat → Nat → List Int → Int → Option (Option (List Int))
 | 0, _, _, _ => some none
 | d + 1, i, ls, sum => if skipB l ls (i : Int) = true then ringL l rec d (i + 1) ls sum else (rec (ls ++ [(i : Int)]) (wrap64 (sum + (rd_T36 l (i : Int)).f2))).bind fun q => match q with
  | some x => some (some x)
  | none => ringL l rec d (i + 1) ls sum
/-- A list of bounds goes on to a falling ring of so many. -/
def ringP (l : List S36) (many : Nat) : Nat → List Int → Int → Option (Option (List Int))
 | 0, _, _ => none
 | r + 1, ls, sum => if ls.length = many then some (if (decide (sum < 0) && (endOf l ls == (rd_T36 l (rd ls 0)).f0)) = true then some ls else none) else ringL l (ringP l many r) l.length 0 ls sum
/-- How many entries a search may lay at most. -/
def searchU : Nat → Nat
 | 0 => 0
 | r + 1 => 24 * (searchU r + 2)
theorem usedIn_snoc (l : List S36) (ls : List Int) (i x : Int) : usedIn l (ls ++ [i]) x = (usedIn l ls x || ((rd_T36 l i).f0 == x)) := by
 unfold usedIn
 rw [List.any_append]
 simp
theorem rd_snoc (ls : List Int) (i : Int) : rd (ls ++ [i]) (((ls ++ [i]).length : Int) - 1) = i := by
 unfold rd
 simp [List.getD_eq_getElem?_getD]
set_option maxHeartbeats 16000000 in
set_option maxRecDepth 100000 in
theorem ringGo.calls (gr gm gd gl ge bm mn : Nat) (ev : Int) (A : Option Addr) (c : Nat) (l : List S36) (w0 : World) (hcl : Kd.C k36 w0 A l.length l) (hc : l.length ≤ c) (hl : l.length ≤ 24) (hm1 : 1 ≤ mn) (hm2 : mn ≤ 10) (hf : ∀ i : Int, 0 ≤ i → i < (l.length : Int) → 0 ≤ (rd_T36 l i).f0 ∧ (rd_T36 l i).f0 ≤ 1000) (hgr : w0.heap.size ≤ gr) (hbm : w0.heap.size ≤ bm) (r : Nat) :
  ∀ (ls : List Int) (sum : Int) (n : Nat) (v : Value) (w : World) (q : Option (List Int)) (b : Bool) (ls' : List Int), ls.length ≤ mn → (∀ j : Int, 0 ≤ j → j < (ls.length : Int) → 0 ≤ rd ls j ∧ rd ls j < (l.length : Int)) → n + searchU r ≤ 9000000000000000000 → Below w0.heap.size w0 w →
   w.heap[gr]? = some (.cells #[v] 31 (0, 0)) → Kd.R (Kd.int .i64) 2 w w0.heap.size (fun _ => True) (v) ls → w.heap[gm]? = some (.cells #[.int .i64 (mn : Int)] 3 (0, 0)) → w.heap[gd]? = some (.cells #[.int .i64 ev, .slice A l.length c] 26 (0, 0)) → w.heap[gl]? = some (.cells #[.map (some bm)] 57 (0, 0)) → w.heap[ge]? = some (.cells #[.func (.func 28) #[] #[.pointer (some ⟨gr, 0, none⟩), .pointer (some ⟨gm, 0, none⟩), .pointer (some ⟨gd, 0, none⟩), .pointer (some ⟨gl, 0, none⟩), .pointer (some ⟨ge, 0, none⟩)]] 49 (0, 0)) → MapIs w bm n (usedIn l ls) → ringP l mn r ls sum = some q → q.isSome = b → q.getD ls = ls' →
   Calls Try.prog 28 #[.int .i64 sum, .pointer (some ⟨gr, 0, none⟩), .pointer (some ⟨gm, 0, none⟩), .pointer (some ⟨gd, 0, none⟩), .pointer (some ⟨gl, 0, none⟩), .pointer (some ⟨ge, 0, none⟩)] w fun e w' => e = .returned (.bool b) ∧ Below w0.heap.size w0 w' ∧ KeepT 2 31 w w' ∧ (∃ v', w'.heap[gr]? = some (.cells #[v'] 31 (0, 0)) ∧ Kd.R (Kd.int .i64) 2 w' w0.heap.size (fun _ => True) (v') ls') ∧ (b = false → ∃ n', n' ≤ n + searchU r ∧ MapIs w' bm n' (usedIn l ls)) := by
 have hu := Try.underlying26
 have hu2 := Try.underlying36
 have hu3 := Try.underlying4
 have hu4 := Try.underlying49
 have hu5 := Try.underlying57
 have HCL := Aside0.mk hcl; have HC := Aside0.mk hc; have HL := Aside0.mk hl; have HM1 := Aside0.mk hm1; have HM2 := Aside0.mk hm2; have HF := Aside0.mk hf; have HGE := Aside0.mk (And.intro hgr hbm)
 clear hcl hc hl hm1 hm2 hf hgr hbm
 obtain ⟨i53, hi53, hzz⟩ := Option.map_eq_some_iff.1 info2
 have HI53 := Aside0.mk hi53
 clear hi53 hzz
 induction r with
 | zero => intro ls sum n v w q b ls' _ _ _ _ _ _ _ _ _ _ _ hq; exact absurd hq (by simp [ringP])
 | succ r ih =>
  have IH := Aside0.mk ih
  clear ih
  intro ls sum n v w q b ls' hlm hls hnu hB hg hr hgm hgd hgl hge hmp hq hb hx
  obtain ⟨Ar, cr, rfl⟩ := Kd.R_slice hr
  have hlen : ls.length ≤ 10 := Nat.le_trans hlm HM2.out
  have HB := Aside0.mk hB; have HG0 := Aside0.mk hg; have HR := Aside0.mk hr; have HGM := Aside0.mk hgm; have HGD := Aside0.mk hgd; have HGL := Aside0.mk hgl; have HGEE := Aside0.mk hge; have M0 := Aside0.mk hmp; have HLS := Aside0.mk hls; have HNU := Aside0.mk hnu; have HBB := Aside0.mk hb; have HX := Aside0.mk hx; have HLM := Aside0.mk hlm; have HLEN0 := Aside0.mk hlen
  unfold ringP at hq
  obtain ⟨la, hla⟩ : ∃ z, (ls.length : Int) - 1 = z := ⟨_, rfl⟩
  have hwl : wrap64 la = la := by unfold wrap64; omega
  have hwi : IntKind.i64.wrap la = la := (i64_w _).trans hwl
  have HLA := Aside0.mk hla
  have t1 := blk_cell HG0.out 0
  have t2 := blk_cell HGM.out 0
  have t3 := blk_cell HGD.out 1
  clear hB hg hr hgm hgd hgl hge hmp hls hnu hb hx
  by_cases hlm2 : ls.length = mn
  ·rw [if_pos hlm2] at hq
   have hq := Option.some.inj hq
   have HQ := Aside0.mk hq
   clear hq
   have e1 : ((ls.length : Int) == (mn : Int)) = true := beq_iff_eq.mpr (by omega)
   have hl1 : 0 < ls.length := by have := HM1.out; omega
   have h0 : (0 : Int) ≤ la := by omega
   have h1 : la < (ls.length : Int) := by omega
   have h00 : (0 : Int) < (ls.length : Int) := by omega
   obtain ⟨ad, ea, k1⟩ := Kd.at_int (Kd.R_reads' HR.out).2.2 la h0 h1
   cases ea
   obtain ⟨ad', ea, k0⟩ := Kd.at_int (Kd.R_reads' HR.out).2.2 0 (Int.le_refl _) h00
   cases ea
   obtain ⟨hj0, hj1⟩ := HLS.out la h0 h1
   obtain ⟨hi0, hi1⟩ := HLS.out 0 (Int.le_refl _) h00
   obtain ⟨zj, hzj⟩ : ∃ z, rd ls la = z := ⟨_, rfl⟩
   obtain ⟨zi, hzi⟩ : ∃ z, rd ls 0 = z := ⟨_, rfl⟩
   rw [hzj] at k1 hj0 hj1
   rw [hzi] at k0 hi0 hi1
   have hCl := Kd.C_below HCL.out HB.out
   obtain ⟨ac, ea, b0, b1, b2⟩ := at_T36 hCl zj hj0 hj1
   cases ea
   obtain ⟨ac', ea, d0, d1, d2⟩ := at_T36 hCl zi hi0 hi1
   cases ea
   clear hCl
   have he : (decide (sum < 0) && (endOf l ls == (rd_T36 l (rd ls 0)).f0)) = (decide (sum < 0) && ((rd_T36 l zj).f1 == (rd_T36 l zi).f0)) := by unfold endOf; rw [hla, hzj, hzi]
   have HE := Aside0.mk he
   clear he hzj hzi hlm hlm2 hl1
   have p0 := eq_true h0; have p1 := eq_true h1; have p2 := eq_true hj0; have p3 := eq_true hj1; have p4 := eq_true hi0; have p5 := eq_true hi1; have p6 := eq_true h00
   have h000 : 0 < ls.length := by omega
   have p7 := eq_true h000; have q7 := decide_eq_true h000
   have k0a : w.cell? (ad.add 0) = some (.int .i64 zi) := k0
   have k0b : w.cell? ad = some (.int .i64 zi) := k0
   have q0 := decide_eq_true h0; have q1 := decide_eq_true h1; have q2 := decide_eq_true hj0; have q3 := decide_eq_true hj1; have q4 := decide_eq_true hi0; have q5 := decide_eq_true hi1; have q6 := decide_eq_true h00
   generalize hz1 : (rd_T36 l zj).f1 = z1 at b1 HE
   generalize hz0 : (rd_T36 l zi).f0 = z0 at d0 HE
   clear hz1 hz0
   have hqb : b = (decide (sum < 0) && (z1 == z0)) := by rw [← HBB.out, ← HQ.out, HE.out]; cases (decide (sum < 0) && (z1 == z0)) <;> rfl
   have hql : ls' = ls := by rw [← HX.out, ← HQ.out, HE.out]; cases (decide (sum < 0) && (z1 == z0)) <;> rfl
   have HQB := Aside0.mk hqb
   subst hql
   clear hqb
   by_cases hs : sum < 0
   ·have s1 : decide (sum < 0) = true := decide_eq_true hs
    rw [s1] at HQB
    clear hs
    go_enter Try.func28, Try.ntmps28
    go_wp2_with (fail)
    go_quiet (fail)
    go_wp2
    go_ret
    refine ⟨by rw [HQB.out]; rfl, pw_below_drewN HB.out nq, (KeepT.refl _ _ _).below (pw_below_drewN (Below.refl _ _) nq), ⟨_, blk_drewN HG0.out nq, Kd.R_drewN HR.out nq⟩, fun _ => ⟨n, Nat.le_add_right _ _, M0.out.below (pw_below_drewN (Below.refl _ _) nq)⟩⟩
   ·have s1 : decide (sum < 0) = false := decide_eq_false hs
    rw [s1] at HQB
    clear hs
    go_enter Try.func28, Try.ntmps28
    go_wp2_with (fail)
    go_quiet (fail)
    go_wp2
    go_ret
    refine ⟨by rw [HQB.out]; rfl, pw_below_drewN HB.out nq, (KeepT.refl _ _ _).below (pw_below_drewN (Below.refl _ _) nq), ⟨_, blk_drewN HG0.out nq, Kd.R_drewN HR.out nq⟩, fun _ => ⟨n, Nat.le_add_right _ _, M0.out.below (pw_below_drewN (Below.refl _ _) nq)⟩⟩
  ·rw [if_neg hlm2] at hq
   have HQ := Aside0.mk hq
   clear hq
   have e1 : ((ls.length : Int) == (mn : Int)) = false := beq_eq_false_iff_ne.mpr (by omega)
   have hlt1 : ls.length + 1 ≤ mn := by omega
   have HLT1 := Aside0.mk hlt1
   clear hlm hlm2 hlt1
   go_enter Try.func28, Try.ntmps28
   go_wp2_with (fail)
   clear t1 t2 t3 e1
   go_loopg [43] (l.length + 1) (fun gg s43 wr => ∃ (i n1 : Nat) (v1 : Value), s43 = .int .i64 (i : Int) ∧ Aside0 (i ≤ l.length ∧ l.length - i < gg ∧ n1 ≤ n + i * (searchU r + 2)) ∧ Aside0 (Below w0.heap.size w0 wr) ∧ Aside0 (KeepT 2 31 w wr) ∧ Aside0 (wr.heap[gr]? = some (.cells #[v1] 31 (0, 0))) ∧ Aside0 (Kd.R (Kd.int .i64) 2 wr w0.heap.size (fun _ => True) (v1) ls) ∧ Aside0 (wr.heap[gm]? = some (.cells #[.int .i64 (mn : Int)] 3 (0, 0))) ∧ Aside0 (wr.heap[gd]? = some (.cells #[.int .i64 ev, .slice A l.length c] 26 (0, 0))) ∧ Aside0 (wr.heap[gl]? = some (.cells #[.map (some bm)] 57 (0, 0))) ∧ Aside0 (wr.heap[ge]? = some (.cells #[.func (.func 28) #[] #[.pointer (some ⟨gr, 0, none⟩), .pointer (some ⟨gm, 0, none⟩), .pointer (some ⟨gd, 0, none⟩), .pointer (some ⟨gl, 0, none⟩), .pointer (some ⟨ge, 0, none⟩)]] 49 (0, 0))) ∧ Aside0 (MapIs wr bm n1 (usedIn l ls)) ∧ Aside0 (ringL l (ringP l mn r) (l.length - i) i ls sum = some q))
   case atStart => exact ⟨0, n, _, rfl, ⟨by simp⟩, HB, ⟨KeepT.refl _ _ _⟩, HG0, HR, HGM, HGD, HGL, HGEE, M0, HQ⟩
   case round =>
    clear HB HG0 HR HGM HGD HGL HGEE M0 HQ
    obtain ⟨i, n1, v1, rfl, HI, HB, KT0, HG0, HR, HGM, HGD, HGL, HGEE, M0, HQ⟩ := hrel
    obtain ⟨Ar1, cr1, rfl⟩ := Kd.R_slice HR.out
    generalize hxi : (i : Int) = xi
    have HXI := Aside0.mk hxi
    by_cases hlt : i < l.length
    ·have hlt' : xi < (l.length : Int) := by omega
     have h0' : (0 : Int) ≤ xi := by omega
     obtain ⟨d, hd⟩ : ∃ d, l.length - i = d + 1 := ⟨l.length - i - 1, by omega⟩
     have hq := HQ.out
     rw [hd] at hq
     unfold ringL at hq
     rw [hxi] at hq
     have hCl := Kd.C_below HCL.out HB.out
     obtain ⟨ac, ea, b0, b1, b2⟩ := at_T36 hCl xi h0' hlt'
     cases ea
     have hf0 := HF.out xi h0' hlt'
     obtain ⟨⟨f0, f1, f2⟩, hfx⟩ : ∃ z : S36, z = rd_T36 l xi := ⟨_, rfl⟩
     rw [← hfx] at b0 b1 b2 hf0 hq
     dsimp only at b0 b1 b2 hf0 hq
     have HFX := Aside0.mk hfx; have HHQ := Aside0.mk hq; have HD := Aside0.mk hd; have HLT := Aside0.mk hlt; have HXB := Aside0.mk (And.intro h0' hlt')
     have HF0 : Aside0 ((Lit.int .i64 f0).wf = true) := ⟨by simp only [Lit.wf, IntKind.min, IntKind.max, IntKind.signed, IntKind.bits, Bool.and_eq_true, decide_eq_true_eq, if_true]; omega⟩
     have hlen : l.length ≤ 24 := HL.out
     have c1 : decide ((0 : Int) ≤ xi) = true := decide_eq_true h0'
     have c2 : decide (xi < (l.length : Int)) = true := decide_eq_true hlt'
     have p0 := eq_true h0'; have p1 := eq_true hlt'
     clear hCl hf0 hfx hq hd hlt hxi HQ
     go_wp2_with (fail)
     clear b0 b1 b2 c1 c2 p0 p1 h0' hlt'
     obtain ⟨w1, hwx⟩ : ∃ z, z = wr.alloc (.cells #[.int .i64 f0, .int .i64 f1, .int .i64 f2] 36 (0, 0)) := ⟨_, rfl⟩
     rw [← hwx]
     have hb : Below wr.heap.size wr w1 := by rw [hwx]; exact below_alloc (Below.refl _ _) _
     have HBX : Aside0 (w1.heap[wr.heap.size]? = some (.cells #[.int .i64 f0, .int .i64 f1, .int .i64 f2] 36 (0, 0))) := ⟨by rw [hwx]; simpa using heap_alloc_new wr _⟩
     clear hwx
     replace KT0 := Aside0.mk (KT0.out.below hb); replace HB := Aside0.mk (below_step HB.out hb); replace HG0 := Aside0.mk (blk_below HG0.out hb); replace HR := Aside0.mk (Kd.R_below HR.out hb); replace HGM := Aside0.mk (blk_below HGM.out hb); replace HGD := Aside0.mk (blk_below HGD.out hb); replace HGL := Aside0.mk (blk_below HGL.out hb); replace HGEE := Aside0.mk (blk_below HGEE.out hb); replace M0 := Aside0.mk (M0.out.below hb)
     clear hb
     generalize wr.heap.size = gb at HBX ⊢
     have hlk := M0.out.look f0 HF0.out
     have m0 := blk_cell HBX.out 0
     have m1 := blk_cell HGL.out 0
     have m2 := blk_cell HGD.out 1
     have m3 := blk_cell HG0.out 0
     have hsk : skipB l ls xi = (usedIn l ls f0 || (!ls.isEmpty && (endOf l ls != f0))) := by unfold skipB; rw [← HFX.out]
     have HSK := Aside0.mk hsk
     clear hsk
     generalize hu0 : usedIn l ls f0 = u at hlk HSK
     have HU := Aside0.mk hu0
     clear hu0
     cases u with
     | true =>
      have HSKT : Aside0 (skipB l ls xi = true) := ⟨by rw [HSK.out]; rfl⟩
      clear HSK
      go_quiet (fail)
      have hb := pw_below_drewN (Below.refl w1.heap.size w1) nq; replace KT0 := Aside0.mk (KT0.out.below hb); replace HB := Aside0.mk (below_step HB.out hb); replace HG0 := Aside0.mk (blk_below HG0.out hb); replace HR := Aside0.mk (Kd.R_below HR.out hb); replace HGM := Aside0.mk (blk_below HGM.out hb); replace HGD := Aside0.mk (blk_below HGD.out hb); replace HGL := Aside0.mk (blk_below HGL.out hb); replace HGEE := Aside0.mk (blk_below HGEE.out hb); replace HBX := Aside0.mk (blk_below HBX.out hb); replace M0 := Aside0.mk (M0.out.below hb); clear hb hlk m0 m1 m2 m3; generalize w1.drewN nq = w1 at KT0 HB HG0 HR HGM HGD HGL HGEE HBX M0 ⊢
      have hq := HHQ.out
      rw [HSKT.out, if_pos rfl] at hq
      have HQ2 := Aside0.mk hq
      clear hq HHQ HSKT
      go_wp2
      have hxi := HXI.out
      have hd := HD.out
      have hi := HI.out
      have hsu : (i + 1) * (searchU r + 2) = i * (searchU r + 2) + (searchU r + 2) := Nat.succ_mul _ _
      have hlen : l.length ≤ 24 := HL.out
      go_roundg (l.length - i)
      case measure => omega
      case rel => exact ⟨i + 1, n1, _, by first | (rw [show wrap64 (xi + 1) = ((i + 1 : Nat) : Int) from by unfold wrap64; omega]) | (rw [i64_w, show wrap64 (xi + 1) = ((i + 1 : Nat) : Int) from by unfold wrap64; omega]) | (rw [show xi + 1 = ((i + 1 : Nat) : Int) from by omega]), ⟨by omega⟩, HB, KT0, HG0, HR, HGM, HGD, HGL, HGEE, M0, ⟨by rw [show l.length - (i + 1) = d by omega]; exact HQ2.out⟩⟩
     | false =>
      by_cases hla0 : ls = []
      ·have g1 : decide (la ≥ 0) = false := decide_eq_false (by have h := HLA.out; rw [hla0] at h; simp at h; omega)
       have g2 : decide (0 ≤ la) = false := g1
       have HSKT : Aside0 (skipB l ls xi = false) := ⟨by rw [HSK.out, hla0]; rfl⟩
       clear HSK hla0
       go_quiet (fail)
       have hb := pw_below_drewN (Below.refl w1.heap.size w1) nq; replace KT0 := Aside0.mk (KT0.out.below hb); replace HB := Aside0.mk (below_step HB.out hb); replace HG0 := Aside0.mk (blk_below HG0.out hb); replace HR := Aside0.mk (Kd.R_below HR.out hb); replace HGM := Aside0.mk (blk_below HGM.out hb); replace HGD := Aside0.mk (blk_below HGD.out hb); replace HGL := Aside0.mk (blk_below HGL.out hb); replace HGEE := Aside0.mk (blk_below HGEE.out hb); replace HBX := Aside0.mk (blk_below HBX.out hb); replace M0 := Aside0.mk (M0.out.below hb); clear hb hlk m0 m1 m2 m3; generalize w1.drewN nq = w1 at KT0 HB HG0 HR HGM HGD HGL HGEE HBX M0 ⊢
       have hq := HHQ.out
       rw [HSKT.out, if_neg (by decide)] at hq
       obtain ⟨q', hq', hq⟩ := Option.bind_eq_some_iff.mp hq
       have HQ1 := Aside0.mk hq'; have HQ2 := Aside0.mk hq
       clear hq hq' HHQ HSKT
       go_wp2_with (fail)
       replace HB := Aside0.mk (below_drew1 HB.out); replace HG0 := Aside0.mk (blk_drew HG0.out); have RK := Aside0.mk (Kd.R_drew HR.out); replace HGL := Aside0.mk (blk_drew HGL.out); replace HBX := Aside0.mk (blk_drew HBX.out); replace M0 := Aside0.mk (M0.out.below (below_drew1 (Below.refl _ _)))
       have HGM1 : Aside0 (w1.drew.heap[gm]? = some (.cells #[.int .i64 (mn : Int)] 3 (0, 0))) := ⟨blk_drew HGM.out⟩; have HGD1 : Aside0 (w1.drew.heap[gd]? = some (.cells #[.int .i64 ev, .slice (some ac) l.length c] 26 (0, 0))) := ⟨blk_drew HGD.out⟩; have HGE1 : Aside0 (w1.drew.heap[ge]? = some (.cells #[.func (.func 28) #[] #[.pointer (some ⟨gr, 0, none⟩), .pointer (some ⟨gm, 0, none⟩), .pointer (some ⟨gd, 0, none⟩), .pointer (some ⟨gl, 0, none⟩), .pointer (some ⟨ge, 0, none⟩)]] 49 (0, 0))) := ⟨blk_drew HGEE.out⟩; have KT1 : Aside0 (KeepT 2 31 w w1.drew) := ⟨KT0.out.below (below_drew1 (Below.refl _ _))⟩
       have HN : Aside0 (n1 < 9223372036854775807) := ⟨by have h1 := HI.out; have h2 := HNU.out; have h3 : searchU (r + 1) = 24 * (searchU r + 2) := rfl; have h4 : i * (searchU r + 2) ≤ 24 * (searchU r + 2) := Nat.mul_le_mul_right _ (Nat.le_trans h1.1 HL.out); omega⟩
       have HLEN : Aside0 ((ls.length + 1) * 8 ≤ 140737488355328) := ⟨by have := HLEN0.out; omega⟩
       clear HR KT0 HGM HGD HGEE
       refine start_ (n := 9) (S := fun w' => True) (ds := []) #[false, false, false, false, false, false, false, false, false] (by kernel_rfl) rfl rfl trivial (fun hHeld => ?_)
       refine with_tabW ringGo.tab8 ringGo.bits8 (fun HT_ HW_ => ?_)
       generalize w1.drew = wk at HB HGL HBX HG0 M0 RK HGM1 HGD1 HGE1 KT1 hHeld ⊢
       have HBK := HB; have HGLK := HGL; have HBXK := HBX; have HGK := HG0; have MK := M0
       have KT := trivial; have W0 := trivial
       refine pure_ (i := 1) (N := some 71) (v := ?_) (a' := ?_) #[false, true, false, false, false, false, false, false, false] rfl rfl (any_of HT_.out (by kernel_rfl)) (fun _ _ _ h => h) (Or.inl ⟨by rfl, ?_⟩) ?_ ?_
       rotate_left
       ·intro w'
        go_simp
        with_reducible rfl
       rotate_left
       ·simp only [Act.put, List.setIfInBounds_toArray, List.set_cons_zero, List.set_cons_succ, i64_w, i32_w]
        rfl
       refine pure_ (i := 4) (N := some 74) (v := ?_) (a' := ?_) #[false, true, false, false, true, false, false, false, false] rfl rfl (any_of HT_.out (by kernel_rfl)) (fun _ _ _ h => h) (Or.inl ⟨by rfl, ?_⟩) ?_ ?_
       rotate_left
       ·intro w'
        go_simp
        with_reducible rfl
       rotate_left
       ·simp only [Act.put, List.setIfInBounds_toArray, List.set_cons_zero, List.set_cons_succ, i64_w, i32_w]
        rfl
       refine inv_at [0, 2, 3, 5, 6, 7, 8] (fun a0_ b a w' => ∃ (g5 : Nat) (A2 : Option Addr) (c2 : Nat) (m5_ : Value) (m6_ : Value), a = putSel a0_ b [(0, 70, .map (some bm)), (2, 72, .int .i64 f0), (3, 73, .slice Ar1 ls.length cr1), (5, 75, m5_), (6, 76, m6_)] ∧ (Below w0.heap.size w0 w') ∧ (KeepT 2 31 wk w') ∧ (w'.heap[gl]? = some (.cells #[.map (some bm)] 57 (0, 0))) ∧ (w'.heap[gb]? = some (.cells #[.int .i64 f0, .int .i64 f1, .int .i64 f2] 36 (0, 0))) ∧ (b 7 = false → w'.heap[gr]? = some (.cells #[.slice Ar1 ls.length cr1] 31 (0, 0))) ∧ (b 7 = true → w'.heap[gr]? = some (.cells #[.slice A2 (ls ++ [xi]).length c2] 31 (0, 0))) ∧ (b 8 = false → MapIs w' bm n1 (usedIn l ls)) ∧ (b 8 = true → MapIs w' bm (n1 + 1) (fun y => if y = f0 then true else usedIn l ls y)) ∧ (b 5 = false → w' = wk) ∧ (b 5 = true → b 6 = false → w' = wk.alloc (.cells #[.int .i64 xi] 2)) ∧ (b 6 = true → Kd.R (Kd.int .i64) 2 w' w0.heap.size (fun _ => True) (.slice A2 (ls ++ [xi]).length c2) (ls ++ [xi])) ∧ (b 5 = true → g5 = wk.heap.size) ∧ (b 5 = true → (m5_ : Value) = .slice (some ⟨g5, 0, none⟩) 1 1) ∧ (b 6 = true → (m6_ : Value) = .slice A2 (ls ++ [xi]).length c2)) HT_.out HW_.out (by kernel_rfl) (by kernel_rfl) ?_ ?_ ?_
       ·exact ⟨0, none, 0, .bool false, .bool false, by simp only [putSel, Bool.false_eq_true, if_false], HB.out, KeepT.refl _ _ _, HGL.out, HBX.out, fun _ => HG0.out, fun h_ => absurd h_ (by decide), fun _ => M0.out, fun h_ => absurd h_ (by decide), fun _ => rfl, fun h_ => absurd h_ (by decide), fun h_ => absurd h_ (by decide), fun h_ => absurd h_ (by decide), fun h_ => absurd h_ (by decide), fun h_ => absurd h_ (by decide)⟩
       ·skip
        clear HB HBX HG0 HGL KT M0 W0
        refine steps_cons ?_ ?_
        ·rintro b a w' ⟨g5, A2, c2, m5_, m6_, ha, Q_HB, Q_KT, Q_HGL, Q_HBX, Q_HG0, Q_HG1, Q_M0, Q_M1, Q_W0, Q_W5, Q_R1, Q_G5, Q_X5_, Q_X6_⟩ hb_ hon hoff
         refine ⟨_, rfl, fun K hK => ?_⟩
         have e4 : a.tmps[4]? = some (.pointer (some ⟨gl, 0, none⟩)) := by rw [ha]; exact (putSel_off rfl).trans rfl
         replace ha := Aside0.mk ha
         have HB := Aside0.mk Q_HB
         have KT := Aside0.mk Q_KT
         have HGL := Aside0.mk Q_HGL
         have HBX := Aside0.mk Q_HBX
         have M0 := Aside0.mk (Q_M0 (hoff 8 (by kernel_rfl)))
         have hcgl0_ : w'.cell? ⟨gl, 0, none⟩ = some (.map (some bm)) := (blk_cell HGL.out 0).trans rfl
         refine value_ (w1 := w') (v := .map (some bm)) (by rfl) rfl ?_ ?_
         ·go_simp
          (try simp only [i64_w])
          try rfl
         refine hK.out _ _ ⟨g5, A2, c2, m5_, m6_, (by rw [ha.out]; exact putSel_upk 0 hb_ rfl rfl rfl), Q_HB, Q_KT, Q_HGL, Q_HBX, Q_HG0, Q_HG1, Q_M0, fun h0_ => absurd ((hoff 8 (by kernel_rfl)).symm.trans h0_) (by decide), Q_W0, Q_W5, Q_R1, Q_G5, Q_X5_, Q_X6_⟩
        refine steps_cons ?_ ?_
        ·rintro b a w' ⟨g5, A2, c2, m5_, m6_, ha, Q_HB, Q_KT, Q_HGL, Q_HBX, Q_HG0, Q_HG1, Q_M0, Q_M1, Q_W0, Q_W5, Q_R1, Q_G5, Q_X5_, Q_X6_⟩ hb_ hon hoff
         refine ⟨_, rfl, fun K hK => ?_⟩
         have e71 : a.tmps[71]? = some (.pointer (some ⟨gb, 0, none⟩)) := by rw [ha]; exact (putSel_off rfl).trans rfl
         replace ha := Aside0.mk ha
         have HB := Aside0.mk Q_HB
         have KT := Aside0.mk Q_KT
         have HGL := Aside0.mk Q_HGL
         have HBX := Aside0.mk Q_HBX
         have M0 := Aside0.mk (Q_M0 (hoff 8 (by kernel_rfl)))
         have hcgb0_ : w'.cell? ⟨gb, 0, none⟩ = some (.int .i64 f0) := (blk_cell HBX.out 0).trans rfl
         refine value_ (w1 := w') (v := .int .i64 f0) (by rfl) rfl ?_ ?_
         ·go_simp
          (try simp only [i64_w])
          try rfl
         refine hK.out _ _ ⟨g5, A2, c2, m5_, m6_, (by rw [ha.out]; exact putSel_upk 1 hb_ rfl rfl rfl), Q_HB, Q_KT, Q_HGL, Q_HBX, Q_HG0, Q_HG1, Q_M0, fun h0_ => absurd ((hoff 8 (by kernel_rfl)).symm.trans h0_) (by decide), Q_W0, Q_W5, Q_R1, Q_G5, Q_X5_, Q_X6_⟩
        refine steps_cons ?_ ?_
        ·rintro b a w' ⟨g5, A2, c2, m5_, m6_, ha, Q_HB, Q_KT, Q_HGL, Q_HBX, Q_HG0, Q_HG1, Q_M0, Q_M1, Q_W0, Q_W5, Q_R1, Q_G5, Q_X5_, Q_X6_⟩ hb_ hon hoff
         refine ⟨_, rfl, fun K hK => ?_⟩
         have e1 : a.tmps[1]? = some (.pointer (some ⟨gr, 0, none⟩)) := by rw [ha]; exact (putSel_off rfl).trans rfl
         replace ha := Aside0.mk ha
         have HB := Aside0.mk Q_HB
         have KT := Aside0.mk Q_KT
         have HGL := Aside0.mk Q_HGL
         have HBX := Aside0.mk Q_HBX
         have HG0 := Aside0.mk (Q_HG0 (hoff 7 (by kernel_rfl)))
         have M0 := Aside0.mk (Q_M0 (hoff 8 (by kernel_rfl)))
         have hcgr0_ : w'.cell? ⟨gr, 0, none⟩ = some (.slice Ar1 ls.length cr1) := (blk_cell HG0.out 0).trans rfl
         refine value_ (w1 := w') (v := .slice Ar1 ls.length cr1) (by rfl) rfl ?_ ?_
         ·go_simp
          (try simp only [i64_w])
          try rfl
         refine hK.out _ _ ⟨g5, A2, c2, m5_, m6_, (by rw [ha.out]; exact putSel_upk 2 hb_ rfl rfl rfl), Q_HB, Q_KT, Q_HGL, Q_HBX, Q_HG0, fun h0_ => absurd ((hoff 7 (by kernel_rfl)).symm.trans h0_) (by decide), Q_M0, fun h0_ => absurd ((hoff 8 (by kernel_rfl)).symm.trans h0_) (by decide), Q_W0, Q_W5, fun h0_ => absurd ((hoff 6 (by kernel_rfl)).symm.trans h0_) (by decide), Q_G5, Q_X5_, fun h0_ => absurd ((hoff 6 (by kernel_rfl)).symm.trans h0_) (by decide)⟩
        refine steps_cons ?_ ?_
        ·rintro b a w' ⟨g5, A2, c2, m5_, m6_, ha, Q_HB, Q_KT, Q_HGL, Q_HBX, Q_HG0, Q_HG1, Q_M0, Q_M1, Q_W0, Q_W5, Q_R1, Q_G5, Q_X5_, Q_X6_⟩ hb_ hon hoff
         refine ⟨_, rfl, fun K hK => ?_⟩
         have e74 : a.tmps[74]? = some (.int .i64 xi) := by rw [ha]; exact (putSel_off rfl).trans rfl
         replace ha := Aside0.mk ha
         have HB := Aside0.mk Q_HB
         have KT := Aside0.mk Q_KT
         have HGL := Aside0.mk Q_HGL
         have HBX := Aside0.mk Q_HBX
         have HG0 := Aside0.mk (Q_HG0 (hoff 7 (by kernel_rfl)))
         have M0 := Aside0.mk (Q_M0 (hoff 8 (by kernel_rfl)))
         have W0 := Aside0.mk (Q_W0 hb_)
         refine event_step (by rfl) (w1 := w'.alloc (.cells #[.int .i64 xi] 2)) (v := .slice (some ⟨w'.heap.size, 0, none⟩) 1 1) ?_ ?_
         ·first | (go_simp; done) | (go_simp; rfl)
         have hb : Below w'.heap.size w' (w'.alloc (.cells #[.int .i64 xi] 2)) := below_alloc (Below.refl _ _) _
         refine hK.out _ _ ⟨w'.heap.size, A2, c2, (.slice (some ⟨w'.heap.size, 0, none⟩) 1 1), m6_, (by rw [ha.out]; exact putSel_upk 3 hb_ rfl rfl rfl), below_step HB.out hb, KT.out.below hb, blk_below HGL.out hb, blk_below HBX.out hb, fun _ => blk_below HG0.out hb, fun h0_ => absurd ((hoff 7 (by kernel_rfl)).symm.trans h0_) (by decide), fun _ => M0.out.below hb, fun h0_ => absurd ((hoff 8 (by kernel_rfl)).symm.trans h0_) (by decide), fun h0_ => absurd ((up_self b 5).symm.trans h0_) (by decide), fun _ _ => by rw [W0.out], fun h0_ => absurd ((hoff 6 (by kernel_rfl)).symm.trans h0_) (by decide), fun _ => by rw [W0.out], fun _ => rfl, fun h0_ => absurd ((hoff 6 (by kernel_rfl)).symm.trans h0_) (by decide)⟩
        refine steps_cons ?_ ?_
        ·rintro b a w' ⟨g5, A2, c2, m5_, m6_, ha, Q_HB, Q_KT, Q_HGL, Q_HBX, Q_HG0, Q_HG1, Q_M0, Q_M1, Q_W0, Q_W5, Q_R1, Q_G5, Q_X5_, Q_X6_⟩ hb_ hon hoff
         refine ⟨_, rfl, fun K hK => ?_⟩
         have e73 : a.tmps[73]? = some (.slice Ar1 ls.length cr1) := by rw [ha]; exact putSel_on (e := (3, 73, .slice Ar1 ls.length cr1)) 2 rfl rfl (hon 3 (by kernel_rfl)) rfl
         have e75 : a.tmps[75]? = some (m5_) := by rw [ha]; exact putSel_on (e := (5, 75, m5_)) 3 rfl rfl (hon 5 (by kernel_rfl)) rfl
         rw [Q_X5_ (hon 5 (by kernel_rfl))] at e75
         replace ha := Aside0.mk ha
         have HB := Aside0.mk Q_HB
         have KT := Aside0.mk Q_KT
         have HGL := Aside0.mk Q_HGL
         have HBX := Aside0.mk Q_HBX
         have HG0 := Aside0.mk (Q_HG0 (hoff 7 (by kernel_rfl)))
         have M0 := Aside0.mk (Q_M0 (hoff 8 (by kernel_rfl)))
         have W5 := Aside0.mk (Q_W5 (hon 5 (by kernel_rfl)) hb_)
         have G5 := Aside0.mk (Q_G5 (hon 5 (by kernel_rfl)))
         have hw_ := W5.out
         subst hw_
         rw [G5.out] at e75
         refine Kd.R_append_step (Kd.int .i64) (w0 := w0) w0.heap.size (by rfl) (.tmp 73) (.tmp 75) 31 2 (.int .i64 0) 8 rfl Try.underlying31 info2 rfl (by decide) (by omega) (.slice Ar1 ls.length cr1) ls xi [.int .i64 xi] (fun _ => True) (fun _ => False) (by first | (simp only [List.map_toArray, List.map_cons, List.map_nil, Act.eval, Array.getD_eq_getD_getElem?, Option.getD_some, e73, e75]; done) | (simp only [List.map_toArray, List.map_cons, List.map_nil, Act.eval, Array.getD_eq_getD_getElem?, Option.getD_some, e73, e75]; rfl)) (by first | (simp only [List.map_toArray, List.map_cons, List.map_nil, Act.eval, Array.getD_eq_getD_getElem?, Option.getD_some, e73, e75]; done) | (simp only [List.map_toArray, List.map_cons, List.map_nil, Act.eval, Array.getD_eq_getD_getElem?, Option.getD_some, e73, e75]; rfl)) rfl (fun _ hk => hk.elim) (fun _ _ => trivial) RK.out HBK.out (below_size HBK.out) HLEN.out ?_
         intro v1 w5 ho hb hg hat
         obtain ⟨A2', c2', rfl⟩ := Kd.R_slice ho
         refine hK.out _ _ ⟨g5, A2', c2', m5_, (.slice A2' (ls ++ [xi]).length c2'), (by rw [ha.out]; exact putSel_upk 4 hb_ rfl rfl rfl), hb, KeepT.grown (KeepT.refl _ _ wk) RK.out hg, blk_grown HGLK.out hg (Kd.R_ne RK.out HGLK.out (by decide)), blk_grown HBXK.out hg (Kd.R_ne RK.out HBXK.out (by decide)), fun _ => blk_grown HGK.out hg (Kd.R_ne RK.out HGK.out (by decide)), fun h0_ => absurd ((hoff 7 (by kernel_rfl)).symm.trans h0_) (by decide), fun _ => MapIs.over MK.out RK.out hg, fun h0_ => absurd ((hoff 8 (by kernel_rfl)).symm.trans h0_) (by decide), fun h0_ => absurd ((hon 5 (by kernel_rfl)).symm.trans h0_) (by decide), fun _ h1_ => absurd ((up_self b 6).symm.trans h1_) (by decide), fun _ => ho, Q_G5, Q_X5_, fun _ => rfl⟩
        refine steps_cons ?_ ?_
        ·rintro b a w' ⟨g5, A2, c2, m5_, m6_, ha, Q_HB, Q_KT, Q_HGL, Q_HBX, Q_HG0, Q_HG1, Q_M0, Q_M1, Q_W0, Q_W5, Q_R1, Q_G5, Q_X5_, Q_X6_⟩ hb_ hon hoff
         refine ⟨_, rfl, fun K hK => ?_⟩
         have e1 : a.tmps[1]? = some (.pointer (some ⟨gr, 0, none⟩)) := by rw [ha]; exact (putSel_off rfl).trans rfl
         have e76 : a.tmps[76]? = some (m6_) := by rw [ha]; exact putSel_on (e := (6, 76, m6_)) 4 rfl rfl (hon 6 (by kernel_rfl)) rfl
         rw [Q_X6_ (hon 6 (by kernel_rfl))] at e76
         replace ha := Aside0.mk ha
         have HB := Aside0.mk Q_HB
         have KT := Aside0.mk Q_KT
         have HGL := Aside0.mk Q_HGL
         have HBX := Aside0.mk Q_HBX
         have HG0 := Aside0.mk (Q_HG0 hb_)
         have M0 := Aside0.mk (Q_M0 (hoff 8 (by kernel_rfl)))
         have R1 := Aside0.mk (Q_R1 (hon 6 (by kernel_rfl)))
         have G5 := Aside0.mk (Q_G5 (hon 5 (by kernel_rfl)))
         have hz_ := blk_cell HG0.out 0
         have hf_ := blk_frozen HG0.out 0
         refine skip_ (w1 := w'.setCell ⟨gr, 0, none⟩ (.slice A2 (ls ++ [xi]).length c2)) (by rfl) rfl ?_ ?_
         ·go_simp
         refine hK.out _ _ ⟨g5, A2, c2, m5_, m6_, (by rw [ha.out]; exact putSel_none (v := undef) rfl), below_set HB.out HGE.out.1, KeepT.set KT.out HG0.out, blk_far HGL.out (p := ⟨gr, 0, none⟩) (blk_ne HGL.out HG0.out (by decide)) (.slice A2 (ls ++ [xi]).length c2), blk_far HBX.out (p := ⟨gr, 0, none⟩) (blk_ne HBX.out HG0.out (by decide)) (.slice A2 (ls ++ [xi]).length c2), fun h0_ => absurd ((up_self b 7).symm.trans h0_) (by decide), fun _ => blk_put HG0.out 0 (.slice A2 (ls ++ [xi]).length c2) rfl, fun _ => MapIs.set M0.out HG0.out, fun h0_ => absurd ((hoff 8 (by kernel_rfl)).symm.trans h0_) (by decide), fun h0_ => absurd ((hon 5 (by kernel_rfl)).symm.trans h0_) (by decide), fun _ h1_ => absurd ((hon 6 (by kernel_rfl)).symm.trans h1_) (by decide), fun _ => Kd.R_set R1.out HG0.out (by intro q hq; have hq : q ∈ [2] := hq; simp at hq; omega) 0 (.slice A2 (ls ++ [xi]).length c2), Q_G5, Q_X5_, Q_X6_⟩
        refine steps_cons ?_ ?_
        ·rintro b a w' ⟨g5, A2, c2, m5_, m6_, ha, Q_HB, Q_KT, Q_HGL, Q_HBX, Q_HG0, Q_HG1, Q_M0, Q_M1, Q_W0, Q_W5, Q_R1, Q_G5, Q_X5_, Q_X6_⟩ hb_ hon hoff
         refine ⟨_, rfl, fun K hK => ?_⟩
         have e70 : a.tmps[70]? = some (.map (some bm)) := by rw [ha]; exact putSel_on (e := (0, 70, .map (some bm))) 0 rfl rfl (hon 0 (by kernel_rfl)) rfl
         have e72 : a.tmps[72]? = some (.int .i64 f0) := by rw [ha]; exact putSel_on (e := (2, 72, .int .i64 f0)) 1 rfl rfl (hon 2 (by kernel_rfl)) rfl
         replace ha := Aside0.mk ha
         have HB := Aside0.mk Q_HB
         have KT := Aside0.mk Q_KT
         have HGL := Aside0.mk Q_HGL
         have HBX := Aside0.mk Q_HBX
         have HG1 := Aside0.mk (Q_HG1 (hon 7 (by kernel_rfl)))
         have M0 := Aside0.mk (Q_M0 hb_)
         have R1 := Aside0.mk (Q_R1 (hon 6 (by kernel_rfl)))
         have G5 := Aside0.mk (Q_G5 (hon 5 (by kernel_rfl)))
         obtain ⟨w9, hr9, hm9, hg9⟩ := M0.out.put HN.out f0 HF0.out true
         obtain ⟨es9, cl9, hb9⟩ := M0.out.block
         refine skip_ (w1 := w9) (by rfl) rfl ?_ ?_
         ·first | (go_simp; done) | (go_simp; rfl)
         refine hK.out _ _ ⟨g5, A2, c2, m5_, m6_, (by rw [ha.out]; exact putSel_none (v := undef) rfl), Below.grown HB.out hg9 (below_size HB.out) (fun j hj => by cases hj; exact HGE.out.2), KeepT.map KT.out hb9 hg9, blk_grown HGL.out hg9 (M0.out.ne HGL.out), blk_grown HBX.out hg9 (M0.out.ne HBX.out), fun h0_ => absurd ((hon 7 (by kernel_rfl)).symm.trans h0_) (by decide), fun _ => blk_grown HG1.out hg9 (M0.out.ne HG1.out), fun h0_ => absurd ((up_self b 8).symm.trans h0_) (by decide), fun _ => hm9, fun h0_ => absurd ((hon 5 (by kernel_rfl)).symm.trans h0_) (by decide), fun _ h1_ => absurd ((hon 6 (by kernel_rfl)).symm.trans h1_) (by decide), fun _ => M0.out.row R1.out hg9, Q_G5, Q_X5_, Q_X6_⟩
        exact steps_nil
       rintro b a w2 hall ⟨g5, A2, c2, m5_, m6_, ha, Q_HB, Q_KT, Q_HGL, Q_HBX, Q_HG0, Q_HG1, Q_M0, Q_M1, Q_W0, Q_W5, Q_R1, Q_G5, Q_X5_, Q_X6_⟩
       clear HB HBX HG0 HGL KT M0 W0
       have hb0_ := hall 0 (by kernel_rfl)
       have hb2_ := hall 2 (by kernel_rfl)
       have hb3_ := hall 3 (by kernel_rfl)
       have hb5_ := hall 5 (by kernel_rfl)
       have hb6_ := hall 6 (by kernel_rfl)
       have hb7_ := hall 7 (by kernel_rfl)
       have hb8_ := hall 8 (by kernel_rfl)
       subst ha
       obtain rfl := Q_X5_ hb5_
       obtain rfl := Q_X6_ hb6_
       simp only [putSel, hb0_, hb2_, hb3_, hb5_, hb6_, hb7_, hb8_, if_true, Act.put, List.setIfInBounds_toArray, List.set_cons_zero, List.set_cons_succ]
       have HB := Aside0.mk Q_HB
       clear Q_HB
       have KT := Aside0.mk Q_KT
       clear Q_KT
       have HGL := Aside0.mk Q_HGL
       clear Q_HGL
       have HBX := Aside0.mk Q_HBX
       clear Q_HBX
       clear Q_HG0
       have HG1 := Aside0.mk (Q_HG1 hb7_)
       clear Q_HG1
       clear Q_M0
       have M1 := Aside0.mk (Q_M1 hb8_)
       clear Q_M1
       clear Q_W0
       clear Q_W5
       have R1 := Aside0.mk (Q_R1 hb6_)
       clear Q_R1
       have G5 := Aside0.mk (Q_G5 hb5_)
       clear Q_G5
       clear hall hb0_ hb2_ hb3_ hb5_ hb6_ hb7_ hb8_
       have HGM2 : Aside0 (w2.heap[gm]? = some (.cells #[.int .i64 (mn : Int)] 3 (0, 0))) := ⟨KT.out _ _ _ HGM1.out (by decide) (by decide)⟩; have HGD2 : Aside0 (w2.heap[gd]? = some (.cells #[.int .i64 ev, .slice (some ac) l.length c] 26 (0, 0))) := ⟨KT.out _ _ _ HGD1.out (by decide) (by decide)⟩; have HGE2 : Aside0 (w2.heap[ge]? = some (.cells #[.func (.func 28) #[] #[.pointer (some ⟨gr, 0, none⟩), .pointer (some ⟨gm, 0, none⟩), .pointer (some ⟨gd, 0, none⟩), .pointer (some ⟨gl, 0, none⟩), .pointer (some ⟨ge, 0, none⟩)]] 49 (0, 0))) := ⟨KT.out _ _ _ HGE1.out (by decide) (by decide)⟩; have KT2 : Aside0 (KeepT 2 31 w w2) := ⟨KT1.out.then_ KT.out⟩
       clear HGM1 HGD1 HGE1 KT1 KT RK
       have M2 : Aside0 (MapIs w2 bm (n1 + 1) (usedIn l (ls ++ [xi]))) := ⟨M1.out.tells (Nat.le_refl _) (fun x _ => (Classical.em (x = f0)).elim (fun e => by rw [usedIn_snoc, ← HFX.out, if_pos e, e]; simp) (fun e => by rw [usedIn_snoc, ← HFX.out, if_neg e, beq_eq_false_iff_ne.mpr (Ne.symm e), Bool.or_false]))⟩
       clear M1
       have HLS2 : Aside0 (∀ j : Int, 0 ≤ j → j < ((ls ++ [xi]).length : Int) → 0 ≤ rd (ls ++ [xi]) j ∧ rd (ls ++ [xi]) j < (l.length : Int)) := ⟨fun j h0 h1 => by
         by_cases hj : j < (ls.length : Int)
         ·have e : rd (ls ++ [xi]) j = rd ls j := by unfold rd; rw [List.getD_eq_getElem?_getD, List.getD_eq_getElem?_getD, List.getElem?_append_left (by omega)]
          rw [e]; exact HLS.out j h0 hj
         ·have e1 : j = ((ls ++ [xi]).length : Int) - 1 := by simp at h1 ⊢; omega
          rw [e1, rd_snoc]; exact HXB.out⟩
       have m0 := blk_cell HGE2.out 0
       have m1 := blk_cell HBX.out 2
       cases q' with
       | some xs =>
        dsimp only at HQ2
        go_wp2_with (go_at_call 28; refine (IH.out (ls ++ [xi]) (wrap64 (sum + f2)) (n1 + 1) _ _ _ true xs (by have := HLT1.out; simp; omega) HLS2.out (by have h1 := HI.out; have h2 := HNU.out; have h3 : searchU (r + 1) = 24 * (searchU r + 2) := rfl; have h4 : i * (searchU r + 2) + (searchU r + 2) ≤ 24 * (searchU r + 2) := (by rw [← Nat.succ_mul]; exact Nat.mul_le_mul_right _ (Nat.le_trans HLT.out HL.out)); omega) HB.out HG1.out R1.out HGM2.out HGD2.out HGL.out HGE2.out M2.out HQ1.out rfl rfl).mono ?_; rintro e w3 ⟨rfl, hb3, hk3, ⟨v3, hg3, hr3⟩, hm3⟩; have HB3 := Aside0.mk hb3; have KT3 := Aside0.mk (KT2.out.then_ hk3); have HG3 := Aside0.mk hg3; have HR3 := Aside0.mk hr3; have HM3 := Aside0.mk hm3; have HGM3 := Aside0.mk (hk3 _ _ _ HGM2.out (by decide) (by decide)); have HGD3 := Aside0.mk (hk3 _ _ _ HGD2.out (by decide) (by decide)); have HGL3 := Aside0.mk (hk3 _ _ _ HGL.out (by decide) (by decide)); have HGE3 := Aside0.mk (hk3 _ _ _ HGE2.out (by decide) (by decide)); have HBX3 := Aside0.mk (hk3 _ _ _ HBX.out (by decide) (by decide)); clear hb3 hk3 hg3 hr3 hm3 m0 m1)
        go_ret
        obtain rfl := Option.some.inj HQ2.out
        have hb := HBB.out
        have hx := HX.out
        dsimp only [Option.isSome, Option.getD] at hb hx
        subst hb
        subst hx
        exact ⟨rfl, HB3.out, KT3.out, ⟨_, HG3.out, HR3.out⟩, fun h => by cases h⟩
       | none =>
        dsimp only at HQ2
        go_wp2_with (go_at_call 28; refine (IH.out (ls ++ [xi]) (wrap64 (sum + f2)) (n1 + 1) _ _ _ false (ls ++ [xi]) (by have := HLT1.out; simp; omega) HLS2.out (by have h1 := HI.out; have h2 := HNU.out; have h3 : searchU (r + 1) = 24 * (searchU r + 2) := rfl; have h4 : i * (searchU r + 2) + (searchU r + 2) ≤ 24 * (searchU r + 2) := (by rw [← Nat.succ_mul]; exact Nat.mul_le_mul_right _ (Nat.le_trans HLT.out HL.out)); omega) HB.out HG1.out R1.out HGM2.out HGD2.out HGL.out HGE2.out M2.out HQ1.out rfl rfl).mono ?_; rintro e w3 ⟨rfl, hb3, hk3, ⟨v3, hg3, hr3⟩, hm3⟩; have HB3 := Aside0.mk hb3; have KT3 := Aside0.mk (KT2.out.then_ hk3); have HG3 := Aside0.mk hg3; have HR3 := Aside0.mk hr3; have HM3 := Aside0.mk hm3; have HGM3 := Aside0.mk (hk3 _ _ _ HGM2.out (by decide) (by decide)); have HGD3 := Aside0.mk (hk3 _ _ _ HGD2.out (by decide) (by decide)); have HGL3 := Aside0.mk (hk3 _ _ _ HGL.out (by decide) (by decide)); have HGE3 := Aside0.mk (hk3 _ _ _ HGE2.out (by decide) (by decide)); have HBX3 := Aside0.mk (hk3 _ _ _ HBX.out (by decide) (by decide)); clear hb3 hk3 hg3 hr3 hm3 m0 m1)
        clear HB HG1 R1 HGM2 HGD2 HGE2 KT2 M2 HGL HBX
        obtain ⟨A3, c3, rfl⟩ := Kd.R_slice HR3.out
        obtain ⟨n2, hn2, hm2⟩ := HM3.out (by simp)
        have HN2 := Aside0.mk hn2
        have hla := HLA.out
        have hl10 := HLEN0.out
        have HSUM : Aside0 (IntKind.i64.wrap (la + 1) = la + 1) := ⟨by rw [i64_w]; unfold wrap64; omega⟩
        have HCUT : Aside0 (0 ≤ la + 1 ∧ la + 1 ≤ (c3 : Int) ∧ (la + 1).toNat = ls.length) := ⟨by have h := (Kd.R_reads' HR3.out).2.1; simp at h; omega⟩
        have hr1 := Kd.R_take (m := ls.length) HR3.out (by simp)
        rw [List.take_left' rfl] at hr1
        have HB := Aside0.mk (below_drew1 HB3.out); have HG0 := Aside0.mk (blk_drew HG3.out); have R1 := Aside0.mk (Kd.R_drew hr1); have HGL := Aside0.mk (blk_drew HGL3.out); have HBX := Aside0.mk (blk_drew HBX3.out); have M0 := Aside0.mk (hm2.below (below_drew1 (Below.refl _ _)))
        have HGM1 : Aside0 (w3.drew.heap[gm]? = some (.cells #[.int .i64 (mn : Int)] 3 (0, 0))) := ⟨blk_drew HGM3.out⟩; have HGD1 : Aside0 (w3.drew.heap[gd]? = some (.cells #[.int .i64 ev, .slice (some ac) l.length c] 26 (0, 0))) := ⟨blk_drew HGD3.out⟩; have HGE1 : Aside0 (w3.drew.heap[ge]? = some (.cells #[.func (.func 28) #[] #[.pointer (some ⟨gr, 0, none⟩), .pointer (some ⟨gm, 0, none⟩), .pointer (some ⟨gd, 0, none⟩), .pointer (some ⟨gl, 0, none⟩), .pointer (some ⟨ge, 0, none⟩)]] 49 (0, 0))) := ⟨blk_drew HGE3.out⟩; have KT1 : Aside0 (KeepT 2 31 w w3.drew) := ⟨KT3.out.below (below_drew1 (Below.refl _ _))⟩
        replace HN : Aside0 (n2 < 9223372036854775807) := ⟨by have h1 := HI.out; have h2 := HNU.out; have h3 : searchU (r + 1) = 24 * (searchU r + 2) := rfl; have h4 : i * (searchU r + 2) + (searchU r + 2) ≤ 24 * (searchU r + 2) := (by rw [← Nat.succ_mul]; exact Nat.mul_le_mul_right _ (Nat.le_trans HLT.out HL.out)); have h5 := HN2.out; omega⟩
        clear hn2 hm2 hr1 hla hl10 HB3 HG3 HR3 HM3 HGM3 HGD3 HGL3 HGE3 HBX3 KT3
        refine start_ (n := 9) (S := fun w' => True) (ds := []) #[false, false, false, false, false, false, false, false, false] (by kernel_rfl) rfl rfl trivial (fun hHeld => ?_)
        refine with_tabW ringGo.tab11 ringGo.bits11 (fun HT_ HW_ => ?_)
        generalize w3.drew = wk at HB HGL HBX HG0 M0 R1 HGM1 HGD1 HGE1 KT1 hHeld ⊢
        have KT := trivial
        refine pure_ (i := 1) (N := some 84) (v := ?_) (a' := ?_) #[false, true, false, false, false, false, false, false, false] rfl rfl (any_of HT_.out (by kernel_rfl)) (fun _ _ _ h => h) (Or.inl ⟨by rfl, ?_⟩) ?_ ?_
        rotate_left
        ·intro w'
         go_simp
         with_reducible rfl
        rotate_left
        ·simp only [Act.put, List.setIfInBounds_toArray, List.set_cons_zero, List.set_cons_succ, i64_w, i32_w]
         rfl
        refine pure_ (i := 4) (N := some 87) (v := ?_) (a' := ?_) #[false, true, false, false, true, false, false, false, false] rfl rfl (any_of HT_.out (by kernel_rfl)) (fun _ _ _ h => h) (Or.inl ⟨by rfl, ?_⟩) ?_ ?_
        rotate_left
        ·intro w'
         go_simp
         with_reducible rfl
        rotate_left
        ·simp only [Act.put, List.setIfInBounds_toArray, List.set_cons_zero, List.set_cons_succ, i64_w, i32_w]
         rfl
        refine inv_at [0, 2, 3, 5, 6, 7, 8] (fun a0_ b a w' => a = putSel a0_ b [(0, 83, .map (some bm)), (2, 85, .int .i64 f0), (3, 86, .slice A3 (ls ++ [xi]).length c3), (5, 88, .int .i64 (la + 1)), (6, 89, .slice A3 ls.length c3)] ∧ (Below w0.heap.size w0 w') ∧ (KeepT 2 31 wk w') ∧ (w'.heap[gl]? = some (.cells #[.map (some bm)] 57 (0, 0))) ∧ (w'.heap[gb]? = some (.cells #[.int .i64 f0, .int .i64 f1, .int .i64 f2] 36 (0, 0))) ∧ (b 7 = false → w'.heap[gr]? = some (.cells #[.slice A3 (ls ++ [xi]).length c3] 31 (0, 0))) ∧ (b 7 = true → w'.heap[gr]? = some (.cells #[.slice A3 ls.length c3] 31 (0, 0))) ∧ (b 8 = false → MapIs w' bm n2 (usedIn l (ls ++ [xi]))) ∧ (b 8 = true → MapIs w' bm (n2 + 1) (fun y => if y = f0 then false else usedIn l (ls ++ [xi]) y)) ∧ (Kd.R (Kd.int .i64) 2 w' w0.heap.size (fun _ => True) (.slice A3 ls.length c3) ls)) HT_.out HW_.out (by kernel_rfl) (by kernel_rfl) ?_ ?_ ?_
        ·exact ⟨by simp only [putSel, Bool.false_eq_true, if_false], HB.out, KeepT.refl _ _ _, HGL.out, HBX.out, fun _ => HG0.out, fun h_ => absurd h_ (by decide), fun _ => M0.out, fun h_ => absurd h_ (by decide), R1.out⟩
        ·skip
         clear HB HBX HG0 HGL KT M0 R1
         refine steps_cons ?_ ?_
         ·rintro b a w' ⟨ha, Q_HB, Q_KT, Q_HGL, Q_HBX, Q_HG0, Q_HG1, Q_M0, Q_M1, Q_R1⟩ hb_ hon hoff
          refine ⟨_, rfl, fun K hK => ?_⟩
          have e4 : a.tmps[4]? = some (.pointer (some ⟨gl, 0, none⟩)) := by rw [ha]; exact (putSel_off rfl).trans rfl
          replace ha := Aside0.mk ha
          have HB := Aside0.mk Q_HB
          have KT := Aside0.mk Q_KT
          have HGL := Aside0.mk Q_HGL
          have HBX := Aside0.mk Q_HBX
          have M0 := Aside0.mk (Q_M0 (hoff 8 (by kernel_rfl)))
          have R1 := Aside0.mk Q_R1
          have hcgl0_ : w'.cell? ⟨gl, 0, none⟩ = some (.map (some bm)) := (blk_cell HGL.out 0).trans rfl
          refine value_ (w1 := w') (v := .map (some bm)) (by rfl) rfl ?_ ?_
          ·go_simp
           (try simp only [i64_w])
           try rfl
          refine hK.out _ _ ⟨(by rw [ha.out]; exact putSel_upk 0 hb_ rfl rfl rfl), Q_HB, Q_KT, Q_HGL, Q_HBX, Q_HG0, Q_HG1, Q_M0, fun h0_ => absurd ((hoff 8 (by kernel_rfl)).symm.trans h0_) (by decide), Q_R1⟩
         refine steps_cons ?_ ?_
         ·rintro b a w' ⟨ha, Q_HB, Q_KT, Q_HGL, Q_HBX, Q_HG0, Q_HG1, Q_M0, Q_M1, Q_R1⟩ hb_ hon hoff
          refine ⟨_, rfl, fun K hK => ?_⟩
          have e84 : a.tmps[84]? = some (.pointer (some ⟨gb, 0, none⟩)) := by rw [ha]; exact (putSel_off rfl).trans rfl
          replace ha := Aside0.mk ha
          have HB := Aside0.mk Q_HB
          have KT := Aside0.mk Q_KT
          have HGL := Aside0.mk Q_HGL
          have HBX := Aside0.mk Q_HBX
          have M0 := Aside0.mk (Q_M0 (hoff 8 (by kernel_rfl)))
          have R1 := Aside0.mk Q_R1
          have hcgb0_ : w'.cell? ⟨gb, 0, none⟩ = some (.int .i64 f0) := (blk_cell HBX.out 0).trans rfl
          refine value_ (w1 := w') (v := .int .i64 f0) (by rfl) rfl ?_ ?_
          ·go_simp
           (try simp only [i64_w])
           try rfl
          refine hK.out _ _ ⟨(by rw [ha.out]; exact putSel_upk 1 hb_ rfl rfl rfl), Q_HB, Q_KT, Q_HGL, Q_HBX, Q_HG0, Q_HG1, Q_M0, fun h0_ => absurd ((hoff 8 (by kernel_rfl)).symm.trans h0_) (by decide), Q_R1⟩
         refine steps_cons ?_ ?_
         ·rintro b a w' ⟨ha, Q_HB, Q_KT, Q_HGL, Q_HBX, Q_HG0, Q_HG1, Q_M0, Q_M1, Q_R1⟩ hb_ hon hoff
          refine ⟨_, rfl, fun K hK => ?_⟩
          have e1 : a.tmps[1]? = some (.pointer (some ⟨gr, 0, none⟩)) := by rw [ha]; exact (putSel_off rfl).trans rfl
          replace ha := Aside0.mk ha
          have HB := Aside0.mk Q_HB
          have KT := Aside0.mk Q_KT
          have HGL := Aside0.mk Q_HGL
          have HBX := Aside0.mk Q_HBX
          have HG0 := Aside0.mk (Q_HG0 (hoff 7 (by kernel_rfl)))
          have M0 := Aside0.mk (Q_M0 (hoff 8 (by kernel_rfl)))
          have R1 := Aside0.mk Q_R1
          have hcgr0_ : w'.cell? ⟨gr, 0, none⟩ = some (.slice A3 (ls ++ [xi]).length c3) := (blk_cell HG0.out 0).trans rfl
          refine value_ (w1 := w') (v := .slice A3 (ls ++ [xi]).length c3) (by rfl) rfl ?_ ?_
          ·go_simp
           (try simp only [i64_w])
           try rfl
          refine hK.out _ _ ⟨(by rw [ha.out]; exact putSel_upk 2 hb_ rfl rfl rfl), Q_HB, Q_KT, Q_HGL, Q_HBX, Q_HG0, fun h0_ => absurd ((hoff 7 (by kernel_rfl)).symm.trans h0_) (by decide), Q_M0, fun h0_ => absurd ((hoff 8 (by kernel_rfl)).symm.trans h0_) (by decide), Q_R1⟩
         refine steps_cons ?_ ?_
         ·rintro b a w' ⟨ha, Q_HB, Q_KT, Q_HGL, Q_HBX, Q_HG0, Q_HG1, Q_M0, Q_M1, Q_R1⟩ hb_ hon hoff
          refine ⟨_, rfl, fun K hK => ?_⟩
          have e87 : a.tmps[87]? = some (.int .i64 la) := by rw [ha]; exact (putSel_off rfl).trans rfl
          replace ha := Aside0.mk ha
          have HB := Aside0.mk Q_HB
          have KT := Aside0.mk Q_KT
          have HGL := Aside0.mk Q_HGL
          have HBX := Aside0.mk Q_HBX
          have HG0 := Aside0.mk (Q_HG0 (hoff 7 (by kernel_rfl)))
          have M0 := Aside0.mk (Q_M0 (hoff 8 (by kernel_rfl)))
          have R1 := Aside0.mk Q_R1
          have hs_ := HSUM.out
          refine value_ (w1 := w') (v := .int .i64 (la + 1)) (by rfl) rfl ?_ ?_
          ·go_simp
           (try simp only [i64_w])
           try rfl
          refine hK.out _ _ ⟨(by rw [ha.out]; exact putSel_upk 3 hb_ rfl rfl rfl), Q_HB, Q_KT, Q_HGL, Q_HBX, Q_HG0, fun h0_ => absurd ((hoff 7 (by kernel_rfl)).symm.trans h0_) (by decide), Q_M0, fun h0_ => absurd ((hoff 8 (by kernel_rfl)).symm.trans h0_) (by decide), Q_R1⟩
         refine steps_cons ?_ ?_
         ·rintro b a w' ⟨ha, Q_HB, Q_KT, Q_HGL, Q_HBX, Q_HG0, Q_HG1, Q_M0, Q_M1, Q_R1⟩ hb_ hon hoff
          refine ⟨_, rfl, fun K hK => ?_⟩
          have e86 : a.tmps[86]? = some (.slice A3 (ls ++ [xi]).length c3) := by rw [ha]; exact putSel_on (e := (3, 86, .slice A3 (ls ++ [xi]).length c3)) 2 rfl rfl (hon 3 (by kernel_rfl)) rfl
          have e88 : a.tmps[88]? = some (.int .i64 (la + 1)) := by rw [ha]; exact putSel_on (e := (5, 88, .int .i64 (la + 1))) 3 rfl rfl (hon 5 (by kernel_rfl)) rfl
          replace ha := Aside0.mk ha
          have HB := Aside0.mk Q_HB
          have KT := Aside0.mk Q_KT
          have HGL := Aside0.mk Q_HGL
          have HBX := Aside0.mk Q_HBX
          have HG0 := Aside0.mk (Q_HG0 (hoff 7 (by kernel_rfl)))
          have M0 := Aside0.mk (Q_M0 (hoff 8 (by kernel_rfl)))
          have R1 := Aside0.mk Q_R1
          have hs1_ := eq_true HCUT.out.1
          have hs2_ := eq_true HCUT.out.2.1
          have hs3_ := HCUT.out.2.2
          have hs4_ := HCUT.out.1
          have hs5_ := HCUT.out.2.1
          refine value_ (w1 := w') (v := .slice A3 ls.length c3) (by rfl) rfl ?_ ?_
          ·go_simp
           (try simp only [i64_w])
           try rfl
          refine hK.out _ _ ⟨(by rw [ha.out]; exact putSel_upk 4 hb_ rfl rfl rfl), Q_HB, Q_KT, Q_HGL, Q_HBX, Q_HG0, fun h0_ => absurd ((hoff 7 (by kernel_rfl)).symm.trans h0_) (by decide), Q_M0, fun h0_ => absurd ((hoff 8 (by kernel_rfl)).symm.trans h0_) (by decide), Q_R1⟩
         refine steps_cons ?_ ?_
         ·rintro b a w' ⟨ha, Q_HB, Q_KT, Q_HGL, Q_HBX, Q_HG0, Q_HG1, Q_M0, Q_M1, Q_R1⟩ hb_ hon hoff
          refine ⟨_, rfl, fun K hK => ?_⟩
          have e1 : a.tmps[1]? = some (.pointer (some ⟨gr, 0, none⟩)) := by rw [ha]; exact (putSel_off rfl).trans rfl
          have e89 : a.tmps[89]? = some (.slice A3 ls.length c3) := by rw [ha]; exact putSel_on (e := (6, 89, .slice A3 ls.length c3)) 4 rfl rfl (hon 6 (by kernel_rfl)) rfl
          replace ha := Aside0.mk ha
          have HB := Aside0.mk Q_HB
          have KT := Aside0.mk Q_KT
          have HGL := Aside0.mk Q_HGL
          have HBX := Aside0.mk Q_HBX
          have HG0 := Aside0.mk (Q_HG0 hb_)
          have M0 := Aside0.mk (Q_M0 (hoff 8 (by kernel_rfl)))
          have R1 := Aside0.mk Q_R1
          have hz_ := blk_cell HG0.out 0
          have hf_ := blk_frozen HG0.out 0
          refine skip_ (w1 := w'.setCell ⟨gr, 0, none⟩ (.slice A3 ls.length c3)) (by rfl) rfl ?_ ?_
          ·go_simp
          refine hK.out _ _ ⟨(by rw [ha.out]; exact putSel_none (v := undef) rfl), below_set HB.out HGE.out.1, KeepT.set KT.out HG0.out, blk_far HGL.out (p := ⟨gr, 0, none⟩) (blk_ne HGL.out HG0.out (by decide)) (.slice A3 ls.length c3), blk_far HBX.out (p := ⟨gr, 0, none⟩) (blk_ne HBX.out HG0.out (by decide)) (.slice A3 ls.length c3), fun h0_ => absurd ((up_self b 7).symm.trans h0_) (by decide), fun _ => blk_put HG0.out 0 (.slice A3 ls.length c3) rfl, fun _ => MapIs.set M0.out HG0.out, fun h0_ => absurd ((hoff 8 (by kernel_rfl)).symm.trans h0_) (by decide), Kd.R_set R1.out HG0.out (by intro q hq; have hq : q ∈ [2] := hq; simp at hq; omega) 0 (.slice A3 ls.length c3)⟩
         refine steps_cons ?_ ?_
         ·rintro b a w' ⟨ha, Q_HB, Q_KT, Q_HGL, Q_HBX, Q_HG0, Q_HG1, Q_M0, Q_M1, Q_R1⟩ hb_ hon hoff
          refine ⟨_, rfl, fun K hK => ?_⟩
          have e83 : a.tmps[83]? = some (.map (some bm)) := by rw [ha]; exact putSel_on (e := (0, 83, .map (some bm))) 0 rfl rfl (hon 0 (by kernel_rfl)) rfl
          have e85 : a.tmps[85]? = some (.int .i64 f0) := by rw [ha]; exact putSel_on (e := (2, 85, .int .i64 f0)) 1 rfl rfl (hon 2 (by kernel_rfl)) rfl
          replace ha := Aside0.mk ha
          have HB := Aside0.mk Q_HB
          have KT := Aside0.mk Q_KT
          have HGL := Aside0.mk Q_HGL
          have HBX := Aside0.mk Q_HBX
          have HG1 := Aside0.mk (Q_HG1 (hon 7 (by kernel_rfl)))
          have M0 := Aside0.mk (Q_M0 hb_)
          have R1 := Aside0.mk Q_R1
          obtain ⟨w9, hr9, hm9, hg9⟩ := M0.out.put HN.out f0 HF0.out false
          obtain ⟨es9, cl9, hb9⟩ := M0.out.block
          refine skip_ (w1 := w9) (by rfl) rfl ?_ ?_
          ·first | (go_simp; done) | (go_simp; rfl)
          refine hK.out _ _ ⟨(by rw [ha.out]; exact putSel_none (v := undef) rfl), Below.grown HB.out hg9 (below_size HB.out) (fun j hj => by cases hj; exact HGE.out.2), KeepT.map KT.out hb9 hg9, blk_grown HGL.out hg9 (M0.out.ne HGL.out), blk_grown HBX.out hg9 (M0.out.ne HBX.out), fun h0_ => absurd ((hon 7 (by kernel_rfl)).symm.trans h0_) (by decide), fun _ => blk_grown HG1.out hg9 (M0.out.ne HG1.out), fun h0_ => absurd ((up_self b 8).symm.trans h0_) (by decide), fun _ => hm9, M0.out.row R1.out hg9⟩
         exact steps_nil
        rintro b a w4 hall ⟨ha, Q_HB, Q_KT, Q_HGL, Q_HBX, Q_HG0, Q_HG1, Q_M0, Q_M1, Q_R1⟩
        clear HB HBX HG0 HGL KT M0 R1
        have hb0_ := hall 0 (by kernel_rfl)
        have hb2_ := hall 2 (by kernel_rfl)
        have hb3_ := hall 3 (by kernel_rfl)
        have hb5_ := hall 5 (by kernel_rfl)
        have hb6_ := hall 6 (by kernel_rfl)
        have hb7_ := hall 7 (by kernel_rfl)
        have hb8_ := hall 8 (by kernel_rfl)
        subst ha
        simp only [putSel, hb0_, hb2_, hb3_, hb5_, hb6_, hb7_, hb8_, if_true, Act.put, List.setIfInBounds_toArray, List.set_cons_zero, List.set_cons_succ]
        have HB := Aside0.mk Q_HB
        clear Q_HB
        have KT := Aside0.mk Q_KT
        clear Q_KT
        have HGL := Aside0.mk Q_HGL
        clear Q_HGL
        have HBX := Aside0.mk Q_HBX
        clear Q_HBX
        clear Q_HG0
        have HG1 := Aside0.mk (Q_HG1 hb7_)
        clear Q_HG1
        clear Q_M0
        have M1 := Aside0.mk (Q_M1 hb8_)
        clear Q_M1
        have R1 := Aside0.mk Q_R1
        clear Q_R1
        clear hall hb0_ hb2_ hb3_ hb5_ hb6_ hb7_ hb8_
        have HGM2 : Aside0 (w4.heap[gm]? = some (.cells #[.int .i64 (mn : Int)] 3 (0, 0))) := ⟨KT.out _ _ _ HGM1.out (by decide) (by decide)⟩; have HGD2 : Aside0 (w4.heap[gd]? = some (.cells #[.int .i64 ev, .slice (some ac) l.length c] 26 (0, 0))) := ⟨KT.out _ _ _ HGD1.out (by decide) (by decide)⟩; have HGE2 : Aside0 (w4.heap[ge]? = some (.cells #[.func (.func 28) #[] #[.pointer (some ⟨gr, 0, none⟩), .pointer (some ⟨gm, 0, none⟩), .pointer (some ⟨gd, 0, none⟩), .pointer (some ⟨gl, 0, none⟩), .pointer (some ⟨ge, 0, none⟩)]] 49 (0, 0))) := ⟨KT.out _ _ _ HGE1.out (by decide) (by decide)⟩; have KT2 : Aside0 (KeepT 2 31 w w4) := ⟨KT1.out.then_ KT.out⟩
        clear HGM1 HGD1 HGE1 KT1 KT
        have M2 : Aside0 (MapIs w4 bm (n2 + 1) (usedIn l ls)) := ⟨M1.out.tells (Nat.le_refl _) (fun x _ => (Classical.em (x = f0)).elim (fun e => by rw [if_pos e, e, HU.out]) (fun e => by rw [if_neg e, usedIn_snoc, ← HFX.out, beq_eq_false_iff_ne.mpr (Ne.symm e), Bool.or_false]))⟩
        clear M1
        go_wp2
        have hxi := HXI.out
        have hd := HD.out
        have hi := HI.out
        have hsu : (i + 1) * (searchU r + 2) = i * (searchU r + 2) + (searchU r + 2) := Nat.succ_mul _ _
        have hn2 := HN2.out
        have hlen : l.length ≤ 24 := HL.out
        go_roundg (l.length - i)
        case measure => omega
        case rel => exact ⟨i + 1, n2 + 1, _, by first | (rw [show wrap64 (xi + 1) = ((i + 1 : Nat) : Int) from by unfold wrap64; omega]) | (rw [i64_w, show wrap64 (xi + 1) = ((i + 1 : Nat) : Int) from by unfold wrap64; omega]) | (rw [show xi + 1 = ((i + 1 : Nat) : Int) from by omega]), ⟨by omega⟩, HB, KT2, HG1, R1, HGM2, HGD2, HGL, HGE2, M2, ⟨by rw [show l.length - (i + 1) = d by omega]; exact HQ2.out⟩⟩
      have hpos : 0 < ls.length := List.length_pos_iff.2 hla0
      have h0 : (0 : Int) ≤ la := by have h := HLA.out; omega
      have h1 : la < (ls.length : Int) := by have h := HLA.out; omega
      have g1 : decide (la ≥ 0) = true := decide_eq_true h0
      have g2 : decide (0 ≤ la) = true := g1
      obtain ⟨ad, ea, k1⟩ := Kd.at_int (Kd.R_reads' HR.out).2.2 la h0 h1
      cases ea
      obtain ⟨hj0, hj1⟩ := HLS.out la h0 h1
      obtain ⟨zj, hzj⟩ : ∃ z, rd ls la = z := ⟨_, rfl⟩
      rw [hzj] at k1 hj0 hj1
      have hCl := Kd.C_below HCL.out HB.out
      obtain ⟨ac', ea, b0, b1, b2⟩ := at_T36 hCl zj hj0 hj1
      obtain rfl : ac = ac' := by injection ea
      clear hCl ea
      have hen : endOf l ls = (rd_T36 l zj).f1 := by unfold endOf; rw [HLA.out, hzj]
      have hem : ls.isEmpty = false := by rw [Bool.eq_false_iff]; intro h; exact hla0 (List.isEmpty_iff.1 h)
      rw [hen, hem] at HSK
      generalize (rd_T36 l zj).f1 = z1 at b1 HSK
      clear hen hem hzj hpos hla0
      have p0 := eq_true h0; have p1 := eq_true h1; have p2 := eq_true hj0; have p3 := eq_true hj1
      have q0 := decide_eq_true h0; have q1 := decide_eq_true h1; have q2 := decide_eq_true hj0; have q3 := decide_eq_true hj1
      have hl10 := HLEN0.out
      cases hz : (z1 != f0) with
      | true =>
       have HSKT : Aside0 (skipB l ls xi = true) := ⟨by rw [HSK.out, hz]; rfl⟩
       clear HSK
       go_quiet (fail)
       clear b0 b1 b2 k1 p0 p1 p2 p3 q0 q1 q2 q3 g1 g2 h0 h1 hj0 hj1 hl10 hz
       have hb := pw_below_drewN (Below.refl w1.heap.size w1) nq; replace KT0 := Aside0.mk (KT0.out.below hb); replace HB := Aside0.mk (below_step HB.out hb); replace HG0 := Aside0.mk (blk_below HG0.out hb); replace HR := Aside0.mk (Kd.R_below HR.out hb); replace HGM := Aside0.mk (blk_below HGM.out hb); replace HGD := Aside0.mk (blk_below HGD.out hb); replace HGL := Aside0.mk (blk_below HGL.out hb); replace HGEE := Aside0.mk (blk_below HGEE.out hb); replace HBX := Aside0.mk (blk_below HBX.out hb); replace M0 := Aside0.mk (M0.out.below hb); clear hb hlk m0 m1 m2 m3; generalize w1.drewN nq = w1 at KT0 HB HG0 HR HGM HGD HGL HGEE HBX M0 ⊢
       have hq := HHQ.out
       rw [HSKT.out, if_pos rfl] at hq
       have HQ2 := Aside0.mk hq
       clear hq HHQ HSKT
       go_wp2
       have hxi := HXI.out
       have hd := HD.out
       have hi := HI.out
       have hsu : (i + 1) * (searchU r + 2) = i * (searchU r + 2) + (searchU r + 2) := Nat.succ_mul _ _
       have hlen : l.length ≤ 24 := HL.out
       go_roundg (l.length - i)
       case measure => omega
       case rel => exact ⟨i + 1, n1, _, by first | (rw [show wrap64 (xi + 1) = ((i + 1 : Nat) : Int) from by unfold wrap64; omega]) | (rw [i64_w, show wrap64 (xi + 1) = ((i + 1 : Nat) : Int) from by unfold wrap64; omega]) | (rw [show xi + 1 = ((i + 1 : Nat) : Int) from by omega]), ⟨by omega⟩, HB, KT0, HG0, HR, HGM, HGD, HGL, HGEE, M0, ⟨by rw [show l.length - (i + 1) = d by omega]; exact HQ2.out⟩⟩
      | false =>
       have HSKT : Aside0 (skipB l ls xi = false) := ⟨by rw [HSK.out, hz]; rfl⟩
       clear HSK
       go_quiet (fail)
       clear b0 b1 b2 k1 p0 p1 p2 p3 q0 q1 q2 q3 g1 g2 h0 h1 hj0 hj1 hl10 hz
       have hb := pw_below_drewN (Below.refl w1.heap.size w1) nq; replace KT0 := Aside0.mk (KT0.out.below hb); replace HB := Aside0.mk (below_step HB.out hb); replace HG0 := Aside0.mk (blk_below HG0.out hb); replace HR := Aside0.mk (Kd.R_below HR.out hb); replace HGM := Aside0.mk (blk_below HGM.out hb); replace HGD := Aside0.mk (blk_below HGD.out hb); replace HGL := Aside0.mk (blk_below HGL.out hb); replace HGEE := Aside0.mk (blk_below HGEE.out hb); replace HBX := Aside0.mk (blk_below HBX.out hb); replace M0 := Aside0.mk (M0.out.below hb); clear hb hlk m0 m1 m2 m3; generalize w1.drewN nq = w1 at KT0 HB HG0 HR HGM HGD HGL HGEE HBX M0 ⊢
       have hq := HHQ.out
       rw [HSKT.out, if_neg (by decide)] at hq
       obtain ⟨q', hq', hq⟩ := Option.bind_eq_some_iff.mp hq
       have HQ1 := Aside0.mk hq'; have HQ2 := Aside0.mk hq
       clear hq hq' HHQ HSKT
       go_wp2_with (fail)
       replace HB := Aside0.mk (below_drew1 HB.out); replace HG0 := Aside0.mk (blk_drew HG0.out); have RK := Aside0.mk (Kd.R_drew HR.out); replace HGL := Aside0.mk (blk_drew HGL.out); replace HBX := Aside0.mk (blk_drew HBX.out); replace M0 := Aside0.mk (M0.out.below (below_drew1 (Below.refl _ _)))
       have HGM1 : Aside0 (w1.drew.heap[gm]? = some (.cells #[.int .i64 (mn : Int)] 3 (0, 0))) := ⟨blk_drew HGM.out⟩; have HGD1 : Aside0 (w1.drew.heap[gd]? = some (.cells #[.int .i64 ev, .slice (some ac) l.length c] 26 (0, 0))) := ⟨blk_drew HGD.out⟩; have HGE1 : Aside0 (w1.drew.heap[ge]? = some (.cells #[.func (.func 28) #[] #[.pointer (some ⟨gr, 0, none⟩), .pointer (some ⟨gm, 0, none⟩), .pointer (some ⟨gd, 0, none⟩), .pointer (some ⟨gl, 0, none⟩), .pointer (some ⟨ge, 0, none⟩)]] 49 (0, 0))) := ⟨blk_drew HGEE.out⟩; have KT1 : Aside0 (KeepT 2 31 w w1.drew) := ⟨KT0.out.below (below_drew1 (Below.refl _ _))⟩
       have HN : Aside0 (n1 < 9223372036854775807) := ⟨by have h1 := HI.out; have h2 := HNU.out; have h3 : searchU (r + 1) = 24 * (searchU r + 2) := rfl; have h4 : i * (searchU r + 2) ≤ 24 * (searchU r + 2) := Nat.mul_le_mul_right _ (Nat.le_trans h1.1 HL.out); omega⟩
       have HLEN : Aside0 ((ls.length + 1) * 8 ≤ 140737488355328) := ⟨by have := HLEN0.out; omega⟩
       clear HR KT0 HGM HGD HGEE
       refine start_ (n := 9) (S := fun w' => True) (ds := []) #[false, false, false, false, false, false, false, false, false] (by kernel_rfl) rfl rfl trivial (fun hHeld => ?_)
       refine with_tabW ringGo.tab8 ringGo.bits8 (fun HT_ HW_ => ?_)
       generalize w1.drew = wk at HB HGL HBX HG0 M0 RK HGM1 HGD1 HGE1 KT1 hHeld ⊢
       have HBK := HB; have HGLK := HGL; have HBXK := HBX; have HGK := HG0; have MK := M0
       have KT := trivial; have W0 := trivial
       refine pure_ (i := 1) (N := some 71) (v := ?_) (a' := ?_) #[false, true, false, false, false, false, false, false, false] rfl rfl (any_of HT_.out (by kernel_rfl)) (fun _ _ _ h => h) (Or.inl ⟨by rfl, ?_⟩) ?_ ?_
       rotate_left
       ·intro w'
        go_simp
        with_reducible rfl
       rotate_left
       ·simp only [Act.put, List.setIfInBounds_toArray, List.set_cons_zero, List.set_cons_succ, i64_w, i32_w]
        rfl
       refine pure_ (i := 4) (N := some 74) (v := ?_) (a' := ?_) #[false, true, false, false, true, false, false, false, false] rfl rfl (any_of HT_.out (by kernel_rfl)) (fun _ _ _ h => h) (Or.inl ⟨by rfl, ?_⟩) ?_ ?_
       rotate_left
       ·intro w'
        go_simp
        with_reducible rfl
       rotate_left
       ·simp only [Act.put, List.setIfInBounds_toArray, List.set_cons_zero, List.set_cons_succ, i64_w, i32_w]
        rfl
       refine inv_at [0, 2, 3, 5, 6, 7, 8] (fun a0_ b a w' => ∃ (g5 : Nat) (A2 : Option Addr) (c2 : Nat) (m5_ : Value) (m6_ : Value), a = putSel a0_ b [(0, 70, .map (some bm)), (2, 72, .int .i64 f0), (3, 73, .slice (some ad) ls.length cr1), (5, 75, m5_), (6, 76, m6_)] ∧ (Below w0.heap.size w0 w') ∧ (KeepT 2 31 wk w') ∧ (w'.heap[gl]? = some (.cells #[.map (some bm)] 57 (0, 0))) ∧ (w'.heap[gb]? = some (.cells #[.int .i64 f0, .int .i64 f1, .int .i64 f2] 36 (0, 0))) ∧ (b 7 = false → w'.heap[gr]? = some (.cells #[.slice (some ad) ls.length cr1] 31 (0, 0))) ∧ (b 7 = true → w'.heap[gr]? = some (.cells #[.slice A2 (ls ++ [xi]).length c2] 31 (0, 0))) ∧ (b 8 = false → MapIs w' bm n1 (usedIn l ls)) ∧ (b 8 = true → MapIs w' bm (n1 + 1) (fun y => if y = f0 then true else usedIn l ls y)) ∧ (b 5 = false → w' = wk) ∧ (b 5 = true → b 6 = false → w' = wk.alloc (.cells #[.int .i64 xi] 2)) ∧ (b 6 = true → Kd.R (Kd.int .i64) 2 w' w0.heap.size (fun _ => True) (.slice A2 (ls ++ [xi]).length c2) (ls ++ [xi])) ∧ (b 5 = true → g5 = wk.heap.size) ∧ (b 5 = true → (m5_ : Value) = .slice (some ⟨g5, 0, none⟩) 1 1) ∧ (b 6 = true → (m6_ : Value) = .slice A2 (ls ++ [xi]).length c2)) HT_.out HW_.out (by kernel_rfl) (by kernel_rfl) ?_ ?_ ?_
       ·exact ⟨0, none, 0, .bool false, .bool false, by simp only [putSel, Bool.false_eq_true, if_false], HB.out, KeepT.refl _ _ _, HGL.out, HBX.out, fun _ => HG0.out, fun h_ => absurd h_ (by decide), fun _ => M0.out, fun h_ => absurd h_ (by decide), fun _ => rfl, fun h_ => absurd h_ (by decide), fun h_ => absurd h_ (by decide), fun h_ => absurd h_ (by decide), fun h_ => absurd h_ (by decide), fun h_ => absurd h_ (by decide)⟩
       ·skip
        clear HB HBX HG0 HGL KT M0 W0
        refine steps_cons ?_ ?_
        ·rintro b a w' ⟨g5, A2, c2, m5_, m6_, ha, Q_HB, Q_KT, Q_HGL, Q_HBX, Q_HG0, Q_HG1, Q_M0, Q_M1, Q_W0, Q_W5, Q_R1, Q_G5, Q_X5_, Q_X6_⟩ hb_ hon hoff
         refine ⟨_, rfl, fun K hK => ?_⟩
         have e4 : a.tmps[4]? = some (.pointer (some ⟨gl, 0, none⟩)) := by rw [ha]; exact (putSel_off rfl).trans rfl
         replace ha := Aside0.mk ha
         have HB := Aside0.mk Q_HB
         have KT := Aside0.mk Q_KT
         have HGL := Aside0.mk Q_HGL
         have HBX := Aside0.mk Q_HBX
         have M0 := Aside0.mk (Q_M0 (hoff 8 (by kernel_rfl)))
         have hcgl0_ : w'.cell? ⟨gl, 0, none⟩ = some (.map (some bm)) := (blk_cell HGL.out 0).trans rfl
         refine value_ (w1 := w') (v := .map (some bm)) (by rfl) rfl ?_ ?_
         ·go_simp
          (try simp only [i64_w])
          try rfl
         refine hK.out _ _ ⟨g5, A2, c2, m5_, m6_, (by rw [ha.out]; exact putSel_upk 0 hb_ rfl rfl rfl), Q_HB, Q_KT, Q_HGL, Q_HBX, Q_HG0, Q_HG1, Q_M0, fun h0_ => absurd ((hoff 8 (by kernel_rfl)).symm.trans h0_) (by decide), Q_W0, Q_W5, Q_R1, Q_G5, Q_X5_, Q_X6_⟩
        refine steps_cons ?_ ?_
        ·rintro b a w' ⟨g5, A2, c2, m5_, m6_, ha, Q_HB, Q_KT, Q_HGL, Q_HBX, Q_HG0, Q_HG1, Q_M0, Q_M1, Q_W0, Q_W5, Q_R1, Q_G5, Q_X5_, Q_X6_⟩ hb_ hon hoff
         refine ⟨_, rfl, fun K hK => ?_⟩
         have e71 : a.tmps[71]? = some (.pointer (some ⟨gb, 0, none⟩)) := by rw [ha]; exact (putSel_off rfl).trans rfl
         replace ha := Aside0.mk ha
         have HB := Aside0.mk Q_HB
         have KT := Aside0.mk Q_KT
         have HGL := Aside0.mk Q_HGL
         have HBX := Aside0.mk Q_HBX
         have M0 := Aside0.mk (Q_M0 (hoff 8 (by kernel_rfl)))
         have hcgb0_ : w'.cell? ⟨gb, 0, none⟩ = some (.int .i64 f0) := (blk_cell HBX.out 0).trans rfl
         refine value_ (w1 := w') (v := .int .i64 f0) (by rfl) rfl ?_ ?_
         ·go_simp
          (try simp only [i64_w])
          try rfl
         refine hK.out _ _ ⟨g5, A2, c2, m5_, m6_, (by rw [ha.out]; exact putSel_upk 1 hb_ rfl rfl rfl), Q_HB, Q_KT, Q_HGL, Q_HBX, Q_HG0, Q_HG1, Q_M0, fun h0_ => absurd ((hoff 8 (by kernel_rfl)).symm.trans h0_) (by decide), Q_W0, Q_W5, Q_R1, Q_G5, Q_X5_, Q_X6_⟩
        refine steps_cons ?_ ?_
        ·rintro b a w' ⟨g5, A2, c2, m5_, m6_, ha, Q_HB, Q_KT, Q_HGL, Q_HBX, Q_HG0, Q_HG1, Q_M0, Q_M1, Q_W0, Q_W5, Q_R1, Q_G5, Q_X5_, Q_X6_⟩ hb_ hon hoff
         refine ⟨_, rfl, fun K hK => ?_⟩
         have e1 : a.tmps[1]? = some (.pointer (some ⟨gr, 0, none⟩)) := by rw [ha]; exact (putSel_off rfl).trans rfl
         replace ha := Aside0.mk ha
         have HB := Aside0.mk Q_HB
         have KT := Aside0.mk Q_KT
         have HGL := Aside0.mk Q_HGL
         have HBX := Aside0.mk Q_HBX
         have HG0 := Aside0.mk (Q_HG0 (hoff 7 (by kernel_rfl)))
         have M0 := Aside0.mk (Q_M0 (hoff 8 (by kernel_rfl)))
         have hcgr0_ : w'.cell? ⟨gr, 0, none⟩ = some (.slice (some ad) ls.length cr1) := (blk_cell HG0.out 0).trans rfl
         refine value_ (w1 := w') (v := .slice (some ad) ls.length cr1) (by rfl) rfl ?_ ?_
         ·go_simp
          (try simp only [i64_w])
          try rfl
         refine hK.out _ _ ⟨g5, A2, c2, m5_, m6_, (by rw [ha.out]; exact putSel_upk 2 hb_ rfl rfl rfl), Q_HB, Q_KT, Q_HGL, Q_HBX, Q_HG0, fun h0_ => absurd ((hoff 7 (by kernel_rfl)).symm.trans h0_) (by decide), Q_M0, fun h0_ => absurd ((hoff 8 (by kernel_rfl)).symm.trans h0_) (by decide), Q_W0, Q_W5, fun h0_ => absurd ((hoff 6 (by kernel_rfl)).symm.trans h0_) (by decide), Q_G5, Q_X5_, fun h0_ => absurd ((hoff 6 (by kernel_rfl)).symm.trans h0_) (by decide)⟩
        refine steps_cons ?_ ?_
        ·rintro b a w' ⟨g5, A2, c2, m5_, m6_, ha, Q_HB, Q_KT, Q_HGL, Q_HBX, Q_HG0, Q_HG1, Q_M0, Q_M1, Q_W0, Q_W5, Q_R1, Q_G5, Q_X5_, Q_X6_⟩ hb_ hon hoff
         refine ⟨_, rfl, fun K hK => ?_⟩
         have e74 : a.tmps[74]? = some (.int .i64 xi) := by rw [ha]; exact (putSel_off rfl).trans rfl
         replace ha := Aside0.mk ha
         have HB := Aside0.mk Q_HB
         have KT := Aside0.mk Q_KT
         have HGL := Aside0.mk Q_HGL
         have HBX := Aside0.mk Q_HBX
         have HG0 := Aside0.mk (Q_HG0 (hoff 7 (by kernel_rfl)))
         have M0 := Aside0.mk (Q_M0 (hoff 8 (by kernel_rfl)))
         have W0 := Aside0.mk (Q_W0 hb_)
         refine event_step (by rfl) (w1 := w'.alloc (.cells #[.int .i64 xi] 2)) (v := .slice (some ⟨w'.heap.size, 0, none⟩) 1 1) ?_ ?_
         ·first | (go_simp; done) | (go_simp; rfl)
         have hb : Below w'.heap.size w' (w'.alloc (.cells #[.int .i64 xi] 2)) := below_alloc (Below.refl _ _) _
         refine hK.out _ _ ⟨w'.heap.size, A2, c2, (.slice (some ⟨w'.heap.size, 0, none⟩) 1 1), m6_, (by rw [ha.out]; exact putSel_upk 3 hb_ rfl rfl rfl), below_step HB.out hb, KT.out.below hb, blk_below HGL.out hb, blk_below HBX.out hb, fun _ => blk_below HG0.out hb, fun h0_ => absurd ((hoff 7 (by kernel_rfl)).symm.trans h0_) (by decide), fun _ => M0.out.below hb, fun h0_ => absurd ((hoff 8 (by kernel_rfl)).symm.trans h0_) (by decide), fun h0_ => absurd ((up_self b 5).symm.trans h0_) (by decide), fun _ _ => by rw [W0.out], fun h0_ => absurd ((hoff 6 (by kernel_rfl)).symm.trans h0_) (by decide), fun _ => by rw [W0.out], fun _ => rfl, fun h0_ => absurd ((hoff 6 (by kernel_rfl)).symm.trans h0_) (by decide)⟩
        refine steps_cons ?_ ?_
        ·rintro b a w' ⟨g5, A2, c2, m5_, m6_, ha, Q_HB, Q_KT, Q_HGL, Q_HBX, Q_HG0, Q_HG1, Q_M0, Q_M1, Q_W0, Q_W5, Q_R1, Q_G5, Q_X5_, Q_X6_⟩ hb_ hon hoff
         refine ⟨_, rfl, fun K hK => ?_⟩
         have e73 : a.tmps[73]? = some (.slice (some ad) ls.length cr1) := by rw [ha]; exact putSel_on (e := (3, 73, .slice (some ad) ls.length cr1)) 2 rfl rfl (hon 3 (by kernel_rfl)) rfl
         have e75 : a.tmps[75]? = some (m5_) := by rw [ha]; exact putSel_on (e := (5, 75, m5_)) 3 rfl rfl (hon 5 (by kernel_rfl)) rfl
         rw [Q_X5_ (hon 5 (by kernel_rfl))] at e75
         replace ha := Aside0.mk ha
         have HB := Aside0.mk Q_HB
         have KT := Aside0.mk Q_KT
         have HGL := Aside0.mk Q_HGL
         have HBX := Aside0.mk Q_HBX
         have HG0 := Aside0.mk (Q_HG0 (hoff 7 (by kernel_rfl)))
         have M0 := Aside0.mk (Q_M0 (hoff 8 (by kernel_rfl)))
         have W5 := Aside0.mk (Q_W5 (hon 5 (by kernel_rfl)) hb_)
         have G5 := Aside0.mk (Q_G5 (hon 5 (by kernel_rfl)))
         have hw_ := W5.out
         subst hw_
         rw [G5.out] at e75
         refine Kd.R_append_step (Kd.int .i64) (w0 := w0) w0.heap.size (by rfl) (.tmp 73) (.tmp 75) 31 2 (.int .i64 0) 8 rfl Try.underlying31 info2 rfl (by decide) (by omega) (.slice (some ad) ls.length cr1) ls xi [.int .i64 xi] (fun _ => True) (fun _ => False) (by first | (simp only [List.map_toArray, List.map_cons, List.map_nil, Act.eval, Array.getD_eq_getD_getElem?, Option.getD_some, e73, e75]; done) | (simp only [List.map_toArray, List.map_cons, List.map_nil, Act.eval, Array.getD_eq_getD_getElem?, Option.getD_some, e73, e75]; rfl)) (by first | (simp only [List.map_toArray, List.map_cons, List.map_nil, Act.eval, Array.getD_eq_getD_getElem?, Option.getD_some, e73, e75]; done) | (simp only [List.map_toArray, List.map_cons, List.map_nil, Act.eval, Array.getD_eq_getD_getElem?, Option.getD_some, e73, e75]; rfl)) rfl (fun _ hk => hk.elim) (fun _ _ => trivial) RK.out HBK.out (below_size HBK.out) HLEN.out ?_
         intro v1 w5 ho hb hg hat
         obtain ⟨A2', c2', rfl⟩ := Kd.R_slice ho
         refine hK.out _ _ ⟨g5, A2', c2', m5_, (.slice A2' (ls ++ [xi]).length c2'), (by rw [ha.out]; exact putSel_upk 4 hb_ rfl rfl rfl), hb, KeepT.grown (KeepT.refl _ _ wk) RK.out hg, blk_grown HGLK.out hg (Kd.R_ne RK.out HGLK.out (by decide)), blk_grown HBXK.out hg (Kd.R_ne RK.out HBXK.out (by decide)), fun _ => blk_grown HGK.out hg (Kd.R_ne RK.out HGK.out (by decide)), fun h0_ => absurd ((hoff 7 (by kernel_rfl)).symm.trans h0_) (by decide), fun _ => MapIs.over MK.out RK.out hg, fun h0_ => absurd ((hoff 8 (by kernel_rfl)).symm.trans h0_) (by decide), fun h0_ => absurd ((hon 5 (by kernel_rfl)).symm.trans h0_) (by decide), fun _ h1_ => absurd ((up_self b 6).symm.trans h1_) (by decide), fun _ => ho, Q_G5, Q_X5_, fun _ => rfl⟩
        refine steps_cons ?_ ?_
        ·rintro b a w' ⟨g5, A2, c2, m5_, m6_, ha, Q_HB, Q_KT, Q_HGL, Q_HBX, Q_HG0, Q_HG1, Q_M0, Q_M1, Q_W0, Q_W5, Q_R1, Q_G5, Q_X5_, Q_X6_⟩ hb_ hon hoff
         refine ⟨_, rfl, fun K hK => ?_⟩
         have e1 : a.tmps[1]? = some (.pointer (some ⟨gr, 0, none⟩)) := by rw [ha]; exact (putSel_off rfl).trans rfl
         have e76 : a.tmps[76]? = some (m6_) := by rw [ha]; exact putSel_on (e := (6, 76, m6_)) 4 rfl rfl (hon 6 (by kernel_rfl)) rfl
         rw [Q_X6_ (hon 6 (by kernel_rfl))] at e76
         replace ha := Aside0.mk ha
         have HB := Aside0.mk Q_HB
         have KT := Aside0.mk Q_KT
         have HGL := Aside0.mk Q_HGL
         have HBX := Aside0.mk Q_HBX
         have HG0 := Aside0.mk (Q_HG0 hb_)
         have M0 := Aside0.mk (Q_M0 (hoff 8 (by kernel_rfl)))
         have R1 := Aside0.mk (Q_R1 (hon 6 (by kernel_rfl)))
         have G5 := Aside0.mk (Q_G5 (hon 5 (by kernel_rfl)))
         have hz_ := blk_cell HG0.out 0
         have hf_ := blk_frozen HG0.out 0
         refine skip_ (w1 := w'.setCell ⟨gr, 0, none⟩ (.slice A2 (ls ++ [xi]).length c2)) (by rfl) rfl ?_ ?_
         ·go_simp
         refine hK.out _ _ ⟨g5, A2, c2, m5_, m6_, (by rw [ha.out]; exact putSel_none (v := undef) rfl), below_set HB.out HGE.out.1, KeepT.set KT.out HG0.out, blk_far HGL.out (p := ⟨gr, 0, none⟩) (blk_ne HGL.out HG0.out (by decide)) (.slice A2 (ls ++ [xi]).length c2), blk_far HBX.out (p := ⟨gr, 0, none⟩) (blk_ne HBX.out HG0.out (by decide)) (.slice A2 (ls ++ [xi]).length c2), fun h0_ => absurd ((up_self b 7).symm.trans h0_) (by decide), fun _ => blk_put HG0.out 0 (.slice A2 (ls ++ [xi]).length c2) rfl, fun _ => MapIs.set M0.out HG0.out, fun h0_ => absurd ((hoff 8 (by kernel_rfl)).symm.trans h0_) (by decide), fun h0_ => absurd ((hon 5 (by kernel_rfl)).symm.trans h0_) (by decide), fun _ h1_ => absurd ((hon 6 (by kernel_rfl)).symm.trans h1_) (by decide), fun _ => Kd.R_set R1.out HG0.out (by intro q hq; have hq : q ∈ [2] := hq; simp at hq; omega) 0 (.slice A2 (ls ++ [xi]).length c2), Q_G5, Q_X5_, Q_X6_⟩
        refine steps_cons ?_ ?_
        ·rintro b a w' ⟨g5, A2, c2, m5_, m6_, ha, Q_HB, Q_KT, Q_HGL, Q_HBX, Q_HG0, Q_HG1, Q_M0, Q_M1, Q_W0, Q_W5, Q_R1, Q_G5, Q_X5_, Q_X6_⟩ hb_ hon hoff
         refine ⟨_, rfl, fun K hK => ?_⟩
         have e70 : a.tmps[70]? = some (.map (some bm)) := by rw [ha]; exact putSel_on (e := (0, 70, .map (some bm))) 0 rfl rfl (hon 0 (by kernel_rfl)) rfl
         have e72 : a.tmps[72]? = some (.int .i64 f0) := by rw [ha]; exact putSel_on (e := (2, 72, .int .i64 f0)) 1 rfl rfl (hon 2 (by kernel_rfl)) rfl
         replace ha := Aside0.mk ha
         have HB := Aside0.mk Q_HB
         have KT := Aside0.mk Q_KT
         have HGL := Aside0.mk Q_HGL
         have HBX := Aside0.mk Q_HBX
         have HG1 := Aside0.mk (Q_HG1 (hon 7 (by kernel_rfl)))
         have M0 := Aside0.mk (Q_M0 hb_)
         have R1 := Aside0.mk (Q_R1 (hon 6 (by kernel_rfl)))
         have G5 := Aside0.mk (Q_G5 (hon 5 (by kernel_rfl)))
         obtain ⟨w9, hr9, hm9, hg9⟩ := M0.out.put HN.out f0 HF0.out true
         obtain ⟨es9, cl9, hb9⟩ := M0.out.block
         refine skip_ (w1 := w9) (by rfl) rfl ?_ ?_
         ·first | (go_simp; done) | (go_simp; rfl)
         refine hK.out _ _ ⟨g5, A2, c2, m5_, m6_, (by rw [ha.out]; exact putSel_none (v := undef) rfl), Below.grown HB.out hg9 (below_size HB.out) (fun j hj => by cases hj; exact HGE.out.2), KeepT.map KT.out hb9 hg9, blk_grown HGL.out hg9 (M0.out.ne HGL.out), blk_grown HBX.out hg9 (M0.out.ne HBX.out), fun h0_ => absurd ((hon 7 (by kernel_rfl)).symm.trans h0_) (by decide), fun _ => blk_grown HG1.out hg9 (M0.out.ne HG1.out), fun h0_ => absurd ((up_self b 8).symm.trans h0_) (by decide), fun _ => hm9, fun h0_ => absurd ((hon 5 (by kernel_rfl)).symm.trans h0_) (by decide), fun _ h1_ => absurd ((hon 6 (by kernel_rfl)).symm.trans h1_) (by decide), fun _ => M0.out.row R1.out hg9, Q_G5, Q_X5_, Q_X6_⟩
        exact steps_nil
       rintro b a w2 hall ⟨g5, A2, c2, m5_, m6_, ha, Q_HB, Q_KT, Q_HGL, Q_HBX, Q_HG0, Q_HG1, Q_M0, Q_M1, Q_W0, Q_W5, Q_R1, Q_G5, Q_X5_, Q_X6_⟩
       clear HB HBX HG0 HGL KT M0 W0
       have hb0_ := hall 0 (by kernel_rfl)
       have hb2_ := hall 2 (by kernel_rfl)
       have hb3_ := hall 3 (by kernel_rfl)
       have hb5_ := hall 5 (by kernel_rfl)
       have hb6_ := hall 6 (by kernel_rfl)
       have hb7_ := hall 7 (by kernel_rfl)
       have hb8_ := hall 8 (by kernel_rfl)
       subst ha
       obtain rfl := Q_X5_ hb5_
       obtain rfl := Q_X6_ hb6_
       simp only [putSel, hb0_, hb2_, hb3_, hb5_, hb6_, hb7_, hb8_, if_true, Act.put, List.setIfInBounds_toArray, List.set_cons_zero, List.set_cons_succ]
       have HB := Aside0.mk Q_HB
       clear Q_HB
       have KT := Aside0.mk Q_KT
       clear Q_KT
       have HGL := Aside0.mk Q_HGL
       clear Q_HGL
       have HBX := Aside0.mk Q_HBX
       clear Q_HBX
       clear Q_HG0
       have HG1 := Aside0.mk (Q_HG1 hb7_)
       clear Q_HG1
       clear Q_M0
       have M1 := Aside0.mk (Q_M1 hb8_)
       clear Q_M1
       clear Q_W0
       clear Q_W5
       have R1 := Aside0.mk (Q_R1 hb6_)
       clear Q_R1
       have G5 := Aside0.mk (Q_G5 hb5_)
       clear Q_G5
       clear hall hb0_ hb2_ hb3_ hb5_ hb6_ hb7_ hb8_
       have HGM2 : Aside0 (w2.heap[gm]? = some (.cells #[.int .i64 (mn : Int)] 3 (0, 0))) := ⟨KT.out _ _ _ HGM1.out (by decide) (by decide)⟩; have HGD2 : Aside0 (w2.heap[gd]? = some (.cells #[.int .i64 ev, .slice (some ac) l.length c] 26 (0, 0))) := ⟨KT.out _ _ _ HGD1.out (by decide) (by decide)⟩; have HGE2 : Aside0 (w2.heap[ge]? = some (.cells #[.func (.func 28) #[] #[.pointer (some ⟨gr, 0, none⟩), .pointer (some ⟨gm, 0, none⟩), .pointer (some ⟨gd, 0, none⟩), .pointer (some ⟨gl, 0, none⟩), .pointer (some ⟨ge, 0, none⟩)]] 49 (0, 0))) := ⟨KT.out _ _ _ HGE1.out (by decide) (by decide)⟩; have KT2 : Aside0 (KeepT 2 31 w w2) := ⟨KT1.out.then_ KT.out⟩
       clear HGM1 HGD1 HGE1 KT1 KT RK
       have M2 : Aside0 (MapIs w2 bm (n1 + 1) (usedIn l (ls ++ [xi]))) := ⟨M1.out.tells (Nat.le_refl _) (fun x _ => (Classical.em (x = f0)).elim (fun e => by rw [usedIn_snoc, ← HFX.out, if_pos e, e]; simp) (fun e => by rw [usedIn_snoc, ← HFX.out, if_neg e, beq_eq_false_iff_ne.mpr (Ne.symm e), Bool.or_false]))⟩
       clear M1
       have HLS2 : Aside0 (∀ j : Int, 0 ≤ j → j < ((ls ++ [xi]).length : Int) → 0 ≤ rd (ls ++ [xi]) j ∧ rd (ls ++ [xi]) j < (l.length : Int)) := ⟨fun j h0 h1 => by
         by_cases hj : j < (ls.length : Int)
         ·have e : rd (ls ++ [xi]) j = rd ls j := by unfold rd; rw [List.getD_eq_getElem?_getD, List.getD_eq_getElem?_getD, List.getElem?_append_left (by omega)]
          rw [e]; exact HLS.out j h0 hj
         ·have e1 : j = ((ls ++ [xi]).length : Int) - 1 := by simp at h1 ⊢; omega
          rw [e1, rd_snoc]; exact HXB.out⟩
       have m0 := blk_cell HGE2.out 0
       have m1 := blk_cell HBX.out 2
       cases q' with
       | some xs =>
        dsimp only at HQ2
        go_wp2_with (go_at_call 28; refine (IH.out (ls ++ [xi]) (wrap64 (sum + f2)) (n1 + 1) _ _ _ true xs (by have := HLT1.out; simp; omega) HLS2.out (by have h1 := HI.out; have h2 := HNU.out; have h3 : searchU (r + 1) = 24 * (searchU r + 2) := rfl; have h4 : i * (searchU r + 2) + (searchU r + 2) ≤ 24 * (searchU r + 2) := (by rw [← Nat.succ_mul]; exact Nat.mul_le_mul_right _ (Nat.le_trans HLT.out HL.out)); omega) HB.out HG1.out R1.out HGM2.out HGD2.out HGL.out HGE2.out M2.out HQ1.out rfl rfl).mono ?_; rintro e w3 ⟨rfl, hb3, hk3, ⟨v3, hg3, hr3⟩, hm3⟩; have HB3 := Aside0.mk hb3; have KT3 := Aside0.mk (KT2.out.then_ hk3); have HG3 := Aside0.mk hg3; have HR3 := Aside0.mk hr3; have HM3 := Aside0.mk hm3; have HGM3 := Aside0.mk (hk3 _ _ _ HGM2.out (by decide) (by decide)); have HGD3 := Aside0.mk (hk3 _ _ _ HGD2.out (by decide) (by decide)); have HGL3 := Aside0.mk (hk3 _ _ _ HGL.out (by decide) (by decide)); have HGE3 := Aside0.mk (hk3 _ _ _ HGE2.out (by decide) (by decide)); have HBX3 := Aside0.mk (hk3 _ _ _ HBX.out (by decide) (by decide)); clear hb3 hk3 hg3 hr3 hm3 m0 m1)
        go_ret
        obtain rfl := Option.some.inj HQ2.out
        have hb := HBB.out
        have hx := HX.out
        dsimp only [Option.isSome, Option.getD] at hb hx
        subst hb
        subst hx
        exact ⟨rfl, HB3.out, KT3.out, ⟨_, HG3.out, HR3.out⟩, fun h => by cases h⟩
       | none =>
        dsimp only at HQ2
        go_wp2_with (go_at_call 28; refine (IH.out (ls ++ [xi]) (wrap64 (sum + f2)) (n1 + 1) _ _ _ false (ls ++ [xi]) (by have := HLT1.out; simp; omega) HLS2.out (by have h1 := HI.out; have h2 := HNU.out; have h3 : searchU (r + 1) = 24 * (searchU r + 2) := rfl; have h4 : i * (searchU r + 2) + (searchU r + 2) ≤ 24 * (searchU r + 2) := (by rw [← Nat.succ_mul]; exact Nat.mul_le_mul_right _ (Nat.le_trans HLT.out HL.out)); omega) HB.out HG1.out R1.out HGM2.out HGD2.out HGL.out HGE2.out M2.out HQ1.out rfl rfl).mono ?_; rintro e w3 ⟨rfl, hb3, hk3, ⟨v3, hg3, hr3⟩, hm3⟩; have HB3 := Aside0.mk hb3; have KT3 := Aside0.mk (KT2.out.then_ hk3); have HG3 := Aside0.mk hg3; have HR3 := Aside0.mk hr3; have HM3 := Aside0.mk hm3; have HGM3 := Aside0.mk (hk3 _ _ _ HGM2.out (by decide) (by decide)); have HGD3 := Aside0.mk (hk3 _ _ _ HGD2.out (by decide) (by decide)); have HGL3 := Aside0.mk (hk3 _ _ _ HGL.out (by decide) (by decide)); have HGE3 := Aside0.mk (hk3 _ _ _ HGE2.out (by decide) (by decide)); have HBX3 := Aside0.mk (hk3 _ _ _ HBX.out (by decide) (by decide)); clear hb3 hk3 hg3 hr3 hm3 m0 m1)
        clear HB HG1 R1 HGM2 HGD2 HGE2 KT2 M2 HGL HBX
        obtain ⟨A3, c3, rfl⟩ := Kd.R_slice HR3.out
        obtain ⟨n2, hn2, hm2⟩ := HM3.out (by simp)
        have HN2 := Aside0.mk hn2
        have hla := HLA.out
        have hl10 := HLEN0.out
        have HSUM : Aside0 (IntKind.i64.wrap (la + 1) = la + 1) := ⟨by rw [i64_w]; unfold wrap64; omega⟩
        have HCUT : Aside0 (0 ≤ la + 1 ∧ la + 1 ≤ (c3 : Int) ∧ (la + 1).toNat = ls.length) := ⟨by have h := (Kd.R_reads' HR3.out).2.1; simp at h; omega⟩
        have hr1 := Kd.R_take (m := ls.length) HR3.out (by simp)
        rw [List.take_left' rfl] at hr1
        have HB := Aside0.mk (below_drew1 HB3.out); have HG0 := Aside0.mk (blk_drew HG3.out); have R1 := Aside0.mk (Kd.R_drew hr1); have HGL := Aside0.mk (blk_drew HGL3.out); have HBX := Aside0.mk (blk_drew HBX3.out); have M0 := Aside0.mk (hm2.below (below_drew1 (Below.refl _ _)))
        have HGM1 : Aside0 (w3.drew.heap[gm]? = some (.cells #[.int .i64 (mn : Int)] 3 (0, 0))) := ⟨blk_drew HGM3.out⟩; have HGD1 : Aside0 (w3.drew.heap[gd]? = some (.cells #[.int .i64 ev, .slice (some ac) l.length c] 26 (0, 0))) := ⟨blk_drew HGD3.out⟩; have HGE1 : Aside0 (w3.drew.heap[ge]? = some (.cells #[.func (.func 28) #[] #[.pointer (some ⟨gr, 0, none⟩), .pointer (some ⟨gm, 0, none⟩), .pointer (some ⟨gd, 0, none⟩), .pointer (some ⟨gl, 0, none⟩), .pointer (some ⟨ge, 0, none⟩)]] 49 (0, 0))) := ⟨blk_drew HGE3.out⟩; have KT1 : Aside0 (KeepT 2 31 w w3.drew) := ⟨KT3.out.below (below_drew1 (Below.refl _ _))⟩
        replace HN : Aside0 (n2 < 9223372036854775807) := ⟨by have h1 := HI.out; have h2 := HNU.out; have h3 : searchU (r + 1) = 24 * (searchU r + 2) := rfl; have h4 : i * (searchU r + 2) + (searchU r + 2) ≤ 24 * (searchU r + 2) := (by rw [← Nat.succ_mul]; exact Nat.mul_le_mul_right _ (Nat.le_trans HLT.out HL.out)); have h5 := HN2.out; omega⟩
        clear hn2 hm2 hr1 hla hl10 HB3 HG3 HR3 HM3 HGM3 HGD3 HGL3 HGE3 HBX3 KT3
        refine start_ (n := 9) (S := fun w' => True) (ds := []) #[false, false, false, false, false, false, false, false, false] (by kernel_rfl) rfl rfl trivial (fun hHeld => ?_)
        refine with_tabW ringGo.tab11 ringGo.bits11 (fun HT_ HW_ => ?_)
        generalize w3.drew = wk at HB HGL HBX HG0 M0 R1 HGM1 HGD1 HGE1 KT1 hHeld ⊢
        have KT := trivial
        refine pure_ (i := 1) (N := some 84) (v := ?_) (a' := ?_) #[false, true, false, false, false, false, false, false, false] rfl rfl (any_of HT_.out (by kernel_rfl)) (fun _ _ _ h => h) (Or.inl ⟨by rfl, ?_⟩) ?_ ?_
        rotate_left
        ·intro w'
         go_simp
         with_reducible rfl
        rotate_left
        ·simp only [Act.put, List.setIfInBounds_toArray, List.set_cons_zero, List.set_cons_succ, i64_w, i32_w]
         rfl
        refine pure_ (i := 4) (N := some 87) (v := ?_) (a' := ?_) #[false, true, false, false, true, false, false, false, false] rfl rfl (any_of HT_.out (by kernel_rfl)) (fun _ _ _ h => h) (Or.inl ⟨by rfl, ?_⟩) ?_ ?_
        rotate_left
        ·intro w'
         go_simp
         with_reducible rfl
        rotate_left
        ·simp only [Act.put, List.setIfInBounds_toArray, List.set_cons_zero, List.set_cons_succ, i64_w, i32_w]
         rfl
        refine inv_at [0, 2, 3, 5, 6, 7, 8] (fun a0_ b a w' => a = putSel a0_ b [(0, 83, .map (some bm)), (2, 85, .int .i64 f0), (3, 86, .slice A3 (ls ++ [xi]).length c3), (5, 88, .int .i64 (la + 1)), (6, 89, .slice A3 ls.length c3)] ∧ (Below w0.heap.size w0 w') ∧ (KeepT 2 31 wk w') ∧ (w'.heap[gl]? = some (.cells #[.map (some bm)] 57 (0, 0))) ∧ (w'.heap[gb]? = some (.cells #[.int .i64 f0, .int .i64 f1, .int .i64 f2] 36 (0, 0))) ∧ (b 7 = false → w'.heap[gr]? = some (.cells #[.slice A3 (ls ++ [xi]).length c3] 31 (0, 0))) ∧ (b 7 = true → w'.heap[gr]? = some (.cells #[.slice A3 ls.length c3] 31 (0, 0))) ∧ (b 8 = false → MapIs w' bm n2 (usedIn l (ls ++ [xi]))) ∧ (b 8 = true → MapIs w' bm (n2 + 1) (fun y => if y = f0 then false else usedIn l (ls ++ [xi]) y)) ∧ (Kd.R (Kd.int .i64) 2 w' w0.heap.size (fun _ => True) (.slice A3 ls.length c3) ls)) HT_.out HW_.out (by kernel_rfl) (by kernel_rfl) ?_ ?_ ?_
        ·exact ⟨by simp only [putSel, Bool.false_eq_true, if_false], HB.out, KeepT.refl _ _ _, HGL.out, HBX.out, fun _ => HG0.out, fun h_ => absurd h_ (by decide), fun _ => M0.out, fun h_ => absurd h_ (by decide), R1.out⟩
        ·skip
         clear HB HBX HG0 HGL KT M0 R1
         refine steps_cons ?_ ?_
         ·rintro b a w' ⟨ha, Q_HB, Q_KT, Q_HGL, Q_HBX, Q_HG0, Q_HG1, Q_M0, Q_M1, Q_R1⟩ hb_ hon hoff
          refine ⟨_, rfl, fun K hK => ?_⟩
          have e4 : a.tmps[4]? = some (.pointer (some ⟨gl, 0, none⟩)) := by rw [ha]; exact (putSel_off rfl).trans rfl
          replace ha := Aside0.mk ha
          have HB := Aside0.mk Q_HB
          have KT := Aside0.mk Q_KT
          have HGL := Aside0.mk Q_HGL
          have HBX := Aside0.mk Q_HBX
          have M0 := Aside0.mk (Q_M0 (hoff 8 (by kernel_rfl)))
          have R1 := Aside0.mk Q_R1
          have hcgl0_ : w'.cell? ⟨gl, 0, none⟩ = some (.map (some bm)) := (blk_cell HGL.out 0).trans rfl
          refine value_ (w1 := w') (v := .map (some bm)) (by rfl) rfl ?_ ?_
          ·go_simp
           (try simp only [i64_w])
           try rfl
          refine hK.out _ _ ⟨(by rw [ha.out]; exact putSel_upk 0 hb_ rfl rfl rfl), Q_HB, Q_KT, Q_HGL, Q_HBX, Q_HG0, Q_HG1, Q_M0, fun h0_ => absurd ((hoff 8 (by kernel_rfl)).symm.trans h0_) (by decide), Q_R1⟩
         refine steps_cons ?_ ?_
         ·rintro b a w' ⟨ha, Q_HB, Q_KT, Q_HGL, Q_HBX, Q_HG0, Q_HG1, Q_M0, Q_M1, Q_R1⟩ hb_ hon hoff
          refine ⟨_, rfl, fun K hK => ?_⟩
          have e84 : a.tmps[84]? = some (.pointer (some ⟨gb, 0, none⟩)) := by rw [ha]; exact (putSel_off rfl).trans rfl
          replace ha := Aside0.mk ha
          have HB := Aside0.mk Q_HB
          have KT := Aside0.mk Q_KT
          have HGL := Aside0.mk Q_HGL
          have HBX := Aside0.mk Q_HBX
          have M0 := Aside0.mk (Q_M0 (hoff 8 (by kernel_rfl)))
          have R1 := Aside0.mk Q_R1
          have hcgb0_ : w'.cell? ⟨gb, 0, none⟩ = some (.int .i64 f0) := (blk_cell HBX.out 0).trans rfl
          refine value_ (w1 := w') (v := .int .i64 f0) (by rfl) rfl ?_ ?_
          ·go_simp
           (try simp only [i64_w])
           try rfl
          refine hK.out _ _ ⟨(by rw [ha.out]; exact putSel_upk 1 hb_ rfl rfl rfl), Q_HB, Q_KT, Q_HGL, Q_HBX, Q_HG0, Q_HG1, Q_M0, fun h0_ => absurd ((hoff 8 (by kernel_rfl)).symm.trans h0_) (by decide), Q_R1⟩
         refine steps_cons ?_ ?_
         ·rintro b a w' ⟨ha, Q_HB, Q_KT, Q_HGL, Q_HBX, Q_HG0, Q_HG1, Q_M0, Q_M1, Q_R1⟩ hb_ hon hoff
          refine ⟨_, rfl, fun K hK => ?_⟩
          have e1 : a.tmps[1]? = some (.pointer (some ⟨gr, 0, none⟩)) := by rw [ha]; exact (putSel_off rfl).trans rfl
          replace ha := Aside0.mk ha
          have HB := Aside0.mk Q_HB
          have KT := Aside0.mk Q_KT
          have HGL := Aside0.mk Q_HGL
          have HBX := Aside0.mk Q_HBX
          have HG0 := Aside0.mk (Q_HG0 (hoff 7 (by kernel_rfl)))
          have M0 := Aside0.mk (Q_M0 (hoff 8 (by kernel_rfl)))
          have R1 := Aside0.mk Q_R1
          have hcgr0_ : w'.cell? ⟨gr, 0, none⟩ = some (.slice A3 (ls ++ [xi]).length c3) := (blk_cell HG0.out 0).trans rfl
          refine value_ (w1 := w') (v := .slice A3 (ls ++ [xi]).length c3) (by rfl) rfl ?_ ?_
          ·go_simp
           (try simp only [i64_w])
           try rfl
          refine hK.out _ _ ⟨(by rw [ha.out]; exact putSel_upk 2 hb_ rfl rfl rfl), Q_HB, Q_KT, Q_HGL, Q_HBX, Q_HG0, fun h0_ => absurd ((hoff 7 (by kernel_rfl)).symm.trans h0_) (by decide), Q_M0, fun h0_ => absurd ((hoff 8 (by kernel_rfl)).symm.trans h0_) (by decide), Q_R1⟩
         refine steps_cons ?_ ?_
         ·rintro b a w' ⟨ha, Q_HB, Q_KT, Q_HGL, Q_HBX, Q_HG0, Q_HG1, Q_M0, Q_M1, Q_R1⟩ hb_ hon hoff
          refine ⟨_, rfl, fun K hK => ?_⟩
          have e87 : a.tmps[87]? = some (.int .i64 la) := by rw [ha]; exact (putSel_off rfl).trans rfl
          replace ha := Aside0.mk ha
          have HB := Aside0.mk Q_HB
          have KT := Aside0.mk Q_KT
          have HGL := Aside0.mk Q_HGL
          have HBX := Aside0.mk Q_HBX
          have HG0 := Aside0.mk (Q_HG0 (hoff 7 (by kernel_rfl)))
          have M0 := Aside0.mk (Q_M0 (hoff 8 (by kernel_rfl)))
          have R1 := Aside0.mk Q_R1
          have hs_ := HSUM.out
          refine value_ (w1 := w') (v := .int .i64 (la + 1)) (by rfl) rfl ?_ ?_
          ·go_simp
           (try simp only [i64_w])
           try rfl
          refine hK.out _ _ ⟨(by rw [ha.out]; exact putSel_upk 3 hb_ rfl rfl rfl), Q_HB, Q_KT, Q_HGL, Q_HBX, Q_HG0, fun h0_ => absurd ((hoff 7 (by kernel_rfl)).symm.trans h0_) (by decide), Q_M0, fun h0_ => absurd ((hoff 8 (by kernel_rfl)).symm.trans h0_) (by decide), Q_R1⟩
         refine steps_cons ?_ ?_
         ·rintro b a w' ⟨ha, Q_HB, Q_KT, Q_HGL, Q_HBX, Q_HG0, Q_HG1, Q_M0, Q_M1, Q_R1⟩ hb_ hon hoff
          refine ⟨_, rfl, fun K hK => ?_⟩
          have e86 : a.tmps[86]? = some (.slice A3 (ls ++ [xi]).length c3) := by rw [ha]; exact putSel_on (e := (3, 86, .slice A3 (ls ++ [xi]).length c3)) 2 rfl rfl (hon 3 (by kernel_rfl)) rfl
          have e88 : a.tmps[88]? = some (.int .i64 (la + 1)) := by rw [ha]; exact putSel_on (e := (5, 88, .int .i64 (la + 1))) 3 rfl rfl (hon 5 (by kernel_rfl)) rfl
          replace ha := Aside0.mk ha
          have HB := Aside0.mk Q_HB
          have KT := Aside0.mk Q_KT
          have HGL := Aside0.mk Q_HGL
          have HBX := Aside0.mk Q_HBX
          have HG0 := Aside0.mk (Q_HG0 (hoff 7 (by kernel_rfl)))
          have M0 := Aside0.mk (Q_M0 (hoff 8 (by kernel_rfl)))
          have R1 := Aside0.mk Q_R1
          have hs1_ := eq_true HCUT.out.1
          have hs2_ := eq_true HCUT.out.2.1
          have hs3_ := HCUT.out.2.2
          have hs4_ := HCUT.out.1
          have hs5_ := HCUT.out.2.1
          refine value_ (w1 := w') (v := .slice A3 ls.length c3) (by rfl) rfl ?_ ?_
          ·go_simp
           (try simp only [i64_w])
           try rfl
          refine hK.out _ _ ⟨(by rw [ha.out]; exact putSel_upk 4 hb_ rfl rfl rfl), Q_HB, Q_KT, Q_HGL, Q_HBX, Q_HG0, fun h0_ => absurd ((hoff 7 (by kernel_rfl)).symm.trans h0_) (by decide), Q_M0, fun h0_ => absurd ((hoff 8 (by kernel_rfl)).symm.trans h0_) (by decide), Q_R1⟩
         refine steps_cons ?_ ?_
         ·rintro b a w' ⟨ha, Q_HB, Q_KT, Q_HGL, Q_HBX, Q_HG0, Q_HG1, Q_M0, Q_M1, Q_R1⟩ hb_ hon hoff
          refine ⟨_, rfl, fun K hK => ?_⟩
          have e1 : a.tmps[1]? = some (.pointer (some ⟨gr, 0, none⟩)) := by rw [ha]; exact (putSel_off rfl).trans rfl
          have e89 : a.tmps[89]? = some (.slice A3 ls.length c3) := by rw [ha]; exact putSel_on (e := (6, 89, .slice A3 ls.length c3)) 4 rfl rfl (hon 6 (by kernel_rfl)) rfl
          replace ha := Aside0.mk ha
          have HB := Aside0.mk Q_HB
          have KT := Aside0.mk Q_KT
          have HGL := Aside0.mk Q_HGL
          have HBX := Aside0.mk Q_HBX
          have HG0 := Aside0.mk (Q_HG0 hb_)
          have M0 := Aside0.mk (Q_M0 (hoff 8 (by kernel_rfl)))
          have R1 := Aside0.mk Q_R1
          have hz_ := blk_cell HG0.out 0
          have hf_ := blk_frozen HG0.out 0
          refine skip_ (w1 := w'.setCell ⟨gr, 0, none⟩ (.slice A3 ls.length c3)) (by rfl) rfl ?_ ?_
          ·go_simp
          refine hK.out _ _ ⟨(by rw [ha.out]; exact putSel_none (v := undef) rfl), below_set HB.out HGE.out.1, KeepT.set KT.out HG0.out, blk_far HGL.out (p := ⟨gr, 0, none⟩) (blk_ne HGL.out HG0.out (by decide)) (.slice A3 ls.length c3), blk_far HBX.out (p := ⟨gr, 0, none⟩) (blk_ne HBX.out HG0.out (by decide)) (.slice A3 ls.length c3), fun h0_ => absurd ((up_self b 7).symm.trans h0_) (by decide), fun _ => blk_put HG0.out 0 (.slice A3 ls.length c3) rfl, fun _ => MapIs.set M0.out HG0.out, fun h0_ => absurd ((hoff 8 (by kernel_rfl)).symm.trans h0_) (by decide), Kd.R_set R1.out HG0.out (by intro q hq; have hq : q ∈ [2] := hq; simp at hq; omega) 0 (.slice A3 ls.length c3)⟩
         refine steps_cons ?_ ?_
         ·rintro b a w' ⟨ha, Q_HB, Q_KT, Q_HGL, Q_HBX, Q_HG0, Q_HG1, Q_M0, Q_M1, Q_R1⟩ hb_ hon hoff
          refine ⟨_, rfl, fun K hK => ?_⟩
          have e83 : a.tmps[83]? = some (.map (some bm)) := by rw [ha]; exact putSel_on (e := (0, 83, .map (some bm))) 0 rfl rfl (hon 0 (by kernel_rfl)) rfl
          have e85 : a.tmps[85]? = some (.int .i64 f0) := by rw [ha]; exact putSel_on (e := (2, 85, .int .i64 f0)) 1 rfl rfl (hon 2 (by kernel_rfl)) rfl
          replace ha := Aside0.mk ha
          have HB := Aside0.mk Q_HB
          have KT := Aside0.mk Q_KT
          have HGL := Aside0.mk Q_HGL
          have HBX := Aside0.mk Q_HBX
          have HG1 := Aside0.mk (Q_HG1 (hon 7 (by kernel_rfl)))
          have M0 := Aside0.mk (Q_M0 hb_)
          have R1 := Aside0.mk Q_R1
          obtain ⟨w9, hr9, hm9, hg9⟩ := M0.out.put HN.out f0 HF0.out false
          obtain ⟨es9, cl9, hb9⟩ := M0.out.block
          refine skip_ (w1 := w9) (by rfl) rfl ?_ ?_
          ·first | (go_simp; done) | (go_simp; rfl)
          refine hK.out _ _ ⟨(by rw [ha.out]; exact putSel_none (v := undef) rfl), Below.grown HB.out hg9 (below_size HB.out) (fun j hj => by cases hj; exact HGE.out.2), KeepT.map KT.out hb9 hg9, blk_grown HGL.out hg9 (M0.out.ne HGL.out), blk_grown HBX.out hg9 (M0.out.ne HBX.out), fun h0_ => absurd ((hon 7 (by kernel_rfl)).symm.trans h0_) (by decide), fun _ => blk_grown HG1.out hg9 (M0.out.ne HG1.out), fun h0_ => absurd ((up_self b 8).symm.trans h0_) (by decide), fun _ => hm9, M0.out.row R1.out hg9⟩
         exact steps_nil
        rintro b a w4 hall ⟨ha, Q_HB, Q_KT, Q_HGL, Q_HBX, Q_HG0, Q_HG1, Q_M0, Q_M1, Q_R1⟩
        clear HB HBX HG0 HGL KT M0 R1
        have hb0_ := hall 0 (by kernel_rfl)
        have hb2_ := hall 2 (by kernel_rfl)
        have hb3_ := hall 3 (by kernel_rfl)
        have hb5_ := hall 5 (by kernel_rfl)
        have hb6_ := hall 6 (by kernel_rfl)
        have hb7_ := hall 7 (by kernel_rfl)
        have hb8_ := hall 8 (by kernel_rfl)
        subst ha
        simp only [putSel, hb0_, hb2_, hb3_, hb5_, hb6_, hb7_, hb8_, if_true, Act.put, List.setIfInBounds_toArray, List.set_cons_zero, List.set_cons_succ]
        have HB := Aside0.mk Q_HB
        clear Q_HB
        have KT := Aside0.mk Q_KT
        clear Q_KT
        have HGL := Aside0.mk Q_HGL
        clear Q_HGL
        have HBX := Aside0.mk Q_HBX
        clear Q_HBX
        clear Q_HG0
        have HG1 := Aside0.mk (Q_HG1 hb7_)
        clear Q_HG1
        clear Q_M0
        have M1 := Aside0.mk (Q_M1 hb8_)
        clear Q_M1
        have R1 := Aside0.mk Q_R1
        clear Q_R1
        clear hall hb0_ hb2_ hb3_ hb5_ hb6_ hb7_ hb8_
        have HGM2 : Aside0 (w4.heap[gm]? = some (.cells #[.int .i64 (mn : Int)] 3 (0, 0))) := ⟨KT.out _ _ _ HGM1.out (by decide) (by decide)⟩; have HGD2 : Aside0 (w4.heap[gd]? = some (.cells #[.int .i64 ev, .slice (some ac) l.length c] 26 (0, 0))) := ⟨KT.out _ _ _ HGD1.out (by decide) (by decide)⟩; have HGE2 : Aside0 (w4.heap[ge]? = some (.cells #[.func (.func 28) #[] #[.pointer (some ⟨gr, 0, none⟩), .pointer (some ⟨gm, 0, none⟩), .pointer (some ⟨gd, 0, none⟩), .pointer (some ⟨gl, 0, none⟩), .pointer (some ⟨ge, 0, none⟩)]] 49 (0, 0))) := ⟨KT.out _ _ _ HGE1.out (by decide) (by decide)⟩; have KT2 : Aside0 (KeepT 2 31 w w4) := ⟨KT1.out.then_ KT.out⟩
        clear HGM1 HGD1 HGE1 KT1 KT
        have M2 : Aside0 (MapIs w4 bm (n2 + 1) (usedIn l ls)) := ⟨M1.out.tells (Nat.le_refl _) (fun x _ => (Classical.em (x = f0)).elim (fun e => by rw [if_pos e, e, HU.out]) (fun e => by rw [if_neg e, usedIn_snoc, ← HFX.out, beq_eq_false_iff_ne.mpr (Ne.symm e), Bool.or_false]))⟩
        clear M1
        go_wp2
        have hxi := HXI.out
        have hd := HD.out
        have hi := HI.out
        have hsu : (i + 1) * (searchU r + 2) = i * (searchU r + 2) + (searchU r + 2) := Nat.succ_mul _ _
        have hn2 := HN2.out
        have hlen : l.length ≤ 24 := HL.out
        go_roundg (l.length - i)
        case measure => omega
        case rel => exact ⟨i + 1, n2 + 1, _, by first | (rw [show wrap64 (xi + 1) = ((i + 1 : Nat) : Int) from by unfold wrap64; omega]) | (rw [i64_w, show wrap64 (xi + 1) = ((i + 1 : Nat) : Int) from by unfold wrap64; omega]) | (rw [show xi + 1 = ((i + 1 : Nat) : Int) from by omega]), ⟨by omega⟩, HB, KT2, HG1, R1, HGM2, HGD2, HGL, HGE2, M2, ⟨by rw [show l.length - (i + 1) = d by omega]; exact HQ2.out⟩⟩
    ·have hlt' : ¬ (xi < (l.length : Int)) := by omega
     have c2 : decide (xi < (l.length : Int)) = false := decide_eq_false hlt'
     have p2 := eq_false hlt'
     have hq := HQ.out
     rw [show l.length - i = 0 by omega] at hq
     have hq : none = q := Option.some.inj hq
     subst hq
     have hb := HBB.out
     have hx := HX.out
     dsimp only [Option.isSome, Option.getD] at hb hx
     clear HQ hlt hxi
     have HB1 := Aside0.mk hb; have HX1 := Aside0.mk hx
     clear hb hx
     go_wp2
     go_ret
     have hb := HB1.out
     subst hb
     have hx := HX1.out
     subst hx
     refine ⟨rfl, HB.out, KT0.out, ⟨_, HG0.out, HR.out⟩, fun _ => ⟨n1, ?_, M0.out⟩⟩
     have h1 := HI.out
     have h3 : searchU (r + 1) = 24 * (searchU r + 2) := rfl
     have h4 : i * (searchU r + 2) ≤ 24 * (searchU r + 2) := Nat.mul_le_mul_right _ (Nat.le_trans h1.1 HL.out)
     omega

end Go.Proofs.Ythgmolenlpagkaa.Pa

namespace Go.Proofs.Ythgmolenlpagkaa.Pa
open Go.RowKit Go.Proofs.YthgmolenlpagkaaW.PrintWords Go.Proofs.YthgmolenlpagkaaW.PrintLast Go.Proofs.YthgmolenlpagkaaW.PrintMore
attribute [local go_sem] max2_int min2_int max_two min_two max_three min_three max_four min_four   -- for this text's walks alone
set_option linter.unusedVariables false
set_option linter.unusedSimpArgs false

/-! ### AUX ringTop -/
theorem searchU_le : ∀ r, r ≤ 11 → searchU r ≤ 9000000000000000000 := by
 intro r hr
 have hm : ∀ d, searchU r ≤ searchU (r + d) := by
  intro d
  induction d with
  | zero => exact Nat.le_refl _
  | succ d ih =>
   refine Nat.le_trans ih ?_
   show searchU (r + d) ≤ 24 * (searchU (r + d) + 2)
   omega
 have := hm (11 - r)
 rw [show r + (11 - r) = 11 by omega] at this
 exact Nat.le_trans this (by decide)
theorem ringL_len (l : List S36) (rec : List Int → Int → Option (Option (List Int))) (mn : Nat) (hrec : ∀ ls s x, rec ls s = some (some x) → x.length = mn) : ∀ d i ls s x, ringL l rec d i ls s = some (some x) → x.length = mn := by
 intro d
 induction d with
 | zero => intro i ls s x h; cases h
 | succ d ih =>
  intro i ls s x h
  unfold ringL at h
  split at h
  ·exact ih _ _ _ _ h
  ·obtain ⟨q, hq, h⟩ := Option.bind_eq_some_iff.mp h
   cases q with
   | some y => obtain rfl := Option.some.inj (Option.some.inj h); exact hrec _ _ _ hq
   | none => exact ih _ _ _ _ h
theorem ringP_len (l : List S36) (mn : Nat) : ∀ r ls s x, ringP l mn r ls s = some (some x) → x.length = mn := by
 intro r
 induction r with
 | zero => intro ls s x h; cases h
 | succ r ih =>
  intro ls s x h
  unfold ringP at h
  split at h
  ·rename_i hl
   have h := Option.some.inj h
   split at h
   ·obtain rfl := Option.some.inj h; exact hl
   ·cases h
  ·exact ringL_len l _ mn ih _ _ _ _ _ h
set_option maxHeartbeats 16000000 in
set_option maxRecDepth 100000 in
theorem fallingRing.calls (ev : Int) (A : Option Addr) (c : Nat) (l : List S36) (mn : Nat) (q : Option (List Int)) (b : Bool) (x : List Int) (w : World) (hcl : Kd.C k36 w A l.length l) (hc : l.length ≤ c) (hl : l.length ≤ 24) (hm1 : 1 ≤ mn) (hm2 : mn ≤ 10) (hf : ∀ i : Int, 0 ≤ i → i < (l.length : Int) → 0 ≤ (rd_T36 l i).f0 ∧ (rd_T36 l i).f0 ≤ 1000) (hp : ringP l mn (mn + 1) [] 0 = some q) (hb : q.isSome = b) (hx : q.getD [] = x) :
  Calls Try.prog 15 #[.agg #[.int .i64 ev, .slice A l.length c], .int .i64 (mn : Int)] w fun e w' => ∃ v0_ : Value, e = .returned v0_ ∧ Kd.R (Kd.int .i64) 2 w' w.heap.size (fun _ => True) v0_ x ∧ Below w.heap.size w w' ∧ (b = false → v0_ = .slice none 0 0) := by
 have hu := Try.underlying26
 have hu2 := Try.underlying36
 have hu3 := Try.underlying4
 have hu4 := Try.underlying49
 have hu5 := Try.underlying57
 have HCL := Aside0.mk hcl; have HC := Aside0.mk hc; have HL := Aside0.mk hl; have HM1 := Aside0.mk hm1; have HM2 := Aside0.mk hm2; have HF := Aside0.mk hf; have HP := Aside0.mk hp
 have HU : Aside0 (0 + searchU (mn + 1) ≤ 9000000000000000000) := ⟨by have := searchU_le (mn + 1) (by omega); omega⟩
 clear hcl hc hl hm1 hm2 hf hp
 have hmm := @run_makeMap Try.prog
 cases q with
 | none =>
  subst hb
  subst hx
  go_enter Try.func15, Try.ntmps15
  go_wp2_with (first | ((with_reducible refine gate_dst (N := 2) rfl ?_); refine box_event ?hg (N := 2) ?hd (cs := #[.int .i64 ev, .slice A l.length c]) (t := 26) ?hr ?_; (case hd => rfl); (case hg => rfl); (case hr => first | (go_simp; done) | (go_simp; rfl)); intro gd hg_ w1 hbox_ hb_; have HX_gd := Aside0.mk hbox_; have HB_w1 := Aside0.mk hb_; have HG_gd := Aside0.mk hg_; clear hbox_ hb_ hg_) | ((with_reducible refine gate_dst (N := 3) rfl ?_); refine box_event ?hg (N := 3) ?hd (cs := #[.int .i64 (mn : Int)]) (t := 3) ?hr ?_; (case hd => rfl); (case hg => rfl); (case hr => first | (go_simp; done) | (go_simp; rfl)); intro gm hg_ w2 hbox_ hb_; have HX_gm := Aside0.mk hbox_; have HB_w2 := Aside0.mk hb_; have HG_gm := Aside0.mk hg_; clear hbox_ hb_ hg_; have HB2 := Aside0.mk (below_step HB_w1.out HB_w2.out); have HGD2 := Aside0.mk (blk_below HX_gd.out HB_w2.out)) | ((with_reducible refine gate_dst (N := 8) rfl ?_); refine Kd.R_lit (Kd.int .i64) _ 2 ?hg (N := 8) ?hd (xs := ([] : List Int)) (inner := []) (ok := fun _ => True) (okp := fun _ => True) ?hr ?hp (fun _ hk => hk) trivial (Below.refl _ _) (Nat.le_refl _) (by simp) ?_; (case hd => rfl); (case hg => rfl); (case hr => first | (go_simp; done) | (go_simp; rfl)); (case hp => exact (Reps.none _ _)); intro v8 w3 ho hb hg_ hnew_; obtain ⟨A8, c8, e8⟩ := Kd.R_slice ho; replace e8 : v8 = .slice A8 0 c8 := e8; subst e8; have HR3 := Aside0.mk (Kd.R_lower ho (below_size HB2.out)); have HB3 := Aside0.mk (below_step HB2.out hb); have HGD3 := Aside0.mk (blk_below HGD2.out hb); have HGM3 := Aside0.mk (blk_below HX_gm.out hb); clear hg_ hnew_ ho hb) | ((with_reducible refine gate_dst (N := 5) rfl ?_); refine box_event ?hg (N := 5) ?hd (cs := #[.slice none 0 0]) (t := 31) ?hr ?_; (case hd => rfl); (case hg => rfl); (case hr => first | (go_simp; done) | (go_simp; rfl)); intro gr hg_ w4 hbox_ hb_; have HX_gr := Aside0.mk hbox_; have HB_w4 := Aside0.mk hb_; have HG_gr := Aside0.mk hg_; clear hbox_ hb_ hg_; have ha_ : Below w3.heap.size w3 (w3.alloc (.map #[] 0)) := below_alloc (Below.refl _ _) _; have M3 := Aside0.mk (MapIs.made w3 (usedIn l []) (fun _ => rfl)); have M4 := Aside0.mk (M3.out.below HB_w4.out); have HB4 := Aside0.mk (below_step (below_step HB3.out ha_) HB_w4.out); have HR4 := Aside0.mk (Kd.R_below (Kd.R_below HR3.out ha_) HB_w4.out); have HGD4 := Aside0.mk (blk_below (blk_below HGD3.out ha_) HB_w4.out); have HGM4 := Aside0.mk (blk_below (blk_below HGM3.out ha_) HB_w4.out); have HSZ4 : Aside0 (w.heap.size ≤ w3.heap.size ∧ w3.heap.size + 1 ≤ gr) := ⟨by have h1 := below_size HB3.out; have h2 := HG_gr.out; simp at h2; omega⟩; clear ha_ M3 HG_gr) | ((with_reducible refine gate_dst (N := 6) rfl ?_); refine box_event ?hg (N := 6) ?hd (cs := #[.map none]) (t := 57) ?hr ?_; (case hd => rfl); (case hg => rfl); (case hr => first | (go_simp; done) | (go_simp; rfl)); intro gl hg_ w5 hbox_ hb_; have HX_gl := Aside0.mk hbox_; have HB_w5 := Aside0.mk hb_; have HG_gl := Aside0.mk hg_; clear hbox_ hb_ hg_; have M5 := Aside0.mk (M4.out.below HB_w5.out); have HB5 := Aside0.mk (below_step HB4.out HB_w5.out); have HR5 := Aside0.mk (Kd.R_below HR4.out HB_w5.out); have HGD5 := Aside0.mk (blk_below HGD4.out HB_w5.out); have HGM5 := Aside0.mk (blk_below HGM4.out HB_w5.out); have HGR5 := Aside0.mk (blk_below HX_gr.out HB_w5.out); have HNE5 := Aside0.mk (blk_ne HGR5.out HX_gl.out (by decide)); have HGE5 : Aside0 (w.heap.size ≤ gl) := ⟨by rw [HG_gl.out]; exact below_size HB4.out⟩; have k1 := blk_cell HGR5.out 0; have k2 := blk_frozen HGR5.out 0; have k3 := blk_cell HX_gl.out 0; have k4 := blk_frozen HX_gl.out 0; have kn := HNE5.out; have kn2 := Ne.symm HNE5.out; clear M4 HR4 HGD4 HGM4 HG_gl) | ((with_reducible refine gate_dst (N := 7) rfl ?_); have HGR6 : Aside0 (((w5.setCell ⟨gr, 0, none⟩ (.slice A8 0 c8)).setCell ⟨gl, 0, none⟩ (.map (some w3.heap.size))).heap[gr]? = some (.cells #[.slice A8 0 c8] 31 (0, 0))) := ⟨blk_far (blk_put HGR5.out 0 (.slice A8 0 c8) rfl) (p := ⟨gl, 0, none⟩) HNE5.out _⟩; have HGL6 : Aside0 (((w5.setCell ⟨gr, 0, none⟩ (.slice A8 0 c8)).setCell ⟨gl, 0, none⟩ (.map (some w3.heap.size))).heap[gl]? = some (.cells #[.map (some w3.heap.size)] 57 (0, 0))) := ⟨blk_put (blk_far HX_gl.out (p := ⟨gr, 0, none⟩) (Ne.symm HNE5.out) (.slice A8 0 c8)) 0 _ rfl⟩; have HGM6 : Aside0 (((w5.setCell ⟨gr, 0, none⟩ (.slice A8 0 c8)).setCell ⟨gl, 0, none⟩ (.map (some w3.heap.size))).heap[gm]? = some (.cells #[.int .i64 (mn : Int)] 3 (0, 0))) := ⟨blk_far (blk_far HGM5.out (p := ⟨gr, 0, none⟩) (blk_ne HGM5.out HGR5.out (by decide)) (.slice A8 0 c8)) (p := ⟨gl, 0, none⟩) (blk_ne HGM5.out HX_gl.out (by decide)) _⟩; have HGD6 : Aside0 (((w5.setCell ⟨gr, 0, none⟩ (.slice A8 0 c8)).setCell ⟨gl, 0, none⟩ (.map (some w3.heap.size))).heap[gd]? = some (.cells #[.int .i64 ev, .slice A l.length c] 26 (0, 0))) := ⟨blk_far (blk_far HGD5.out (p := ⟨gr, 0, none⟩) (blk_ne HGD5.out HGR5.out (by decide)) (.slice A8 0 c8)) (p := ⟨gl, 0, none⟩) (blk_ne HGD5.out HX_gl.out (by decide)) _⟩; have HR6 : Aside0 (Kd.R (Kd.int .i64) 2 ((w5.setCell ⟨gr, 0, none⟩ (.slice A8 0 c8)).setCell ⟨gl, 0, none⟩ (.map (some w3.heap.size))) w.heap.size (fun _ => True) (.slice A8 0 c8) []) := ⟨Kd.R_set (Kd.R_set HR5.out HGR5.out (by intro q hq; have hq : q ∈ [2] := hq; simp at hq; omega) 0 (.slice A8 0 c8)) (blk_far HX_gl.out (p := ⟨gr, 0, none⟩) (Ne.symm HNE5.out) (.slice A8 0 c8)) (by intro q hq; have hq : q ∈ [2] := hq; simp at hq; omega) 0 _⟩; have M6 : Aside0 (MapIs ((w5.setCell ⟨gr, 0, none⟩ (.slice A8 0 c8)).setCell ⟨gl, 0, none⟩ (.map (some w3.heap.size))) w3.heap.size 0 (usedIn l [])) := ⟨MapIs.set (MapIs.set M5.out HGR5.out) (blk_far HX_gl.out (p := ⟨gr, 0, none⟩) (Ne.symm HNE5.out) (.slice A8 0 c8))⟩; have HB6 : Aside0 (Below w.heap.size w ((w5.setCell ⟨gr, 0, none⟩ (.slice A8 0 c8)).setCell ⟨gl, 0, none⟩ (.map (some w3.heap.size)))) := ⟨below_set (below_set HB5.out (by have := HSZ4.out; omega)) HGE5.out⟩; generalize ((w5.setCell ⟨gr, 0, none⟩ (.slice A8 0 c8)).setCell ⟨gl, 0, none⟩ (.map (some w3.heap.size))) = w6 at HGR6 HGL6 HGM6 HGD6 HR6 M6 HB6 ⊢; clear k1 k2 k3 k4 kn kn2; (with_reducible refine gate_dst (N := 7) rfl ?_); refine box_event ?hg (N := 7) ?hd (cs := #[.nilFunc]) (t := 49) ?hr ?_; (case hd => rfl); (case hg => rfl); (case hr => first | (go_simp; done) | (go_simp; rfl)); intro ge hg_ w7 hbox_ hb_; have HX_ge := Aside0.mk hbox_; have HB_w7 := Aside0.mk hb_; have HG_ge := Aside0.mk hg_; clear hbox_ hb_ hg_; have M7 := Aside0.mk (M6.out.below HB_w7.out); have HB7 := Aside0.mk (below_step HB6.out HB_w7.out); have HR7 := Aside0.mk (Kd.R_below HR6.out HB_w7.out); have HGD7 := Aside0.mk (blk_below HGD6.out HB_w7.out); have HGM7 := Aside0.mk (blk_below HGM6.out HB_w7.out); have HGR7 := Aside0.mk (blk_below HGR6.out HB_w7.out); have HGL7 := Aside0.mk (blk_below HGL6.out HB_w7.out); have HGE7 : Aside0 (w.heap.size ≤ ge) := ⟨by rw [HG_ge.out]; exact below_size HB6.out⟩; have k1 : w7.cell? ⟨ge, 0, none⟩ = some .nilFunc := (blk_cell HX_ge.out 0).trans rfl; have k2 := blk_frozen HX_ge.out 0; clear HG_ge) | (go_at_call 28; have HGR8 : Aside0 ((w7.setCell ⟨ge, 0, none⟩ (.func (.func 28) #[] #[.pointer (some ⟨gr, 0, none⟩), .pointer (some ⟨gm, 0, none⟩), .pointer (some ⟨gd, 0, none⟩), .pointer (some ⟨gl, 0, none⟩), .pointer (some ⟨ge, 0, none⟩)])).heap[gr]? = some (.cells #[.slice A8 0 c8] 31 (0, 0))) := ⟨blk_far HGR7.out (p := ⟨ge, 0, none⟩) (blk_ne HGR7.out HX_ge.out (by decide)) _⟩; have HGL8 : Aside0 ((w7.setCell ⟨ge, 0, none⟩ (.func (.func 28) #[] #[.pointer (some ⟨gr, 0, none⟩), .pointer (some ⟨gm, 0, none⟩), .pointer (some ⟨gd, 0, none⟩), .pointer (some ⟨gl, 0, none⟩), .pointer (some ⟨ge, 0, none⟩)])).heap[gl]? = some (.cells #[.map (some w3.heap.size)] 57 (0, 0))) := ⟨blk_far HGL7.out (p := ⟨ge, 0, none⟩) (blk_ne HGL7.out HX_ge.out (by decide)) _⟩; have HGM8 : Aside0 ((w7.setCell ⟨ge, 0, none⟩ (.func (.func 28) #[] #[.pointer (some ⟨gr, 0, none⟩), .pointer (some ⟨gm, 0, none⟩), .pointer (some ⟨gd, 0, none⟩), .pointer (some ⟨gl, 0, none⟩), .pointer (some ⟨ge, 0, none⟩)])).heap[gm]? = some (.cells #[.int .i64 (mn : Int)] 3 (0, 0))) := ⟨blk_far HGM7.out (p := ⟨ge, 0, none⟩) (blk_ne HGM7.out HX_ge.out (by decide)) _⟩; have HGD8 : Aside0 ((w7.setCell ⟨ge, 0, none⟩ (.func (.func 28) #[] #[.pointer (some ⟨gr, 0, none⟩), .pointer (some ⟨gm, 0, none⟩), .pointer (some ⟨gd, 0, none⟩), .pointer (some ⟨gl, 0, none⟩), .pointer (some ⟨ge, 0, none⟩)])).heap[gd]? = some (.cells #[.int .i64 ev, .slice A l.length c] 26 (0, 0))) := ⟨blk_far HGD7.out (p := ⟨ge, 0, none⟩) (blk_ne HGD7.out HX_ge.out (by decide)) _⟩; have HGE8 : Aside0 ((w7.setCell ⟨ge, 0, none⟩ (.func (.func 28) #[] #[.pointer (some ⟨gr, 0, none⟩), .pointer (some ⟨gm, 0, none⟩), .pointer (some ⟨gd, 0, none⟩), .pointer (some ⟨gl, 0, none⟩), .pointer (some ⟨ge, 0, none⟩)])).heap[ge]? = some (.cells #[.func (.func 28) #[] #[.pointer (some ⟨gr, 0, none⟩), .pointer (some ⟨gm, 0, none⟩), .pointer (some ⟨gd, 0, none⟩), .pointer (some ⟨gl, 0, none⟩), .pointer (some ⟨ge, 0, none⟩)]] 49 (0, 0))) := ⟨blk_put HX_ge.out 0 _ rfl⟩; have HR8 : Aside0 (Kd.R (Kd.int .i64) 2 (w7.setCell ⟨ge, 0, none⟩ (.func (.func 28) #[] #[.pointer (some ⟨gr, 0, none⟩), .pointer (some ⟨gm, 0, none⟩), .pointer (some ⟨gd, 0, none⟩), .pointer (some ⟨gl, 0, none⟩), .pointer (some ⟨ge, 0, none⟩)])) w.heap.size (fun _ => True) (.slice A8 0 c8) []) := ⟨Kd.R_set HR7.out HX_ge.out (by intro q hq; have hq : q ∈ [2] := hq; simp at hq; omega) 0 _⟩; have M8 : Aside0 (MapIs (w7.setCell ⟨ge, 0, none⟩ (.func (.func 28) #[] #[.pointer (some ⟨gr, 0, none⟩), .pointer (some ⟨gm, 0, none⟩), .pointer (some ⟨gd, 0, none⟩), .pointer (some ⟨gl, 0, none⟩), .pointer (some ⟨ge, 0, none⟩)])) w3.heap.size 0 (usedIn l [])) := ⟨MapIs.set M7.out HX_ge.out⟩; have HB8 : Aside0 (Below w.heap.size w (w7.setCell ⟨ge, 0, none⟩ (.func (.func 28) #[] #[.pointer (some ⟨gr, 0, none⟩), .pointer (some ⟨gm, 0, none⟩), .pointer (some ⟨gd, 0, none⟩), .pointer (some ⟨gl, 0, none⟩), .pointer (some ⟨ge, 0, none⟩)]))) := ⟨below_set HB7.out HGE7.out⟩; generalize (w7.setCell ⟨ge, 0, none⟩ (.func (.func 28) #[] #[.pointer (some ⟨gr, 0, none⟩), .pointer (some ⟨gm, 0, none⟩), .pointer (some ⟨gd, 0, none⟩), .pointer (some ⟨gl, 0, none⟩), .pointer (some ⟨ge, 0, none⟩)])) = w8 at HGR8 HGL8 HGM8 HGD8 HGE8 HR8 M8 HB8 ⊢; clear k1 k2; refine (ringGo.calls gr gm gd gl ge w3.heap.size mn ev A c l w HCL.out HC.out HL.out HM1.out HM2.out HF.out (by have := HSZ4.out; omega) HSZ4.out.1 (mn + 1) [] 0 0 (.slice A8 0 c8) _ _ false [] (Nat.zero_le _) (fun j h0 h1 => absurd h1 (by simp; omega)) HU.out HB8.out HGR8.out HR8.out HGM8.out HGD8.out HGL8.out HGE8.out M8.out HP.out rfl rfl).mono ?_; rintro e w9 ⟨rfl, hb9, _, ⟨v9, hg9, hr9⟩, _⟩; have HB9 := Aside0.mk hb9; have HG9 := Aside0.mk hg9; have HR9 := Aside0.mk hr9; clear hb9 hg9 hr9; have k1 := blk_cell HG9.out 0))
  go_ret
  exact ⟨_, rfl, Kd.R_nil _ _ _ _ _, HB9.out, fun _ => rfl⟩
 | some xs =>
  subst hb
  subst hx
  go_enter Try.func15, Try.ntmps15
  go_wp2_with (first | ((with_reducible refine gate_dst (N := 2) rfl ?_); refine box_event ?hg (N := 2) ?hd (cs := #[.int .i64 ev, .slice A l.length c]) (t := 26) ?hr ?_; (case hd => rfl); (case hg => rfl); (case hr => first | (go_simp; done) | (go_simp; rfl)); intro gd hg_ w1 hbox_ hb_; have HX_gd := Aside0.mk hbox_; have HB_w1 := Aside0.mk hb_; have HG_gd := Aside0.mk hg_; clear hbox_ hb_ hg_) | ((with_reducible refine gate_dst (N := 3) rfl ?_); refine box_event ?hg (N := 3) ?hd (cs := #[.int .i64 (mn : Int)]) (t := 3) ?hr ?_; (case hd => rfl); (case hg => rfl); (case hr => first | (go_simp; done) | (go_simp; rfl)); intro gm hg_ w2 hbox_ hb_; have HX_gm := Aside0.mk hbox_; have HB_w2 := Aside0.mk hb_; have HG_gm := Aside0.mk hg_; clear hbox_ hb_ hg_; have HB2 := Aside0.mk (below_step HB_w1.out HB_w2.out); have HGD2 := Aside0.mk (blk_below HX_gd.out HB_w2.out)) | ((with_reducible refine gate_dst (N := 8) rfl ?_); refine Kd.R_lit (Kd.int .i64) _ 2 ?hg (N := 8) ?hd (xs := ([] : List Int)) (inner := []) (ok := fun _ => True) (okp := fun _ => True) ?hr ?hp (fun _ hk => hk) trivial (Below.refl _ _) (Nat.le_refl _) (by simp) ?_; (case hd => rfl); (case hg => rfl); (case hr => first | (go_simp; done) | (go_simp; rfl)); (case hp => exact (Reps.none _ _)); intro v8 w3 ho hb hg_ hnew_; obtain ⟨A8, c8, e8⟩ := Kd.R_slice ho; replace e8 : v8 = .slice A8 0 c8 := e8; subst e8; have HR3 := Aside0.mk (Kd.R_lower ho (below_size HB2.out)); have HB3 := Aside0.mk (below_step HB2.out hb); have HGD3 := Aside0.mk (blk_below HGD2.out hb); have HGM3 := Aside0.mk (blk_below HX_gm.out hb); clear hg_ hnew_ ho hb) | ((with_reducible refine gate_dst (N := 5) rfl ?_); refine box_event ?hg (N := 5) ?hd (cs := #[.slice none 0 0]) (t := 31) ?hr ?_; (case hd => rfl); (case hg => rfl); (case hr => first | (go_simp; done) | (go_simp; rfl)); intro gr hg_ w4 hbox_ hb_; have HX_gr := Aside0.mk hbox_; have HB_w4 := Aside0.mk hb_; have HG_gr := Aside0.mk hg_; clear hbox_ hb_ hg_; have ha_ : Below w3.heap.size w3 (w3.alloc (.map #[] 0)) := below_alloc (Below.refl _ _) _; have M3 := Aside0.mk (MapIs.made w3 (usedIn l []) (fun _ => rfl)); have M4 := Aside0.mk (M3.out.below HB_w4.out); have HB4 := Aside0.mk (below_step (below_step HB3.out ha_) HB_w4.out); have HR4 := Aside0.mk (Kd.R_below (Kd.R_below HR3.out ha_) HB_w4.out); have HGD4 := Aside0.mk (blk_below (blk_below HGD3.out ha_) HB_w4.out); have HGM4 := Aside0.mk (blk_below (blk_below HGM3.out ha_) HB_w4.out); have HSZ4 : Aside0 (w.heap.size ≤ w3.heap.size ∧ w3.heap.size + 1 ≤ gr) := ⟨by have h1 := below_size HB3.out; have h2 := HG_gr.out; simp at h2; omega⟩; clear ha_ M3 HG_gr) | ((with_reducible refine gate_dst (N := 6) rfl ?_); refine box_event ?hg (N := 6) ?hd (cs := #[.map none]) (t := 57) ?hr ?_; (case hd => rfl); (case hg => rfl); (case hr => first | (go_simp; done) | (go_simp; rfl)); intro gl hg_ w5 hbox_ hb_; have HX_gl := Aside0.mk hbox_; have HB_w5 := Aside0.mk hb_; have HG_gl := Aside0.mk hg_; clear hbox_ hb_ hg_; have M5 := Aside0.mk (M4.out.below HB_w5.out); have HB5 := Aside0.mk (below_step HB4.out HB_w5.out); have HR5 := Aside0.mk (Kd.R_below HR4.out HB_w5.out); have HGD5 := Aside0.mk (blk_below HGD4.out HB_w5.out); have HGM5 := Aside0.mk (blk_below HGM4.out HB_w5.out); have HGR5 := Aside0.mk (blk_below HX_gr.out HB_w5.out); have HNE5 := Aside0.mk (blk_ne HGR5.out HX_gl.out (by decide)); have HGE5 : Aside0 (w.heap.size ≤ gl) := ⟨by rw [HG_gl.out]; exact below_size HB4.out⟩; have k1 := blk_cell HGR5.out 0; have k2 := blk_frozen HGR5.out 0; have k3 := blk_cell HX_gl.out 0; have k4 := blk_frozen HX_gl.out 0; have kn := HNE5.out; have kn2 := Ne.symm HNE5.out; clear M4 HR4 HGD4 HGM4 HG_gl) | ((with_reducible refine gate_dst (N := 7) rfl ?_); have HGR6 : Aside0 (((w5.setCell ⟨gr, 0, none⟩ (.slice A8 0 c8)).setCell ⟨gl, 0, none⟩ (.map (some w3.heap.size))).heap[gr]? = some (.cells #[.slice A8 0 c8] 31 (0, 0))) := ⟨blk_far (blk_put HGR5.out 0 (.slice A8 0 c8) rfl) (p := ⟨gl, 0, none⟩) HNE5.out _⟩; have HGL6 : Aside0 (((w5.setCell ⟨gr, 0, none⟩ (.slice A8 0 c8)).setCell ⟨gl, 0, none⟩ (.map (some w3.heap.size))).heap[gl]? = some (.cells #[.map (some w3.heap.size)] 57 (0, 0))) := ⟨blk_put (blk_far HX_gl.out (p := ⟨gr, 0, none⟩) (Ne.symm HNE5.out) (.slice A8 0 c8)) 0 _ rfl⟩; have HGM6 : Aside0 (((w5.setCell ⟨gr, 0, none⟩ (.slice A8 0 c8)).setCell ⟨gl, 0, none⟩ (.map (some w3.heap.size))).heap[gm]? = some (.cells #[.int .i64 (mn : Int)] 3 (0, 0))) := ⟨blk_far (blk_far HGM5.out (p := ⟨gr, 0, none⟩) (blk_ne HGM5.out HGR5.out (by decide)) (.slice A8 0 c8)) (p := ⟨gl, 0, none⟩) (blk_ne HGM5.out HX_gl.out (by decide)) _⟩; have HGD6 : Aside0 (((w5.setCell ⟨gr, 0, none⟩ (.slice A8 0 c8)).setCell ⟨gl, 0, none⟩ (.map (some w3.heap.size))).heap[gd]? = some (.cells #[.int .i64 ev, .slice A l.length c] 26 (0, 0))) := ⟨blk_far (blk_far HGD5.out (p := ⟨gr, 0, none⟩) (blk_ne HGD5.out HGR5.out (by decide)) (.slice A8 0 c8)) (p := ⟨gl, 0, none⟩) (blk_ne HGD5.out HX_gl.out (by decide)) _⟩; have HR6 : Aside0 (Kd.R (Kd.int .i64) 2 ((w5.setCell ⟨gr, 0, none⟩ (.slice A8 0 c8)).setCell ⟨gl, 0, none⟩ (.map (some w3.heap.size))) w.heap.size (fun _ => True) (.slice A8 0 c8) []) := ⟨Kd.R_set (Kd.R_set HR5.out HGR5.out (by intro q hq; have hq : q ∈ [2] := hq; simp at hq; omega) 0 (.slice A8 0 c8)) (blk_far HX_gl.out (p := ⟨gr, 0, none⟩) (Ne.symm HNE5.out) (.slice A8 0 c8)) (by intro q hq; have hq : q ∈ [2] := hq; simp at hq; omega) 0 _⟩; have M6 : Aside0 (MapIs ((w5.setCell ⟨gr, 0, none⟩ (.slice A8 0 c8)).setCell ⟨gl, 0, none⟩ (.map (some w3.heap.size))) w3.heap.size 0 (usedIn l [])) := ⟨MapIs.set (MapIs.set M5.out HGR5.out) (blk_far HX_gl.out (p := ⟨gr, 0, none⟩) (Ne.symm HNE5.out) (.slice A8 0 c8))⟩; have HB6 : Aside0 (Below w.heap.size w ((w5.setCell ⟨gr, 0, none⟩ (.slice A8 0 c8)).setCell ⟨gl, 0, none⟩ (.map (some w3.heap.size)))) := ⟨below_set (below_set HB5.out (by have := HSZ4.out; omega)) HGE5.out⟩; generalize ((w5.setCell ⟨gr, 0, none⟩ (.slice A8 0 c8)).setCell ⟨gl, 0, none⟩ (.map (some w3.heap.size))) = w6 at HGR6 HGL6 HGM6 HGD6 HR6 M6 HB6 ⊢; clear k1 k2 k3 k4 kn kn2; (with_reducible refine gate_dst (N := 7) rfl ?_); refine box_event ?hg (N := 7) ?hd (cs := #[.nilFunc]) (t := 49) ?hr ?_; (case hd => rfl); (case hg => rfl); (case hr => first | (go_simp; done) | (go_simp; rfl)); intro ge hg_ w7 hbox_ hb_; have HX_ge := Aside0.mk hbox_; have HB_w7 := Aside0.mk hb_; have HG_ge := Aside0.mk hg_; clear hbox_ hb_ hg_; have M7 := Aside0.mk (M6.out.below HB_w7.out); have HB7 := Aside0.mk (below_step HB6.out HB_w7.out); have HR7 := Aside0.mk (Kd.R_below HR6.out HB_w7.out); have HGD7 := Aside0.mk (blk_below HGD6.out HB_w7.out); have HGM7 := Aside0.mk (blk_below HGM6.out HB_w7.out); have HGR7 := Aside0.mk (blk_below HGR6.out HB_w7.out); have HGL7 := Aside0.mk (blk_below HGL6.out HB_w7.out); have HGE7 : Aside0 (w.heap.size ≤ ge) := ⟨by rw [HG_ge.out]; exact below_size HB6.out⟩; have k1 : w7.cell? ⟨ge, 0, none⟩ = some .nilFunc := (blk_cell HX_ge.out 0).trans rfl; have k2 := blk_frozen HX_ge.out 0; clear HG_ge) | (go_at_call 28; have HGR8 : Aside0 ((w7.setCell ⟨ge, 0, none⟩ (.func (.func 28) #[] #[.pointer (some ⟨gr, 0, none⟩), .pointer (some ⟨gm, 0, none⟩), .pointer (some ⟨gd, 0, none⟩), .pointer (some ⟨gl, 0, none⟩), .pointer (some ⟨ge, 0, none⟩)])).heap[gr]? = some (.cells #[.slice A8 0 c8] 31 (0, 0))) := ⟨blk_far HGR7.out (p := ⟨ge, 0, none⟩) (blk_ne HGR7.out HX_ge.out (by decide)) _⟩; have HGL8 : Aside0 ((w7.setCell ⟨ge, 0, none⟩ (.func (.func 28) #[] #[.pointer (some ⟨gr, 0, none⟩), .pointer (some ⟨gm, 0, none⟩), .pointer (some ⟨gd, 0, none⟩), .pointer (some ⟨gl, 0, none⟩), .pointer (some ⟨ge, 0, none⟩)])).heap[gl]? = some (.cells #[.map (some w3.heap.size)] 57 (0, 0))) := ⟨blk_far HGL7.out (p := ⟨ge, 0, none⟩) (blk_ne HGL7.out HX_ge.out (by decide)) _⟩; have HGM8 : Aside0 ((w7.setCell ⟨ge, 0, none⟩ (.func (.func 28) #[] #[.pointer (some ⟨gr, 0, none⟩), .pointer (some ⟨gm, 0, none⟩), .pointer (some ⟨gd, 0, none⟩), .pointer (some ⟨gl, 0, none⟩), .pointer (some ⟨ge, 0, none⟩)])).heap[gm]? = some (.cells #[.int .i64 (mn : Int)] 3 (0, 0))) := ⟨blk_far HGM7.out (p := ⟨ge, 0, none⟩) (blk_ne HGM7.out HX_ge.out (by decide)) _⟩; have HGD8 : Aside0 ((w7.setCell ⟨ge, 0, none⟩ (.func (.func 28) #[] #[.pointer (some ⟨gr, 0, none⟩), .pointer (some ⟨gm, 0, none⟩), .pointer (some ⟨gd, 0, none⟩), .pointer (some ⟨gl, 0, none⟩), .pointer (some ⟨ge, 0, none⟩)])).heap[gd]? = some (.cells #[.int .i64 ev, .slice A l.length c] 26 (0, 0))) := ⟨blk_far HGD7.out (p := ⟨ge, 0, none⟩) (blk_ne HGD7.out HX_ge.out (by decide)) _⟩; have HGE8 : Aside0 ((w7.setCell ⟨ge, 0, none⟩ (.func (.func 28) #[] #[.pointer (some ⟨gr, 0, none⟩), .pointer (some ⟨gm, 0, none⟩), .pointer (some ⟨gd, 0, none⟩), .pointer (some ⟨gl, 0, none⟩), .pointer (some ⟨ge, 0, none⟩)])).heap[ge]? = some (.cells #[.func (.func 28) #[] #[.pointer (some ⟨gr, 0, none⟩), .pointer (some ⟨gm, 0, none⟩), .pointer (some ⟨gd, 0, none⟩), .pointer (some ⟨gl, 0, none⟩), .pointer (some ⟨ge, 0, none⟩)]] 49 (0, 0))) := ⟨blk_put HX_ge.out 0 _ rfl⟩; have HR8 : Aside0 (Kd.R (Kd.int .i64) 2 (w7.setCell ⟨ge, 0, none⟩ (.func (.func 28) #[] #[.pointer (some ⟨gr, 0, none⟩), .pointer (some ⟨gm, 0, none⟩), .pointer (some ⟨gd, 0, none⟩), .pointer (some ⟨gl, 0, none⟩), .pointer (some ⟨ge, 0, none⟩)])) w.heap.size (fun _ => True) (.slice A8 0 c8) []) := ⟨Kd.R_set HR7.out HX_ge.out (by intro q hq; have hq : q ∈ [2] := hq; simp at hq; omega) 0 _⟩; have M8 : Aside0 (MapIs (w7.setCell ⟨ge, 0, none⟩ (.func (.func 28) #[] #[.pointer (some ⟨gr, 0, none⟩), .pointer (some ⟨gm, 0, none⟩), .pointer (some ⟨gd, 0, none⟩), .pointer (some ⟨gl, 0, none⟩), .pointer (some ⟨ge, 0, none⟩)])) w3.heap.size 0 (usedIn l [])) := ⟨MapIs.set M7.out HX_ge.out⟩; have HB8 : Aside0 (Below w.heap.size w (w7.setCell ⟨ge, 0, none⟩ (.func (.func 28) #[] #[.pointer (some ⟨gr, 0, none⟩), .pointer (some ⟨gm, 0, none⟩), .pointer (some ⟨gd, 0, none⟩), .pointer (some ⟨gl, 0, none⟩), .pointer (some ⟨ge, 0, none⟩)]))) := ⟨below_set HB7.out HGE7.out⟩; generalize (w7.setCell ⟨ge, 0, none⟩ (.func (.func 28) #[] #[.pointer (some ⟨gr, 0, none⟩), .pointer (some ⟨gm, 0, none⟩), .pointer (some ⟨gd, 0, none⟩), .pointer (some ⟨gl, 0, none⟩), .pointer (some ⟨ge, 0, none⟩)])) = w8 at HGR8 HGL8 HGM8 HGD8 HGE8 HR8 M8 HB8 ⊢; clear k1 k2; refine (ringGo.calls gr gm gd gl ge w3.heap.size mn ev A c l w HCL.out HC.out HL.out HM1.out HM2.out HF.out (by have := HSZ4.out; omega) HSZ4.out.1 (mn + 1) [] 0 0 (.slice A8 0 c8) _ _ true xs (Nat.zero_le _) (fun j h0 h1 => absurd h1 (by simp; omega)) HU.out HB8.out HGR8.out HR8.out HGM8.out HGD8.out HGL8.out HGE8.out M8.out HP.out rfl rfl).mono ?_; rintro e w9 ⟨rfl, hb9, _, ⟨v9, hg9, hr9⟩, _⟩; have HB9 := Aside0.mk hb9; have HG9 := Aside0.mk hg9; have HR9 := Aside0.mk hr9; clear hb9 hg9 hr9; have k1 := blk_cell HG9.out 0))
  go_ret
  exact ⟨_, rfl, HR9.out, HB9.out, fun h => by cases h⟩

end Go.Proofs.Ythgmolenlpagkaa.Pa

namespace Go.Proofs.Ythgmolenlpagkaa.Pa
open Go.RowKit Go.Proofs.YthgmolenlpagkaaW.PrintWords Go.Proofs.YthgmolenlpagkaaW.PrintLast Go.Proofs.YthgmolenlpagkaaW.PrintMore
attribute [local go_sem] max2_int min2_int max_two min_two max_three min_three max_four min_four   -- for this text's walks alone
set_option linter.unusedVariables false
set_option linter.unusedSimpArgs false

/-! ### AUX ringFr -/
/-- Rings of m bounds, then of more, so often. -/
def frLoop (l : List S36) : Nat → Nat → Option (List Int × Bool)
 | 0, _ => some ([], false)
 | d + 1, m => (ringP l m (m + 1) [] 0).bind fun q => match q with
  | some x => some (x, true)
  | none => frLoop l d (m + 1)
/-- What a diagram must be, said once more. -/
def boundOkR (n : Int) (b : S36) : Bool := decide (0 ≤ b.f0) && decide (b.f0 ≤ n - 1) && (decide (0 ≤ b.f1) && decide (b.f1 ≤ n - 1)) && !(b.f0 == b.f1) && (decide (-1000 ≤ b.f2) && decide (b.f2 ≤ 1000))
def diagramOkR (n : Int) (l : List S36) : Bool := decide (1 ≤ n) && decide (n ≤ 10) && decide (l.length ≤ 24) && l.all (boundOkR n)
/-- What both sides answer. -/
def frF (n : Int) (l : List S36) : Option (List Int × Bool) := if diagramOkR n l = true then (if 7 < n then some ([], false) else frLoop l (n - 1).toNat 2) else some ([], false)
theorem diagram_says {n : Int} {l : List S36} (h : diagramOkR n l = true) : 1 ≤ n ∧ n ≤ 10 ∧ l.length ≤ 24 ∧ ∀ i : Int, 0 ≤ i → i < (l.length : Int) → (0 ≤ (rd_T36 l i).f0 ∧ (rd_T36 l i).f0 ≤ 1000) := by
 unfold diagramOkR at h
 simp only [Bool.and_eq_true, decide_eq_true_eq] at h
 obtain ⟨⟨⟨h1, h2⟩, h3⟩, h4⟩ := h
 refine ⟨h1, h2, h3, fun i h0 hi => ?_⟩
 have hm : rd_T36 l i ∈ l := by
  unfold rd_T36
  rw [List.getD_eq_getElem?_getD, List.getElem?_eq_getElem (by omega)]
  exact List.getElem_mem _
 have hb := List.all_eq_true.1 h4 _ hm
 unfold boundOkR at hb
 simp only [Bool.and_eq_true, decide_eq_true_eq] at hb
 omega

end Go.Proofs.Ythgmolenlpagkaa.Pa

namespace Go.Proofs.Ythgmolenlpagkaa.Pa
open Go.RowKit Go.Proofs.YthgmolenlpagkaaW.PrintWords Go.Proofs.YthgmolenlpagkaaW.PrintLast Go.Proofs.YthgmolenlpagkaaW.PrintMore
attribute [local go_sem] max2_int min2_int max_two min_two max_three min_three max_four min_four   -- for this text's walks alone
set_option linter.unusedVariables false
set_option linter.unusedSimpArgs false

/-! ### impl_FallingRing: function 7 -/
def impl_FallingRing.f (a0_0 : Int) (l0_1 : List S36) : Option (List Int × Bool) := frF a0_0 l0_1
set_option maxHeartbeats 16000000 in
set_option maxRecDepth 100000 in
theorem impl_FallingRing.calls (a0_0 : Int) (A0_1 : Option Addr) (c0_1 : Nat) (l0_1 : List (S36)) (r1 : List Int) (r2 : Bool) (w : World) (hr0_1 : Kd.C k36 w A0_1 l0_1.length l0_1) (hc0_1 : l0_1.length ≤ c0_1) (h : impl_FallingRing.f a0_0 l0_1 = some (r1, r2)) :
  Calls Try.prog 7 #[.agg #[.int .i64 a0_0, .slice A0_1 l0_1.length c0_1]] w fun e w' => ∃ v0_ : Value, e = .returned (.tuple #[v0_, .bool r2]) ∧ Kd.R (Kd.int .i64) 2 w' w.heap.size (fun _ => True) v0_ r1 ∧ Below w.heap.size w w' := by
 have hu := Try.underlying26
 have hu2 := Try.underlying36
 have hu6 := Try.underlying31
 have HR := Aside0.mk hr0_1
 have HC := Aside0.mk hc0_1
 clear hr0_1 hc0_1
 unfold impl_FallingRing.f frF at h
 obtain ⟨vd, hvd⟩ : ∃ z, diagramOkR a0_0 l0_1 = z := ⟨_, rfl⟩
 have HV : Aside0 (impl_ValidDiagram.f a0_0 l0_1 = some vd) := ⟨by rw [← hvd]; rfl⟩
 rw [hvd] at h
 cases vd with
 | false =>
  rw [if_neg (by decide)] at h
  injection h with h
  injection h with e1 e2
  subst e1
  subst e2
  clear hvd
  go_enter Try.func7, Try.ntmps7
  go_wp2_with (first | ((with_reducible refine gate_dst (N := 1) rfl ?_); refine box_event ?hg (N := 1) ?hd (cs := #[.int .i64 a0_0, .slice A0_1 l0_1.length c0_1]) (t := 26) ?hr ?_; (case hd => rfl); (case hg => rfl); (case hr => first | (go_simp; done) | (go_simp; rfl)); intro gb hg_ w1 hbox_ hb_; have HX_gb := Aside0.mk hbox_; have HB_w1 := Aside0.mk hb_; have HG_gb := Aside0.mk hg_; clear hbox_ hb_ hg_; have b0 := blk_cell HX_gb.out 0; have b1 := blk_cell HX_gb.out 1) | (go_at_call 8; refine (impl_ValidDiagram.calls (hr0_1 := Kd.C_below HR.out HB_w1.out) (hc0_1 := HC.out) (h := HV.out)).mono ?_; rintro e w2 ⟨rfl, hb⟩; have HB2 := Aside0.mk (below_step HB_w1.out hb); have HX2 := Aside0.mk (blk_below HX_gb.out hb); clear hb b0 b1; have b0 := blk_cell HX2.out 0; have b1 := blk_cell HX2.out 1))
  go_ret2
  exact ⟨_, rfl, Kd.R_nil _ _ _ _ _, HB2.out⟩
 | true =>
  rw [if_pos rfl] at h
  have HD := Aside0.mk (diagram_says hvd)
  clear hvd
  by_cases h7 : 7 < a0_0
  ·rw [if_pos h7] at h
   injection h with h
   injection h with e1 e2
   subst e1
   subst e2
   have g1 : decide (a0_0 > 7) = true := decide_eq_true h7
   have g2 : decide (7 < a0_0) = true := g1
   clear h7
   go_enter Try.func7, Try.ntmps7
   go_wp2_with (first | ((with_reducible refine gate_dst (N := 1) rfl ?_); refine box_event ?hg (N := 1) ?hd (cs := #[.int .i64 a0_0, .slice A0_1 l0_1.length c0_1]) (t := 26) ?hr ?_; (case hd => rfl); (case hg => rfl); (case hr => first | (go_simp; done) | (go_simp; rfl)); intro gb hg_ w1 hbox_ hb_; have HX_gb := Aside0.mk hbox_; have HB_w1 := Aside0.mk hb_; have HG_gb := Aside0.mk hg_; clear hbox_ hb_ hg_; have b0 := blk_cell HX_gb.out 0; have b1 := blk_cell HX_gb.out 1) | (go_at_call 8; refine (impl_ValidDiagram.calls (hr0_1 := Kd.C_below HR.out HB_w1.out) (hc0_1 := HC.out) (h := HV.out)).mono ?_; rintro e w2 ⟨rfl, hb⟩; have HB2 := Aside0.mk (below_step HB_w1.out hb); have HX2 := Aside0.mk (blk_below HX_gb.out hb); clear hb b0 b1; have b0 := blk_cell HX2.out 0; have b1 := blk_cell HX2.out 1))
   go_ret2
   exact ⟨_, rfl, Kd.R_nil _ _ _ _ _, HB2.out⟩
  ·rw [if_neg h7] at h
   have g1 : decide (a0_0 > 7) = false := decide_eq_false h7
   have g2 : decide (7 < a0_0) = false := g1
   have HL := Aside0.mk h
   clear h7 h
   go_enter Try.func7, Try.ntmps7
   go_wp2_with (first | ((with_reducible refine gate_dst (N := 1) rfl ?_); refine box_event ?hg (N := 1) ?hd (cs := #[.int .i64 a0_0, .slice A0_1 l0_1.length c0_1]) (t := 26) ?hr ?_; (case hd => rfl); (case hg => rfl); (case hr => first | (go_simp; done) | (go_simp; rfl)); intro gb hg_ w1 hbox_ hb_; have HX_gb := Aside0.mk hbox_; have HB_w1 := Aside0.mk hb_; have HG_gb := Aside0.mk hg_; clear hbox_ hb_ hg_; have b0 := blk_cell HX_gb.out 0; have b1 := blk_cell HX_gb.out 1) | (go_at_call 8; refine (impl_ValidDiagram.calls (hr0_1 := Kd.C_below HR.out HB_w1.out) (hc0_1 := HC.out) (h := HV.out)).mono ?_; rintro e w2 ⟨rfl, hb⟩; have HB2 := Aside0.mk (below_step HB_w1.out hb); have HX2 := Aside0.mk (blk_below HX_gb.out hb); clear hb b0 b1; have b0 := blk_cell HX2.out 0; have b1 := blk_cell HX2.out 1))
   clear b0 b1 HX_gb HB_w1 HG_gb g1 g2
   go_loopg [4] (a0_0.toNat + 1) (fun gg s4 wr => ∃ m : Nat, s4 = .int .i64 (m : Int) ∧ Aside0 (2 ≤ m ∧ (m : Int) ≤ a0_0 + 2 ∧ (a0_0 + 2 - (m : Int)).toNat ≤ gg) ∧ Aside0 (Below w.heap.size w wr) ∧ Aside0 (wr.heap[gb]? = some (.cells #[.int .i64 a0_0, .slice A0_1 l0_1.length c0_1] 26 (0, 0))) ∧ Aside0 (frLoop l0_1 (a0_0 + 1 - (m : Int)).toNat m = some (r1, r2)))
   case atStart => exact ⟨2, rfl, ⟨by have := HD.out.1; omega⟩, HB2, HX2, ⟨by have := HL.out; rw [show (a0_0 + 1 - ((2 : Nat) : Int)).toNat = (a0_0 - 1).toNat by omega]; exact this⟩⟩
   case round =>
    clear HL HB2 HX2
    obtain ⟨m, rfl, HM0, HB, HX, HN⟩ := hrel
    generalize hmi : (m : Int) = mi
    have HMI := Aside0.mk hmi
    have b0 := blk_cell HX.out 0
    have b1 := blk_cell HX.out 1
    by_cases hlt : mi ≤ a0_0
    ·have c1 : decide (mi ≤ a0_0) = true := decide_eq_true hlt
     have p1 := eq_true hlt
     have HM : Aside0 (2 ≤ m ∧ (m : Int) ≤ a0_0) := ⟨HM0.out.1, by omega⟩
     obtain ⟨d, hd⟩ : ∃ d, (a0_0 + 1 - (m : Int)).toNat = d + 1 := ⟨(a0_0 - (m : Int)).toNat, by omega⟩
     have hn := HN.out
     rw [hd] at hn
     unfold frLoop at hn
     obtain ⟨q, hp, hn⟩ := Option.bind_eq_some_iff.mp hn
     have HP := Aside0.mk hp
     have HDD := Aside0.mk hd
     clear hp hd HN hlt
     rw [← hmi]
     rw [← hmi] at c1 p1
     clear hmi
     cases q with
     | some x =>
      injection hn with hn
      injection hn with e1 e2
      subst e1
      subst e2
      go_wp2_with (go_at_call 15; refine (fallingRing.calls a0_0 A0_1 c0_1 l0_1 m _ true x _ (Kd.C_below HR.out HB.out) HC.out HD.out.2.2.1 (by have := HM.out; omega) (by have := HM.out; have := HD.out; omega) HD.out.2.2.2 HP.out rfl rfl).mono ?_; rintro e w5 ⟨v5, rfl, ho5, hb5, hn5⟩; have HB5 := Aside0.mk (below_step HB.out hb5); have HX5 := Aside0.mk (blk_below HX.out hb5); have HO5 := Aside0.mk (Kd.R_lower ho5 (below_size HB.out)); obtain ⟨A5, c5, rfl⟩ := Kd.R_slice ho5; have hc5 := (Kd.R_reads' ho5).2.2.2.2 (by rw [ringP_len _ _ _ _ _ _ HP.out]; have := HM.out; omega); obtain ⟨ad5, e5, _⟩ := hc5; cases e5; clear ho5 hb5 hn5; clear b0 b1)
      go_ret2
      exact ⟨_, rfl, HO5.out, HB5.out⟩
     | none =>
      have HN := Aside0.mk hn
      clear hn
      go_wp2_with (go_at_call 15; refine (fallingRing.calls a0_0 A0_1 c0_1 l0_1 m _ false [] _ (Kd.C_below HR.out HB.out) HC.out HD.out.2.2.1 (by have := HM.out; omega) (by have := HM.out; have := HD.out; omega) HD.out.2.2.2 HP.out rfl rfl).mono ?_; rintro e w5 ⟨v5, rfl, ho5, hb5, hn5⟩; have HB5 := Aside0.mk (below_step HB.out hb5); have HX5 := Aside0.mk (blk_below HX.out hb5); have HO5 := Aside0.mk (Kd.R_lower ho5 (below_size HB.out)); obtain rfl := hn5 rfl; clear ho5 hb5; clear b0 b1)
      have hm := HM.out
      have hm0 := HM0.out
      have hd := HDD.out
      have hw1 : wrap64 ((m : Int) + 1) = ((m + 1 : Nat) : Int) := by have := HD.out; unfold wrap64; omega
      go_roundg (a0_0 + 1 - (m : Int)).toNat
      case measure => omega
      case rel => exact ⟨m + 1, by first | (rw [hw1]) | (rw [i64_w, hw1]) | (rw [show (m : Int) + 1 = ((m + 1 : Nat) : Int) from by omega]), ⟨by omega⟩, HB5, HX5, ⟨by rw [show (a0_0 + 1 - ((m + 1 : Nat) : Int)).toNat = d by omega]; exact HN.out⟩⟩
    ·have c1 : decide (mi ≤ a0_0) = false := decide_eq_false hlt
     have p1 := eq_false hlt
     have hn := HN.out
     rw [show (a0_0 + 1 - (m : Int)).toNat = 0 by omega] at hn
     injection hn with hn
     injection hn with e1 e2
     subst e1
     subst e2
     clear HN hlt hmi
     go_wp2
     go_ret2
     exact ⟨_, rfl, Kd.R_nil _ _ _ _ _, HB.out⟩

end Go.Proofs.Ythgmolenlpagkaa.Pa

