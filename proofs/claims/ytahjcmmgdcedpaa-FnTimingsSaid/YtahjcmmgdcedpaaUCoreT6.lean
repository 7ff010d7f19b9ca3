-- Written for this claim by a program of this session.
import Derived.Test.YtahjcmmgdcedpaaUPax0
import Derived.Test.YtahjcmmgdcedpaaUCoreT4
import Derived.Test.YtahjcmmgdcedpaaUCoreT5
import Derived.Laws.BitsLemmas
namespace Go.Proofs.Ytahjcmmgdcedpaa.Pa
open Go.RowKit Go.Proofs.YtahjcmmgdcedpaaW.PrintWords Go.Proofs.YtahjcmmgdcedpaaW.PrintLast Go.Proofs.YtahjcmmgdcedpaaW.PrintMore
attribute [local go_sem] max2_int min2_int max_two min_two max_three min_three max_four min_four   -- for this text's walks alone
set_option linter.unusedVariables false
set_option linter.unusedSimpArgs false

/-! ### spec_R8Diagram: function 9 -/
def spec_R8Diagram.f (k : Nat) (l0 : List Int) : Option (Int × (List (S32))) := (spec_l00From.f l0).bind fun bt157 => ((spec_l04DrawOk.f k bt157.1 bt157.2.1 bt157.2.2).bind fun bt161 => (if bt161.1 > 6 then (some (2, (([] : List (S32))))) else (some (bt161.1, bt161.2.1))))
theorem spec_R8Diagram.mono : ∀ a0 k, LeO (spec_R8Diagram.f k a0) (spec_R8Diagram.f (k + 1) a0) := by
 intro a0 k
 unfold spec_R8Diagram.f
 repeat' first
   | (with_reducible exact spec_l04DrawOk.mono _ _ _ _)
   | (with_reducible exact LeO.refl _)
   | (with_reducible exact LeO.none _)
   | (with_reducible refine LeO.ite ?_ ?_)
   | (with_reducible refine LeO.bind ?_ (fun _ => ?_))
   | exact spec_l04DrawOk.mono _ _ _ _
   | exact LeO.none _
   | refine LeO.ite ?_ ?_
   | refine LeO.bind ?_ (fun _ => ?_)
set_option maxHeartbeats 8000000 in
set_option maxRecDepth 100000 in
theorem spec_R8Diagram.calls (k : Nat) (A0 : Option Addr) (c0 : Nat) (l0 : List Int) (r1 : Int) (r2 : List (S32)) (w : World) (hr0 : Kd.C (Kd.int .u8) w A0 l0.length l0) (hc0 : l0.length ≤ c0) (h : spec_R8Diagram.f k l0 = some (r1, r2)) :
  Calls Try.prog 9 #[.slice A0 l0.length c0] w fun e w' => ∃ v1_ : Value, e = .returned (.agg #[.int .i64 r1, v1_]) ∧ Kd.R k32 32 w' w.heap.size (fun _ => True) v1_ r2 ∧ Below w.heap.size w w' := by
 have hu26 := Try.underlying26
 have HR0 := Aside0.mk hr0
 have HC0 := Aside0.mk hc0
 clear hr0 hc0
 have HB := Aside0.mk (Below.refl w.heap.size w)
 have H : ((spec_l00From.f l0).bind fun bt157 => ((spec_l04DrawOk.f k bt157.1 bt157.2.1 bt157.2.2).bind fun bt161 => (if bt161.1 > 6 then (some (2, (([] : List (S32))))) else (some (bt161.1, bt161.2.1))))) = some (r1, r2) := h
 clear h
 replace H := Option.bind_eq_some_iff.mp H
 obtain ⟨⟨t157, t158, t159⟩, A20, H⟩ := H
 replace H : ((spec_l04DrawOk.f k t157 t158 t159).bind fun bt161 => (if bt161.1 > 6 then (some (2, (([] : List (S32))))) else (some (bt161.1, bt161.2.1)))) = some (r1, r2) := H
 have A2 := Aside0.mk A20
 clear A20
 replace H := Option.bind_eq_some_iff.mp H
 obtain ⟨⟨t161, t162, t165, t166⟩, A30, H⟩ := H
 replace H : (if t161 > 6 then (some (2, (([] : List (S32))))) else (some (t161, t162))) = some (r1, r2) := H
 have A3 := Aside0.mk A30
 clear A30
 by_cases c4 : t161 > 6
 ·rw [if_pos c4] at H
  have c4b0 : decide (6 < t161) = true := decide_eq_true c4
  clear c4
  obtain ⟨y168, hy168⟩ : ∃ y_ : List (S32), y_ = (([] : List (S32))) := ⟨_, rfl⟩
  replace H : (some (2, y168)) = some (r1, r2) := by first | (rw [hy168]; with_reducible exact H) | (have H2_ := (Option.bind_some _ _).symm.trans H; rw [hy168]; with_reducible exact H2_) | (have H2_ := (Option.bind_some _ _).symm.trans H; with_reducible exact H2_) | with_reducible exact H | (rw [hy168]; exact H) | exact H
  have Ny168 := Aside0.mk hy168
  clear hy168
  simp only [Option.some.injEq, Prod.mk.injEq] at H
  obtain ⟨rfl, rfl⟩ := H
  go_enter Try.func9, Try.ntmps9
  go_wp2_with (first | ((with_reducible refine gate_dst (N := 2) rfl ?_); refine box_event ?hg (N := 2) ?hd (cs := #[.int .i64 0, .slice none 0 0]) (t := 26) ?hr ?_; (case hd => rfl); (case hg => rfl); (case hr => first | (go_simp; done) | (go_simp; rfl)); intro gb156 hg w5 hbox hb; have n0_ := Aside0.mk (below_step (by repeat (first | (with_reducible first | exact HB.out | apply below_alloc | apply pw_below_drewN | apply below_drew1) | exact HB.out)) hb); have n1_ := Aside0.mk (hbox); have n2_ := Aside0.mk ((by rw [hg]; exact (below_size (by repeat (first | (with_reducible first | exact HB.out | apply below_alloc | apply pw_below_drewN | apply below_drew1) | exact HB.out))) : w.heap.size ≤ gb156)); have n3_ := Aside0.mk ((by rw [hg]; exact (below_size (by repeat (first | (with_reducible first | exact HB.out | apply below_alloc | apply pw_below_drewN | apply below_drew1) | exact HB.out))) : w.heap.size ≤ gb156)); clear HB; have HB := n0_; have BK156 := n1_; have GW156 := n2_; have GE156 := n3_; clear n0_ n1_ n2_ n3_; clear hb hbox hg) | ((with_reducible refine gate_callee (f := 33) rfl ?_); refine goesL_ (some 6) rfl rfl Try.func33 (by kernel_rfl) rfl #[.slice A0 l0.length c0] rfl (by (try simp only [List.map_toArray, List.map_cons, List.map_nil]); first | done | rfl | (simp only [List.length_drop, List.length_take]; rfl)) ?_; (with_reducible refine (spec_l00From.calls _ _ l0 t157 t158 t159 w _ ?side1 ?side2 ?side3 A2.out).mono ?_); (case side1 => repeat (first | (with_reducible first | exact HB.out | apply below_alloc | apply pw_below_drewN | apply below_drew1 | refine below_set ?_ GE156.out) | exact HB.out)); (case side2 => exact HR0.out); (case side3 => exact HC0.out); rintro e w6 ⟨g160, rfl, hi, hb, hb2⟩; refine ⟨_, rfl, ?_⟩; have n0_ := Aside0.mk (blk_below (g := gb156) (o := .cells #[.int .i64 0, .slice none 0 0] 26 (0, 0)) (by (with_reducible repeat (first | refine blk_drewN ?_ _ | refine blk_drew ?_ | refine blk_alloc ?_ _)); exact BK156.out) hb2); have n1_ := Aside0.mk (hb); have n2_ := Aside0.mk (hi); have n3_ := Aside0.mk (IsS94.ne_blk hi (blk_below (g := gb156) (o := .cells #[.int .i64 0, .slice none 0 0] 26 (0, 0)) (by (with_reducible repeat (first | refine blk_drewN ?_ _ | refine blk_drew ?_ | refine blk_alloc ?_ _)); exact BK156.out) hb2) (by decide)); have n4_ := Aside0.mk (Ne.symm (IsS94.ne_blk hi (blk_below (g := gb156) (o := .cells #[.int .i64 0, .slice none 0 0] 26 (0, 0)) (by (with_reducible repeat (first | refine blk_drewN ?_ _ | refine blk_drew ?_ | refine blk_alloc ?_ _)); exact BK156.out) hb2) (by decide))); clear BK156; clear HB; have BK156 := n0_; have HB := n1_; have HI160 := n2_; have NB160_156 := n3_; have NB156_160 := n4_; clear n0_ n1_ n2_ n3_ n4_; (try clear hb); (try clear hb2); (try clear hk); (try clear hi)) | ((with_reducible refine gate_callee (f := 34) rfl ?_); refine goesL_ (some 8) rfl rfl Try.func34 (by kernel_rfl) rfl #[.pointer (some ⟨g160, 0, none⟩)] rfl (by (try simp only [List.map_toArray, List.map_cons, List.map_nil]); first | done | rfl | (simp only [List.length_drop, List.length_take]; rfl)) ?_; (with_reducible refine (spec_l04DrawOk.calls k g160 t157 t158 t159 t161 t162 t165 t166 w _ ?side1 ?side2 A3.out).mono ?_); (case side1 => repeat (first | (with_reducible first | exact HI160.out | apply IsS94.alloc | apply IsS94.drewN | apply IsS94.drew | apply IsS94.set_1 | apply IsS94.set_2 | refine IsS94.far ?_ NB160_156.out _) | exact HI160.out)); (case side2 => repeat (first | (with_reducible first | exact HB.out | apply below_alloc | apply pw_below_drewN | apply below_drew1 | refine below_set ?_ (IsS94.ge HI160.out) | refine below_set ?_ GE156.out) | exact HB.out)); rintro e w7 ⟨v163, rfl, ho0, hi, hb, hk⟩; refine ⟨_, rfl, ?_⟩; have n0_ := Aside0.mk (KeepBut.blk hk (g' := gb156) (o := .cells #[.int .i64 0, .slice none 0 0] 26 (0, 0)) (by (with_reducible repeat (first | refine blk_drewN ?_ _ | refine blk_drew ?_ | refine blk_alloc ?_ _)); exact BK156.out) NB156_160.out (by simp)); have n1_ := Aside0.mk (Kd.R_lower ho0 (below_size (by repeat (first | (with_reducible first | exact HB.out | apply below_alloc | apply pw_below_drewN | apply below_drew1 | refine below_set ?_ (IsS94.ge HI160.out) | refine below_set ?_ GE156.out) | exact HB.out)))); have n2_ := Aside0.mk (hb); have n3_ := Aside0.mk (hi); clear BK156; clear HB; clear HI160; have BK156 := n0_; have HO164 := n1_; have HB := n2_; have HI160 := n3_; clear n0_ n1_ n2_ n3_; (try clear hb); (try clear hb2); (try clear hk); (try clear hi); (try clear ho0)) | ((with_reducible refine gate_dst (N := 4) rfl ?_); refine box_event ?hg (N := 4) ?hd (cs := #[.int .i64 0, .slice none 0 0]) (t := 26) ?hr ?_; (case hd => rfl); (case hg => rfl); (case hr => first | (go_simp; done) | (go_simp; rfl)); intro gb167 hg w8 hbox hb; have n0_ := Aside0.mk (Kd.R_below (by (with_reducible repeat (first | apply Kd.R_alloc | apply Kd.R_drewN | apply Kd.R_drew)); exact HO164.out) hb); have n1_ := Aside0.mk (blk_below (g := gb156) (o := .cells #[.int .i64 0, .slice none 0 0] 26 (0, 0)) (by (with_reducible repeat (first | refine blk_drewN ?_ _ | refine blk_drew ?_ | refine blk_alloc ?_ _)); exact BK156.out) hb); have n2_ := Aside0.mk (IsS94.below (by repeat (first | (with_reducible first | exact HI160.out | apply IsS94.alloc | apply IsS94.drewN | apply IsS94.drew | apply IsS94.set_1 | apply IsS94.set_2 | refine IsS94.far ?_ NB160_156.out _) | exact HI160.out)) hb); have n3_ := Aside0.mk (below_step (by repeat (first | (with_reducible first | exact HB.out | apply below_alloc | apply pw_below_drewN | apply below_drew1 | refine below_set ?_ (IsS94.ge HI160.out) | refine below_set ?_ GE156.out) | exact HB.out)) hb); have n4_ := Aside0.mk (hbox); have n5_ := Aside0.mk ((by rw [hg]; exact (below_size (by repeat (first | (with_reducible first | exact HB.out | apply below_alloc | apply pw_below_drewN | apply below_drew1 | refine below_set ?_ (IsS94.ge HI160.out) | refine below_set ?_ GE156.out) | exact HB.out))) : w.heap.size ≤ gb167)); have n6_ := Aside0.mk ((by rw [hg]; exact (below_size (by repeat (first | (with_reducible first | exact HB.out | apply below_alloc | apply pw_below_drewN | apply below_drew1 | refine below_set ?_ (IsS94.ge HI160.out) | refine below_set ?_ GE156.out) | exact HB.out))) : w.heap.size ≤ gb167)); have n7_ := Aside0.mk ((by rw [hg]; exact Nat.ne_of_lt (blk_lt (g := gb156) (o := .cells #[.int .i64 0, .slice none 0 0] 26 (0, 0)) (by (with_reducible repeat (first | refine blk_drewN ?_ _ | refine blk_drew ?_ | refine blk_alloc ?_ _)); exact BK156.out)) : gb156 ≠ gb167)); have n8_ := Aside0.mk ((by rw [hg]; exact Nat.ne_of_gt (blk_lt (g := gb156) (o := .cells #[.int .i64 0, .slice none 0 0] 26 (0, 0)) (by (with_reducible repeat (first | refine blk_drewN ?_ _ | refine blk_drew ?_ | refine blk_alloc ?_ _)); exact BK156.out)) : gb167 ≠ gb156)); have n9_ := Aside0.mk ((by rw [hg]; exact Nat.ne_of_lt (IsS94.lt (show IsS94 w _ g160 t157 t165 t166 from by repeat (first | (with_reducible first | exact HI160.out | apply IsS94.alloc | apply IsS94.drewN | apply IsS94.drew | apply IsS94.set_1 | apply IsS94.set_2 | refine IsS94.far ?_ NB160_156.out _) | exact HI160.out))) : g160 ≠ gb167)); have n10_ := Aside0.mk ((by rw [hg]; exact Nat.ne_of_gt (IsS94.lt (show IsS94 w _ g160 t157 t165 t166 from by repeat (first | (with_reducible first | exact HI160.out | apply IsS94.alloc | apply IsS94.drewN | apply IsS94.drew | apply IsS94.set_1 | apply IsS94.set_2 | refine IsS94.far ?_ NB160_156.out _) | exact HI160.out))) : gb167 ≠ g160)); clear HO164; clear BK156; clear HI160; clear HB; have HO164 := n0_; have BK156 := n1_; have HI160 := n2_; have HB := n3_; have BK167 := n4_; have GW167 := n5_; have GE167 := n6_; have NB156_167 := n7_; have NB167_156 := n8_; have NB160_167 := n9_; have NB167_160 := n10_; clear n0_ n1_ n2_ n3_ n4_ n5_ n6_ n7_ n8_ n9_ n10_; clear hb hbox hg; have hnb9 := NB167_156.out; have hnc9 := NB156_167.out; have hnb10 := NB167_160.out; have hnc10 := NB160_167.out; have hcz11_0 : w8.cell? ⟨gb167, 0, none⟩ = some (.int .i64 0) := (blk_cell BK167.out 0).trans rfl; have hcz11_1 : w8.cell? ⟨gb167, 1, none⟩ = some (.slice none 0 0) := (blk_cell BK167.out 1).trans rfl; have hfz11_0 := blk_frozen BK167.out 0; have hfz11_1 := blk_frozen BK167.out 1; obtain ⟨Ao12, co12, eo12⟩ := Kd.R_slice HO164.out; subst eo12) | ((with_reducible refine gate_dst (N := 12) rfl ?_); refine Kd.R_lit k32 _ 32 ?hg (N := 12) ?hd (xs := ([] : List (S32))) (inner := []) (ok := fun _ => True) (okp := fun _ => True) ?hr ?hp (fun _ hk => hk) trivial (Below.refl _ _) (Nat.le_refl _) (by simp) ?_; (case hd => rfl); (case hg => rfl); (case hr => first | (go_simp; done) | (go_simp; rfl)); (case hp => exact (Reps.none _ _)); intro v169 w13 ho14 hb hg_ hnew_; clear hg_ hnew_; (first | rw [← Ny168.out] at ho14 | (simp only [Int.reduceToNat] at ho14; rw [← Ny168.out] at ho14)); have n0_ := Aside0.mk (Kd.R_elder' (by (with_reducible repeat (first | apply Kd.R_alloc | apply Kd.R_drewN | apply Kd.R_drew)); exact (Kd.R_mono (Kd.R_far (p := ⟨gb167, 1, none⟩) (Kd.R_far (p := ⟨gb167, 0, none⟩) (Kd.R_types HO164.out BK167.out (by decide)) (fun _ hk => hk.2) (.int .i64 t161)) (fun _ hk => hk.2) (.slice Ao12 t162.length co12)) (fun _ h_ => h_.1))) (Kd.R_base ho14) hb); have n1_ := Aside0.mk (Kd.R_lower (Kd.R_new' ho14 (Kd.R_lt (by (with_reducible repeat (first | apply Kd.R_alloc | apply Kd.R_drewN | apply Kd.R_drew)); exact (Kd.R_mono (Kd.R_far (p := ⟨gb167, 1, none⟩) (Kd.R_far (p := ⟨gb167, 0, none⟩) (Kd.R_types HO164.out BK167.out (by decide)) (fun _ hk => hk.2) (.int .i64 t161)) (fun _ hk => hk.2) (.slice Ao12 t162.length co12)) (fun _ h_ => h_.1))))) (below_size (by repeat (first | (with_reducible first | exact HB.out | apply below_alloc | apply pw_below_drewN | apply below_drew1 | refine below_set ?_ (IsS94.ge HI160.out) | refine below_set ?_ GE156.out | refine below_set ?_ GE167.out) | exact HB.out)))); have n2_ := Aside0.mk (blk_below (g := gb156) (o := .cells #[.int .i64 0, .slice none 0 0] 26 (0, 0)) (by (with_reducible repeat (first | refine blk_drewN ?_ _ | refine blk_drew ?_ | refine blk_alloc ?_ _)); refine blk_far ?_ NB156_167.out _; (with_reducible repeat (first | refine blk_drewN ?_ _ | refine blk_drew ?_ | refine blk_alloc ?_ _)); refine blk_far ?_ NB156_167.out _; (with_reducible repeat (first | refine blk_drewN ?_ _ | refine blk_drew ?_ | refine blk_alloc ?_ _)); exact BK156.out) hb); have n3_ := Aside0.mk (IsS94.below (show IsS94 w ((w8.setCell ⟨gb167, 0, none⟩ (.int .i64 t161)).setCell ⟨gb167, 1, none⟩ (.slice Ao12 t162.length co12)) g160 t157 t165 t166 from by repeat (first | (with_reducible first | exact HI160.out | apply IsS94.alloc | apply IsS94.drewN | apply IsS94.drew | apply IsS94.set_1 | apply IsS94.set_2 | refine IsS94.far ?_ NB160_156.out _ | refine IsS94.far ?_ NB160_167.out _) | exact HI160.out)) hb); have n4_ := Aside0.mk (blk_below (g := gb167) (o := .cells #[.int .i64 t161, .slice Ao12 t162.length co12] 26 (0, 0)) (by (with_reducible repeat (first | refine blk_drewN ?_ _ | refine blk_drew ?_ | refine blk_alloc ?_ _)); refine blk_put (cs := #[.int .i64 t161, .slice none 0 0]) ?_ 1 _ rfl; (with_reducible repeat (first | refine blk_drewN ?_ _ | refine blk_drew ?_ | refine blk_alloc ?_ _)); refine blk_put (cs := #[.int .i64 0, .slice none 0 0]) ?_ 0 _ rfl; (with_reducible repeat (first | refine blk_drewN ?_ _ | refine blk_drew ?_ | refine blk_alloc ?_ _)); exact BK167.out) hb); have n5_ := Aside0.mk (below_step (by repeat (first | (with_reducible first | exact HB.out | apply below_alloc | apply pw_below_drewN | apply below_drew1 | refine below_set ?_ (IsS94.ge HI160.out) | refine below_set ?_ GE156.out | refine below_set ?_ GE167.out) | exact HB.out)) hb); clear HO164; clear BK156; clear HI160; clear BK167; clear HB; have HO164 := n0_; have HO170 := n1_; have BK156 := n2_; have HI160 := n3_; have BK167 := n4_; have HB := n5_; clear n0_ n1_ n2_ n3_ n4_ n5_; clear hb ho14; obtain ⟨Ao15, co15, eo15⟩ := Kd.R_slice HO170.out; subst eo15; have hnb16 := NB156_160.out; have hnc16 := NB160_156.out; have hcz17_0 : w13.cell? ⟨gb156, 0, none⟩ = some (.int .i64 0) := (blk_cell BK156.out 0).trans rfl; have hcz17_1 : w13.cell? ⟨gb156, 1, none⟩ = some (.slice none 0 0) := (blk_cell BK156.out 1).trans rfl; have hfz17_0 := blk_frozen BK156.out 0; have hfz17_1 := blk_frozen BK156.out 1))
  refine bodyPost_ret (results_cell_row rfl _ _ gb156 26 #[.int .i64 2, .slice Ao15 y168.length co15] (0, 0) _ rfl (by (with_reducible repeat (first | refine blk_drewN ?_ _ | refine blk_drew ?_ | refine blk_alloc ?_ _)); refine blk_put (cs := #[.int .i64 2, .slice none 0 0]) ?_ 1 _ rfl; (with_reducible repeat (first | refine blk_drewN ?_ _ | refine blk_drew ?_ | refine blk_alloc ?_ _)); refine blk_put (cs := #[.int .i64 0, .slice none 0 0]) ?_ 0 _ rfl; (with_reducible repeat (first | refine blk_drewN ?_ _ | refine blk_drew ?_ | refine blk_alloc ?_ _)); exact BK156.out) Try.underlying26 rfl (by kernel_rfl)) rfl ?_
  exact ⟨_, by first | rfl | (simp [errW_none, errW_some] <;> rfl) | (simp [*, errW_none, errW_some] <;> rfl), by (with_reducible repeat (first | apply Kd.R_alloc | apply Kd.R_drewN | apply Kd.R_drew)); exact Kd.R_mono (Kd.R_far (p := ⟨gb156, 1, none⟩) (Kd.R_far (p := ⟨gb156, 0, none⟩) (Kd.R_types HO170.out BK156.out (by decide)) (fun _ hk => hk.2) (.int .i64 2)) (fun _ hk => hk.2) (.slice Ao15 y168.length co15)) (fun _ hk => trivial), by repeat (first | (with_reducible first | exact HB.out | apply below_alloc | apply pw_below_drewN | apply below_drew1 | refine below_set ?_ (IsS94.ge HI160.out) | refine below_set ?_ GE156.out | refine below_set ?_ GE167.out) | exact HB.out)⟩
 ·rw [if_neg c4] at H
  have c4b0 : decide (6 < t161) = false := decide_eq_false c4
  clear c4
  simp only [Option.some.injEq, Prod.mk.injEq] at H
  obtain ⟨rfl, rfl⟩ := H
  go_enter Try.func9, Try.ntmps9
  go_wp2_with (first | ((with_reducible refine gate_dst (N := 2) rfl ?_); refine box_event ?hg (N := 2) ?hd (cs := #[.int .i64 0, .slice none 0 0]) (t := 26) ?hr ?_; (case hd => rfl); (case hg => rfl); (case hr => first | (go_simp; done) | (go_simp; rfl)); intro gb156 hg w18 hbox hb; have n0_ := Aside0.mk (below_step (by repeat (first | (with_reducible first | exact HB.out | apply below_alloc | apply pw_below_drewN | apply below_drew1) | exact HB.out)) hb); have n1_ := Aside0.mk (hbox); have n2_ := Aside0.mk ((by rw [hg]; exact (below_size (by repeat (first | (with_reducible first | exact HB.out | apply below_alloc | apply pw_below_drewN | apply below_drew1) | exact HB.out))) : w.heap.size ≤ gb156)); have n3_ := Aside0.mk ((by rw [hg]; exact (below_size (by repeat (first | (with_reducible first | exact HB.out | apply below_alloc | apply pw_below_drewN | apply below_drew1) | exact HB.out))) : w.heap.size ≤ gb156)); clear HB; have HB := n0_; have BK156 := n1_; have GW156 := n2_; have GE156 := n3_; clear n0_ n1_ n2_ n3_; clear hb hbox hg) | ((with_reducible refine gate_callee (f := 33) rfl ?_); refine goesL_ (some 6) rfl rfl Try.func33 (by kernel_rfl) rfl #[.slice A0 l0.length c0] rfl (by (try simp only [List.map_toArray, List.map_cons, List.map_nil]); first | done | rfl | (simp only [List.length_drop, List.length_take]; rfl)) ?_; (with_reducible refine (spec_l00From.calls _ _ l0 t157 t158 t159 w _ ?side1 ?side2 ?side3 A2.out).mono ?_); (case side1 => repeat (first | (with_reducible first | exact HB.out | apply below_alloc | apply pw_below_drewN | apply below_drew1 | refine below_set ?_ GE156.out) | exact HB.out)); (case side2 => exact HR0.out); (case side3 => exact HC0.out); rintro e w19 ⟨g160, rfl, hi, hb, hb2⟩; refine ⟨_, rfl, ?_⟩; have n0_ := Aside0.mk (blk_below (g := gb156) (o := .cells #[.int .i64 0, .slice none 0 0] 26 (0, 0)) (by (with_reducible repeat (first | refine blk_drewN ?_ _ | refine blk_drew ?_ | refine blk_alloc ?_ _)); exact BK156.out) hb2); have n1_ := Aside0.mk (hb); have n2_ := Aside0.mk (hi); have n3_ := Aside0.mk (IsS94.ne_blk hi (blk_below (g := gb156) (o := .cells #[.int .i64 0, .slice none 0 0] 26 (0, 0)) (by (with_reducible repeat (first | refine blk_drewN ?_ _ | refine blk_drew ?_ | refine blk_alloc ?_ _)); exact BK156.out) hb2) (by decide)); have n4_ := Aside0.mk (Ne.symm (IsS94.ne_blk hi (blk_below (g := gb156) (o := .cells #[.int .i64 0, .slice none 0 0] 26 (0, 0)) (by (with_reducible repeat (first | refine blk_drewN ?_ _ | refine blk_drew ?_ | refine blk_alloc ?_ _)); exact BK156.out) hb2) (by decide))); clear BK156; clear HB; have BK156 := n0_; have HB := n1_; have HI160 := n2_; have NB160_156 := n3_; have NB156_160 := n4_; clear n0_ n1_ n2_ n3_ n4_; (try clear hb); (try clear hb2); (try clear hk); (try clear hi)) | ((with_reducible refine gate_callee (f := 34) rfl ?_); refine goesL_ (some 8) rfl rfl Try.func34 (by kernel_rfl) rfl #[.pointer (some ⟨g160, 0, none⟩)] rfl (by (try simp only [List.map_toArray, List.map_cons, List.map_nil]); first | done | rfl | (simp only [List.length_drop, List.length_take]; rfl)) ?_; (with_reducible refine (spec_l04DrawOk.calls k g160 t157 t158 t159 t161 t162 t165 t166 w _ ?side1 ?side2 A3.out).mono ?_); (case side1 => repeat (first | (with_reducible first | exact HI160.out | apply IsS94.alloc | apply IsS94.drewN | apply IsS94.drew | apply IsS94.set_1 | apply IsS94.set_2 | refine IsS94.far ?_ NB160_156.out _) | exact HI160.out)); (case side2 => repeat (first | (with_reducible first | exact HB.out | apply below_alloc | apply pw_below_drewN | apply below_drew1 | refine below_set ?_ (IsS94.ge HI160.out) | refine below_set ?_ GE156.out) | exact HB.out)); rintro e w20 ⟨v163, rfl, ho0, hi, hb, hk⟩; refine ⟨_, rfl, ?_⟩; have n0_ := Aside0.mk (KeepBut.blk hk (g' := gb156) (o := .cells #[.int .i64 0, .slice none 0 0] 26 (0, 0)) (by (with_reducible repeat (first | refine blk_drewN ?_ _ | refine blk_drew ?_ | refine blk_alloc ?_ _)); exact BK156.out) NB156_160.out (by simp)); have n1_ := Aside0.mk (Kd.R_lower ho0 (below_size (by repeat (first | (with_reducible first | exact HB.out | apply below_alloc | apply pw_below_drewN | apply below_drew1 | refine below_set ?_ (IsS94.ge HI160.out) | refine below_set ?_ GE156.out) | exact HB.out)))); have n2_ := Aside0.mk (hb); have n3_ := Aside0.mk (hi); clear BK156; clear HB; clear HI160; have BK156 := n0_; have HO164 := n1_; have HB := n2_; have HI160 := n3_; clear n0_ n1_ n2_ n3_; (try clear hb); (try clear hb2); (try clear hk); (try clear hi); (try clear ho0)) | ((with_reducible refine gate_dst (N := 4) rfl ?_); refine box_event ?hg (N := 4) ?hd (cs := #[.int .i64 0, .slice none 0 0]) (t := 26) ?hr ?_; (case hd => rfl); (case hg => rfl); (case hr => first | (go_simp; done) | (go_simp; rfl)); intro gb167 hg w21 hbox hb; have n0_ := Aside0.mk (Kd.R_below (by (with_reducible repeat (first | apply Kd.R_alloc | apply Kd.R_drewN | apply Kd.R_drew)); exact HO164.out) hb); have n1_ := Aside0.mk (blk_below (g := gb156) (o := .cells #[.int .i64 0, .slice none 0 0] 26 (0, 0)) (by (with_reducible repeat (first | refine blk_drewN ?_ _ | refine blk_drew ?_ | refine blk_alloc ?_ _)); exact BK156.out) hb); have n2_ := Aside0.mk (IsS94.below (by repeat (first | (with_reducible first | exact HI160.out | apply IsS94.alloc | apply IsS94.drewN | apply IsS94.drew | apply IsS94.set_1 | apply IsS94.set_2 | refine IsS94.far ?_ NB160_156.out _) | exact HI160.out)) hb); have n3_ := Aside0.mk (below_step (by repeat (first | (with_reducible first | exact HB.out | apply below_alloc | apply pw_below_drewN | apply below_drew1 | refine below_set ?_ (IsS94.ge HI160.out) | refine below_set ?_ GE156.out) | exact HB.out)) hb); have n4_ := Aside0.mk (hbox); have n5_ := Aside0.mk ((by rw [hg]; exact (below_size (by repeat (first | (with_reducible first | exact HB.out | apply below_alloc | apply pw_below_drewN | apply below_drew1 | refine below_set ?_ (IsS94.ge HI160.out) | refine below_set ?_ GE156.out) | exact HB.out))) : w.heap.size ≤ gb167)); have n6_ := Aside0.mk ((by rw [hg]; exact (below_size (by repeat (first | (with_reducible first | exact HB.out | apply below_alloc | apply pw_below_drewN | apply below_drew1 | refine below_set ?_ (IsS94.ge HI160.out) | refine below_set ?_ GE156.out) | exact HB.out))) : w.heap.size ≤ gb167)); have n7_ := Aside0.mk ((by rw [hg]; exact Nat.ne_of_lt (blk_lt (g := gb156) (o := .cells #[.int .i64 0, .slice none 0 0] 26 (0, 0)) (by (with_reducible repeat (first | refine blk_drewN ?_ _ | refine blk_drew ?_ | refine blk_alloc ?_ _)); exact BK156.out)) : gb156 ≠ gb167)); have n8_ := Aside0.mk ((by rw [hg]; exact Nat.ne_of_gt (blk_lt (g := gb156) (o := .cells #[.int .i64 0, .slice none 0 0] 26 (0, 0)) (by (with_reducible repeat (first | refine blk_drewN ?_ _ | refine blk_drew ?_ | refine blk_alloc ?_ _)); exact BK156.out)) : gb167 ≠ gb156)); have n9_ := Aside0.mk ((by rw [hg]; exact Nat.ne_of_lt (IsS94.lt (show IsS94 w _ g160 t157 t165 t166 from by repeat (first | (with_reducible first | exact HI160.out | apply IsS94.alloc | apply IsS94.drewN | apply IsS94.drew | apply IsS94.set_1 | apply IsS94.set_2 | refine IsS94.far ?_ NB160_156.out _) | exact HI160.out))) : g160 ≠ gb167)); have n10_ := Aside0.mk ((by rw [hg]; exact Nat.ne_of_gt (IsS94.lt (show IsS94 w _ g160 t157 t165 t166 from by repeat (first | (with_reducible first | exact HI160.out | apply IsS94.alloc | apply IsS94.drewN | apply IsS94.drew | apply IsS94.set_1 | apply IsS94.set_2 | refine IsS94.far ?_ NB160_156.out _) | exact HI160.out))) : gb167 ≠ g160)); clear HO164; clear BK156; clear HI160; clear HB; have HO164 := n0_; have BK156 := n1_; have HI160 := n2_; have HB := n3_; have BK167 := n4_; have GW167 := n5_; have GE167 := n6_; have NB156_167 := n7_; have NB167_156 := n8_; have NB160_167 := n9_; have NB167_160 := n10_; clear n0_ n1_ n2_ n3_ n4_ n5_ n6_ n7_ n8_ n9_ n10_; clear hb hbox hg; have hnb22 := NB167_156.out; have hnc22 := NB156_167.out; have hnb23 := NB167_160.out; have hnc23 := NB160_167.out; have hcz24_0 : w21.cell? ⟨gb167, 0, none⟩ = some (.int .i64 0) := (blk_cell BK167.out 0).trans rfl; have hcz24_1 : w21.cell? ⟨gb167, 1, none⟩ = some (.slice none 0 0) := (blk_cell BK167.out 1).trans rfl; have hfz24_0 := blk_frozen BK167.out 0; have hfz24_1 := blk_frozen BK167.out 1; obtain ⟨Ao25, co25, eo25⟩ := Kd.R_slice HO164.out; subst eo25; have hnb26 := NB156_160.out; have hnc26 := NB160_156.out; have hcz27_0 : w21.cell? ⟨gb156, 0, none⟩ = some (.int .i64 0) := (blk_cell BK156.out 0).trans rfl; have hcz27_1 : w21.cell? ⟨gb156, 1, none⟩ = some (.slice none 0 0) := (blk_cell BK156.out 1).trans rfl; have hfz27_0 := blk_frozen BK156.out 0; have hfz27_1 := blk_frozen BK156.out 1))
  refine bodyPost_ret (results_cell_row rfl _ _ gb156 26 #[.int .i64 t161, .slice Ao25 t162.length co25] (0, 0) _ rfl (by (with_reducible repeat (first | refine blk_drewN ?_ _ | refine blk_drew ?_ | refine blk_alloc ?_ _)); refine blk_put (cs := #[.int .i64 t161, .slice none 0 0]) ?_ 1 _ rfl; (with_reducible repeat (first | refine blk_drewN ?_ _ | refine blk_drew ?_ | refine blk_alloc ?_ _)); refine blk_put (cs := #[.int .i64 0, .slice none 0 0]) ?_ 0 _ rfl; (with_reducible repeat (first | refine blk_drewN ?_ _ | refine blk_drew ?_ | refine blk_alloc ?_ _)); refine blk_far ?_ NB156_167.out _; (with_reducible repeat (first | refine blk_drewN ?_ _ | refine blk_drew ?_ | refine blk_alloc ?_ _)); refine blk_far ?_ NB156_167.out _; (with_reducible repeat (first | refine blk_drewN ?_ _ | refine blk_drew ?_ | refine blk_alloc ?_ _)); exact BK156.out) Try.underlying26 rfl (by kernel_rfl)) rfl ?_
  exact ⟨_, by first | rfl | (simp [errW_none, errW_some] <;> rfl) | (simp [*, errW_none, errW_some] <;> rfl), by (with_reducible repeat (first | apply Kd.R_alloc | apply Kd.R_drewN | apply Kd.R_drew)); exact Kd.R_mono (Kd.R_far (p := ⟨gb156, 1, none⟩) (Kd.R_far (p := ⟨gb156, 0, none⟩) (Kd.R_far (p := ⟨gb167, 1, none⟩) (Kd.R_far (p := ⟨gb167, 0, none⟩) (Kd.R_types (Kd.R_types HO164.out BK167.out (by decide)) BK156.out (by decide)) (fun _ hk => hk.1.2) (.int .i64 t161)) (fun _ hk => hk.1.2) (.slice Ao25 t162.length co25)) (fun _ hk => hk.2) (.int .i64 t161)) (fun _ hk => hk.2) (.slice Ao25 t162.length co25)) (fun _ hk => trivial), by repeat (first | (with_reducible first | exact HB.out | apply below_alloc | apply pw_below_drewN | apply below_drew1 | refine below_set ?_ (IsS94.ge HI160.out) | refine below_set ?_ GE156.out | refine below_set ?_ GE167.out) | exact HB.out)⟩

end Go.Proofs.Ytahjcmmgdcedpaa.Pa

namespace Go.Proofs.Ytahjcmmgdcedpaa.Pa
open Go.RowKit Go.Proofs.YtahjcmmgdcedpaaW.PrintWords Go.Proofs.YtahjcmmgdcedpaaW.PrintLast Go.Proofs.YtahjcmmgdcedpaaW.PrintMore
attribute [local go_sem] max2_int min2_int max_two min_two max_three min_three max_four min_four   -- for this text's walks alone
set_option linter.unusedVariables false
set_option linter.unusedSimpArgs false

/-! ### spec_R8Times: function 10 -/
def spec_R8Times.l0 : Nat → Int → List Int → Int → List Int → Int → Int → Option (List Int)
 | 0, _, _, _, _, _, _ => none
 | k + 1, x1, x6, x7, x175000, x175001, x175002 => if x7 < x1 then ((spec_l00Src_pick.f x175000 x175001 x175002 30).bind fun bt178 => (if x6.length < 17592186044416 then (spec_R8Times.l0 k x1 (x6 ++ [wrap64 (bt178.1 - 6)]) (wrap64 (x7 + 1)) x175000 bt178.2.1 bt178.2.2) else (none))) else (some x6)
def spec_R8Times.f (k : Nat) (l0 : List Int) (a1 : Int) : Option (List Int) := (spec_l00From.f l0).bind fun bt171 => (spec_R8Times.l0 k a1 (([] : List Int)) 0 bt171.1 bt171.2.1 bt171.2.2)
theorem spec_R8Times.mono_l : ∀ k, (∀ y0 y1 y2 y3 y4 y5, LeO (spec_R8Times.l0 k y0 y1 y2 y3 y4 y5) (spec_R8Times.l0 (k + 1) y0 y1 y2 y3 y4 y5))
 | 0 => fun _ _ _ _ _ _ r h => by simp [spec_R8Times.l0] at h
 | k + 1 => by
  have ih0 := spec_R8Times.mono_l k
  ·intro y0 y1 y2 y3 y4 y5
   unfold spec_R8Times.l0
   repeat' first
   | (with_reducible exact ih0 _ _ _ _ _ _)
   | (with_reducible exact LeO.refl _)
   | (with_reducible exact LeO.none _)
   | (with_reducible refine LeO.ite ?_ ?_)
   | (with_reducible refine LeO.bind ?_ (fun _ => ?_))
   | exact ih0 _ _ _ _ _ _
   | exact LeO.none _
   | refine LeO.ite ?_ ?_
   | refine LeO.bind ?_ (fun _ => ?_)
theorem spec_R8Times.mono : ∀ a0 a1 k, LeO (spec_R8Times.f k a0 a1) (spec_R8Times.f (k + 1) a0 a1) := by
 intro a0 a1 k
 have ih0 := spec_R8Times.mono_l k
 unfold spec_R8Times.f
 repeat' first
   | (with_reducible exact ih0 _ _ _ _ _ _)
   | (with_reducible exact LeO.refl _)
   | (with_reducible exact LeO.none _)
   | (with_reducible refine LeO.ite ?_ ?_)
   | (with_reducible refine LeO.bind ?_ (fun _ => ?_))
   | exact ih0 _ _ _ _ _ _
   | exact LeO.none _
   | refine LeO.ite ?_ ?_
   | refine LeO.bind ?_ (fun _ => ?_)
set_option maxHeartbeats 8000000 in
set_option maxRecDepth 100000 in
theorem spec_R8Times.calls (k : Nat) (A0 : Option Addr) (c0 : Nat) (l0 : List Int) (a1 : Int) (r : List Int) (w : World) (hr0 : Kd.C (Kd.int .u8) w A0 l0.length l0) (hc0 : l0.length ≤ c0) (h : spec_R8Times.f k l0 a1 = some r) :
  Calls Try.prog 10 #[.slice A0 l0.length c0, .int .i64 a1] w fun e w' => ∃ v0_ : Value, e = .returned (v0_) ∧ Kd.R (Kd.int .i64) 2 w' w.heap.size (fun _ => True) v0_ r ∧ Below w.heap.size w w' := by
 have HR0 := Aside0.mk hr0
 have HC0 := Aside0.mk hc0
 clear hr0 hc0
 have HB := Aside0.mk (Below.refl w.heap.size w)
 have H : ((spec_l00From.f l0).bind fun bt171 => (spec_R8Times.l0 k a1 (([] : List Int)) 0 bt171.1 bt171.2.1 bt171.2.2)) = some r := h
 clear h
 replace H := Option.bind_eq_some_iff.mp H
 obtain ⟨⟨t171, t172, t173⟩, A30, H⟩ := H
 replace H : (spec_R8Times.l0 k a1 (([] : List Int)) 0 t171 t172 t173) = some r := H
 have A3 := Aside0.mk A30
 clear A30
 obtain ⟨y175, hy175⟩ : ∃ y_ : List Int, y_ = (([] : List Int)) := ⟨_, rfl⟩
 replace H : (spec_R8Times.l0 k a1 y175 0 t171 t172 t173) = some r := by first | (rw [hy175]; with_reducible exact H) | (have H2_ := (Option.bind_some _ _).symm.trans H; rw [hy175]; with_reducible exact H2_) | (have H2_ := (Option.bind_some _ _).symm.trans H; with_reducible exact H2_) | with_reducible exact H | (rw [hy175]; exact H) | exact H
 have Ny175 := Aside0.mk hy175
 clear hy175
 have H' := Aside0.mk H
 clear H
 go_enter Try.func10, Try.ntmps10
 go_wp2_with (first | ((with_reducible refine gate_callee (f := 33) rfl ?_); refine goesL_ (some 9) rfl rfl Try.func33 (by kernel_rfl) rfl #[.slice A0 l0.length c0] rfl (by (try simp only [List.map_toArray, List.map_cons, List.map_nil]); first | done | rfl | (simp only [List.length_drop, List.length_take]; rfl)) ?_; (with_reducible refine (spec_l00From.calls _ _ l0 t171 t172 t173 w _ ?side1 ?side2 ?side3 A3.out).mono ?_); (case side1 => repeat (first | (with_reducible first | exact HB.out | apply below_alloc | apply pw_below_drewN | apply below_drew1) | exact HB.out)); (case side2 => exact HR0.out); (case side3 => exact HC0.out); rintro e w4 ⟨g174, rfl, hi, hb, hb2⟩; refine ⟨_, rfl, ?_⟩; have n0_ := Aside0.mk (hb); have n1_ := Aside0.mk (hi); clear HB; have HB := n0_; have HI174 := n1_; clear n0_ n1_; (try clear hb); (try clear hb2); (try clear hk); (try clear hi)) | ((with_reducible refine gate_dst (N := 10) rfl ?_); refine Kd.R_lit (Kd.int .i64) _ 2 ?hg (N := 10) ?hd (xs := ([] : List Int)) (inner := []) (ok := fun _ => True) (okp := fun _ => True) ?hr ?hp (fun _ hk => hk) trivial (Below.refl _ _) (Nat.le_refl _) (by simp) ?_; (case hd => rfl); (case hg => rfl); (case hr => first | (go_simp; done) | (go_simp; rfl)); (case hp => exact (Reps.none _ _)); intro v176 w5 ho6 hb hg_ hnew_; clear hg_ hnew_; (first | rw [← Ny175.out] at ho6 | (simp only [Int.reduceToNat] at ho6; rw [← Ny175.out] at ho6)); have n0_ := Aside0.mk (Kd.R_lower ho6 (below_size (by repeat (first | (with_reducible first | exact HB.out | apply below_alloc | apply pw_below_drewN | apply below_drew1 | refine below_set ?_ (IsS94.ge HI174.out)) | exact HB.out)))); have n1_ := Aside0.mk (IsS94.below (by repeat (first | (with_reducible first | exact HI174.out | apply IsS94.alloc | apply IsS94.drewN | apply IsS94.drew | apply IsS94.set_1 | apply IsS94.set_2) | exact HI174.out)) hb); have n2_ := Aside0.mk (below_step (by repeat (first | (with_reducible first | exact HB.out | apply below_alloc | apply pw_below_drewN | apply below_drew1 | refine below_set ?_ (IsS94.ge HI174.out)) | exact HB.out)) hb); clear HI174; clear HB; have HO177 := n0_; have HI174 := n1_; have HB := n2_; clear n0_ n1_ n2_; clear hb ho6))
 go_loopg [6, 7] k (fun kq v6 v7 w' => ∃ (x6_1 : List Int) (x7_1 : Int) (x175001_1 : Int) (x175002_1 : Int), v7 = .int .i64 x7_1 ∧ Aside0 (spec_R8Times.l0 kq a1 x6_1 x7_1 t171 x175001_1 x175002_1 = some r) ∧ Aside0 (kq ≤ k) ∧ Aside0 (Kd.R (Kd.int .i64) 2 w' w.heap.size (fun _ => True) v6 x6_1) ∧ Aside0 (IsS94 w w' g174 t171 x175001_1 x175002_1) ∧ Aside0 (Below w.heap.size w w'))
 case atStart => exact ⟨(y175), (0), (t172), (t173), (by first | rfl | (simp; done) | (simp [*]; done)), H', ⟨Nat.le_refl _⟩, ⟨by (with_reducible repeat (first | apply Kd.R_alloc | apply Kd.R_drewN | apply Kd.R_drew)); exact HO177.out⟩, ⟨by repeat (first | (with_reducible first | exact HI174.out | apply IsS94.alloc | apply IsS94.drewN | apply IsS94.drew | apply IsS94.set_1 | apply IsS94.set_2) | exact HI174.out)⟩, ⟨by repeat (first | (with_reducible first | exact HB.out | apply below_alloc | apply pw_below_drewN | apply below_drew1 | refine below_set ?_ (IsS94.ge HI174.out)) | exact HB.out)⟩⟩
 case round =>
  clear H'
  try clear c1
  try clear p2
  try clear c3
  obtain ⟨x6_1, x7_1, x175001_1, x175002_1, rfl, HA, HK1, HO_6, HI174, HB⟩ := hrel
  cases gk with
  | zero => exact absurd HA.out (by simp [spec_R8Times.l0])
  | succ k1 =>
   have H := HA.out
   clear HA
   simp only [spec_R8Times.l0] at H
   by_cases c7 : x7_1 < a1
   ·rw [if_pos c7] at H
    have c7b0 : decide (x7_1 < a1) = true := decide_eq_true c7
    clear c7
    replace H := Option.bind_eq_some_iff.mp H
    obtain ⟨⟨t178, t179, t180⟩, A80, H⟩ := H
    replace H : (if x6_1.length < 17592186044416 then (spec_R8Times.l0 k1 a1 (x6_1 ++ [wrap64 (t178 - 6)]) (wrap64 (x7_1 + 1)) t171 t179 t180) else (none)) = some r := H
    have A8 := Aside0.mk A80
    clear A80
    by_cases c9 : x6_1.length < 17592186044416
    ·rw [if_pos c9] at H
     have LMc9 := Aside0.mk c9
     clear c9
     obtain ⟨y181, hy181⟩ : ∃ y_ : List Int, y_ = (x6_1 ++ [wrap64 (t178 - 6)]) := ⟨_, rfl⟩
     replace H : (spec_R8Times.l0 k1 a1 y181 (wrap64 (x7_1 + 1)) t171 t179 t180) = some r := by first | (rw [hy181]; with_reducible exact H) | (have H2_ := (Option.bind_some _ _).symm.trans H; rw [hy181]; with_reducible exact H2_) | (have H2_ := (Option.bind_some _ _).symm.trans H; with_reducible exact H2_) | with_reducible exact H | (rw [hy181]; exact H) | exact H
     have Ny181 := Aside0.mk hy181
     clear hy181
     have H' := Aside0.mk H
     clear H
     go_wp2_with (first | ((with_reducible refine gate_callee (f := 35) rfl ?_); refine goesL_ (some 18) rfl rfl Try.func35 (by kernel_rfl) rfl #[.pointer (some ⟨g174, 0, none⟩), .int .i64 30] rfl (by (try simp only [List.map_toArray, List.map_cons, List.map_nil]); first | done | rfl | (simp only [List.length_drop, List.length_take]; rfl)) ?_; (with_reducible refine (spec_l00Src_pick.calls g174 t171 x175001_1 x175002_1 30 t178 t179 t180 w _ ?side1 ?side2 A8.out).mono ?_); (case side1 => repeat (first | (with_reducible first | exact HI174.out | apply IsS94.alloc | apply IsS94.drewN | apply IsS94.drew | apply IsS94.set_1 | apply IsS94.set_2) | exact HI174.out)); (case side2 => repeat (first | (with_reducible first | exact HB.out | apply below_alloc | apply pw_below_drewN | apply below_drew1 | refine below_set ?_ (IsS94.ge HI174.out)) | exact HB.out)); rintro e w10 ⟨rfl, hi, hb, hk⟩; refine ⟨_, rfl, ?_⟩; have n0_ := Aside0.mk (Kd.R_mono (Kd.R_keep (IsS94.apart (show IsS94 w _ g174 t171 x175001_1 x175002_1 from by repeat (first | (with_reducible first | exact HI174.out | apply IsS94.alloc | apply IsS94.drewN | apply IsS94.drew | apply IsS94.set_1 | apply IsS94.set_2) | exact HI174.out)) (by (with_reducible repeat (first | apply Kd.R_alloc | apply Kd.R_drewN | apply Kd.R_drew)); exact HO_6.out) (by decide)) hk (fun _ h => h.2)) (fun _ h => h.1)); have n1_ := Aside0.mk (hb); have n2_ := Aside0.mk (hi); clear HO_6; clear HB; clear HI174; have HO_6 := n0_; have HB := n1_; have HI174 := n2_; clear n0_ n1_ n2_; (try clear hb); (try clear hb2); (try clear hk); (try clear hi)) | ((with_reducible refine gate_builtin (b := .append) (xs := #[.tmp 16, .tmp 20]) rfl ?_); at_builtin; refine Kd.R_append (Kd.int .i64) (w0 := w) w.heap.size rfl (.tmp 16) (.tmp 20) 28 2 (.int .i64 0) 8 rfl Try.underlying28 info2 rfl (by decide) (by omega) u6 x6_1 (wrap64 (t178 - 6)) [.int .i64 (wrap64 (t178 - 6))] (fun _ => True) (fun _ => False) rfl rfl ?aP (fun _ hk => hk.elim) ?aF ?aO ?aB ?aS ?aL ?_; (case aP => exact rfl); (case aB => exact (by repeat (first | (with_reducible first | exact HB.out | apply below_alloc | apply pw_below_drewN | apply below_drew1 | refine below_set ?_ (IsS94.ge HI174.out)) | exact HB.out))); (case aF => exact (fun _ _ => trivial)); (case aO => exact (by (with_reducible repeat (first | apply Kd.R_alloc | apply Kd.R_drewN | apply Kd.R_drew)); exact HO_6.out)); (case aS => exact (below_size (by repeat (first | (with_reducible first | exact HB.out | apply below_alloc | apply pw_below_drewN | apply below_drew1 | refine below_set ?_ (IsS94.ge HI174.out)) | exact HB.out)))); (case aL => have := LMc9.out; omega); intro v182 w11 ho hb hg hat; rw [← Ny181.out] at ho; have n0_ := Aside0.mk (IsS94.grown (by repeat (first | (with_reducible first | exact HI174.out | apply IsS94.alloc | apply IsS94.drewN | apply IsS94.drew | apply IsS94.set_1 | apply IsS94.set_2) | exact HI174.out)) hg (IsS94.own_ne HI174.out HO_6.out (by decide))); have n1_ := Aside0.mk (hb); have n2_ := Aside0.mk (ho); clear HI174; clear HB; clear HO_6; have HI174 := n0_; have HB := n1_; have HO183 := n2_; clear n0_ n1_ n2_; clear ho hb hg hat))
     go_roundg k1
     case measure => have := HK1.out; omega
     case rel => exact ⟨(y181), (wrap64 (x7_1 + 1)), (t179), (t180), (by first | rfl | (simp; done) | (simp [*]; done)), H', ⟨by have := HK1.out; omega⟩, ⟨by (with_reducible repeat (first | apply Kd.R_alloc | apply Kd.R_drewN | apply Kd.R_drew)); exact HO183.out⟩, ⟨by repeat (first | (with_reducible first | exact HI174.out | apply IsS94.alloc | apply IsS94.drewN | apply IsS94.drew | apply IsS94.set_1 | apply IsS94.set_2) | exact HI174.out)⟩, ⟨by repeat (first | (with_reducible first | exact HB.out | apply below_alloc | apply pw_below_drewN | apply below_drew1 | refine below_set ?_ (IsS94.ge HI174.out)) | exact HB.out)⟩⟩
    ·rw [if_neg c9] at H
     exact absurd H (by simp)
   ·rw [if_neg c7] at H
    have c7b0 : decide (x7_1 < a1) = false := decide_eq_false c7
    clear c7
    obtain rfl := Option.some.inj H
    go_wp2
    go_ret
    exact ⟨_, by first | rfl | (simp [errW_none, errW_some] <;> rfl) | (simp [*, errW_none, errW_some] <;> rfl), by (with_reducible repeat (first | apply Kd.R_alloc | apply Kd.R_drewN | apply Kd.R_drew)); exact HO_6.out, by repeat (first | (with_reducible first | exact HB.out | apply below_alloc | apply pw_below_drewN | apply below_drew1 | refine below_set ?_ (IsS94.ge HI174.out)) | exact HB.out)⟩

end Go.Proofs.Ytahjcmmgdcedpaa.Pa

/- What the short laws draw from their bytes: diagrams in bounds, times in bounds. -/
namespace Go.Proofs.Ytahjcmmgdcedpaa.Pure
open Go.RowKit Go.Proofs.Ytahjcmmgdcedpaa.Pa Go.Proofs.YtahjcmmgdcedpaaW.PrintWords Go.Proofs.YtahjcmmgdcedpaaW.PrintLast Go.Proofs.YtahjcmmgdcedpaaW.PrintMore
set_option linter.unusedVariables false
set_option linter.unusedSimpArgs false

theorem times_loop (l : List Int) (hl : Bytes l) (hlen : l.length ≤ 1000) (n : Nat) (hn : n ≤ 10) (d : Nat) : ∀ (k : Nat) (acc : List Int) (i : Nat) (p h : Int), acc.length = i → i + d = n → 0 ≤ p → p ≤ i → (∀ t ∈ acc, -6 ≤ t ∧ t ≤ 23) →
  ∃ r, spec_R8Times.l0 (k + d + 1) (n : Int) acc (i : Int) l p h = some r ∧ r.length = n ∧ ∀ t ∈ r, -6 ≤ t ∧ t ≤ 23 := by
 induction d with
 | zero =>
  intro k acc i p h ha hi hp hp2 ht
  refine ⟨acc, ?_, by omega, ht⟩
  simp only [Nat.add_zero, spec_R8Times.l0]
  rw [if_neg (by omega)]
 | succ d ih =>
  intro k acc i p h ha hi hp hp2 ht
  obtain ⟨v, p', h', e, v0, v1, _, q0, q1⟩ := pick_tells l hl hlen p h 30 hp (by omega) (by omega)
  have v2 := v1 (by omega)
  obtain ⟨r, hr, hr2, hr3⟩ := ih k (acc ++ [v - 6]) (i + 1) p' h' (by simp [ha]) (by omega) (by omega) (by push_cast; omega) (fun t hm => by
   rcases List.mem_append.mp hm with hm | hm
   ·exact ht t hm
   ·rw [List.mem_singleton] at hm; omega)
  refine ⟨r, ?_, hr2, hr3⟩
  rw [show k + (d + 1) + 1 = (k + d + 1) + 1 from rfl]
  rw [show ((i + 1 : Nat) : Int) = (i : Int) + 1 from by omega] at hr
  generalize k + d + 1 = q at hr ⊢
  simp only [spec_R8Times.l0]
  rw [if_pos (by omega), e]
  simp only [Option.bind_some]
  rw [if_pos (by omega), wrap_id (x := v - 6) (by omega) (by omega), wrap_id (x := (i : Int) + 1) (by omega) (by omega), hr]
theorem times_tell (l : List Int) (hl : Bytes l) (hlen : l.length ≤ 1000) (n : Nat) (hn : n ≤ 10) : ∃ K, ∀ k, K ≤ k → ∃ r, spec_R8Times.f k l (n : Int) = some r ∧ r.length = n ∧ ∀ t ∈ r, -6 ≤ t ∧ t ≤ 23 := by
 refine ⟨n + 1, fun k hk => ?_⟩
 obtain ⟨q, rfl⟩ : ∃ q, k = q + n + 1 := ⟨k - (n + 1), by omega⟩
 have := times_loop l hl hlen n hn n q [] 0 0 0 rfl (by omega) (by omega) (by omega) (by simp)
 unfold spec_R8Times.f spec_l00From.f
 simp only [Option.bind_some]
 exact this
/-- A bound between two of n events, of a small size. -/
def Good8 (n : Int) (b : S32) : Prop := 0 ≤ b.f0 ∧ b.f0 ≤ n - 1 ∧ 0 ≤ b.f1 ∧ b.f1 ≤ n - 1 ∧ b.f0 ≠ b.f1 ∧ -1000 ≤ b.f2 ∧ b.f2 ≤ 1000
theorem draw_l1 (l : List Int) (hl : Bytes l) (hlen : l.length ≤ 1000) (n : Nat) (h1 : 1 ≤ n) (hn : n ≤ 10) (x4 : List Int) (h4 : x4.length = n) (hx4 : ∀ t ∈ x4, 0 ≤ t ∧ t ≤ 19) (c : Nat) : ∀ (k : Nat) (p h : Int) (bs : List S32), 0 ≤ p → p + 5 * (c : Int) ≤ 1000 → bs.length + c ≤ 9 → (∀ b ∈ bs, Good8 (n : Int) b) →
  ∃ bs' p' h', spec_l04DrawOk.l1 (k + 2 * c + 2) x4 (c : Int) l p h (n : Int) bs = some ((n : Int), bs', p', h') ∧ bs'.length ≤ 9 ∧ ∀ b ∈ bs', Good8 (n : Int) b := by
 induction c with
 | zero =>
  intro k p h bs hp hp2 hb hg
  refine ⟨bs, p, h, ?_, by omega, hg⟩
  rw [show k + 2 * 0 + 2 = (k + 1) + 1 from rfl]
  simp only [spec_l04DrawOk.l1]
  rw [if_neg (by omega)]
  simp only [spec_l04DrawOk.j3]
  simp
 | succ c ih =>
  intro k p h bs hp hp2 hb hg
  push_cast at hp2
  rw [show k + 2 * (c + 1) + 2 = (k + 2 * c + 2 + 1) + 1 by omega]
  by_cases hn1 : n = 1
  ·subst hn1
   refine ⟨bs, p, h, ?_, by omega, hg⟩
   generalize k + 2 * c + 2 = q
   simp only [spec_l04DrawOk.l1]
   rw [if_pos (by omega)]
   simp only [spec_l04DrawOk.j3]
   simp
  ·obtain ⟨a, p1, g1, e1, a0, a1, _, q1, q2⟩ := pick_tells l hl hlen p h (n : Int) hp (by omega) (by omega)
   have a2 := a1 (by omega)
   obtain ⟨b, p2, g2, e2, b0, b1, b1', q3, q4⟩ := pick_tells l hl hlen p1 g1 ((n : Int) - 1) (by omega) (by omega) (by omega)
   have b2 : b ≤ (n : Int) - 2 := by
    by_cases hh : (2 : Int) ≤ (n : Int) - 1
    ·have := b1 hh; omega
    ·have := b1' (by omega); omega
   obtain ⟨s, p3, g3, e3, s0, s1, _, q5, q6⟩ := pick_tells l hl hlen p2 g2 6 (by omega) (by omega) (by omega)
   have s2 := s1 (by omega)
   obtain ⟨o, p4, g4, e4, q7, q8⟩ := one_tells l hl hlen p3 g3 12 (by omega) (by omega) (by omega)
   have hm : Int.tmod (a + 1 + b) (n : Int) = if a + 1 + b < (n : Int) then a + 1 + b else a + 1 + b - (n : Int) := by
    rw [Int.tmod_eq_emod_of_nonneg (by omega)]
    split
    ·exact Int.emod_eq_of_lt (by omega) (by omega)
    ·rw [← Int.sub_emod_right]
     exact Int.emod_eq_of_lt (by omega) (by omega)
   generalize hT : Int.tmod (a + 1 + b) (n : Int) = T at hm
   have t0 : 0 ≤ T := by rw [hm]; split <;> omega
   have t1 : T < (n : Int) := by rw [hm]; split <;> omega
   have t2 : a ≠ T := by rw [hm]; split <;> omega
   have ra : 0 ≤ rd x4 a ∧ rd x4 a ≤ 19 := by
    have := rd_get (l := x4) (i := a.toNat) (by omega)
    rw [show ((a.toNat : Nat) : Int) = a by omega] at this
    rw [this]; exact hx4 _ (List.getElem_mem _)
   have rT : 0 ≤ rd x4 T ∧ rd x4 T ≤ 19 := by
    have := rd_get (l := x4) (i := T.toNat) (by omega)
    rw [show ((T.toNat : Nat) : Int) = T by omega] at this
    rw [this]; exact hx4 _ (List.getElem_mem _)
   have next : ∀ m : Int, -1000 ≤ m → m ≤ 1000 → ∃ bs' p' h', spec_l04DrawOk.l1 (k + 2 * c + 2) x4 (c : Int) l p4 g4 (n : Int) (bs ++ [⟨a, T, m⟩]) = some ((n : Int), bs', p', h') ∧ bs'.length ≤ 9 ∧ ∀ b ∈ bs', Good8 (n : Int) b := by
    intro m m0 m1
    refine ih k p4 g4 _ (by omega) (by omega) (by simp; omega) (fun y hy => ?_)
    rcases List.mem_append.mp hy with hy | hy
    ·exact hg y hy
    ·rw [List.mem_singleton] at hy
     subst hy
     exact ⟨a0, (by show a ≤ (n : Int) - 1; omega), t0, (by show T ≤ (n : Int) - 1; omega), t2, m0, m1⟩
   generalize k + 2 * c + 2 = q at next ⊢
   simp only [spec_l04DrawOk.l1]
   rw [if_pos (by omega), decide_eq_true (by omega : (n : Int) > 1)]
   simp only [spec_l04DrawOk.j3, if_true]
   rw [e1]
   simp only [Option.bind_some]
   rw [wrap_id (x := (n : Int) - 1) (by omega) (by omega), e2]
   simp only [Option.bind_some]
   rw [wrap_id (x := a + 1) (by omega) (by omega), wrap_id (x := a + 1 + b) (by omega) (by omega), hT, if_neg (by omega), if_pos t0, if_pos (by omega), if_pos a0, if_pos (by omega), e3]
   simp only [Option.bind_some]
   rw [e4]
   simp only [Option.bind_some]
   have hc : wrap64 (((c + 1 : Nat) : Int) - 1) = (c : Int) := by rw [wrap_id (by omega) (by omega)]; omega
   rw [hc, wrap_id (x := rd x4 T - rd x4 a) (by omega) (by omega), wrap_id (x := rd x4 T - rd x4 a + s) (by omega) (by omega), wrap_id (x := rd x4 T - rd x4 a + s - 4) (by omega) (by omega)]
   by_cases ho : o = true
   ·rw [if_pos ho, if_pos (by omega)]
    exact next _ (by omega) (by omega)
   ·rw [if_neg ho, if_pos (by omega)]
    exact next _ (by omega) (by omega)
theorem draw_l0 (l : List Int) (hl : Bytes l) (hlen : l.length ≤ 1000) (n : Nat) (h1 : 1 ≤ n) (hn : n ≤ 10) (d : Nat) : ∀ (k : Nat) (x4 : List Int) (i : Nat) (p h : Int), x4.length = i → i + d = n → 0 ≤ p → p ≤ 2 + i → (∀ t ∈ x4, 0 ≤ t ∧ t ≤ 19) →
  ∃ bs' p' h', spec_l04DrawOk.l0 (k + 20 + d + 1) x4 (i : Int) l p h (n : Int) [] = some ((n : Int), bs', p', h') ∧ bs'.length ≤ 9 ∧ ∀ b ∈ bs', Good8 (n : Int) b := by
 induction d with
 | zero =>
  intro k x4 i p h ha hi hp hp2 ht
  obtain ⟨c, p1, g1, e1, c0, c1, _, q1, q2⟩ := pick_tells l hl hlen p h 10 hp (by omega) (by omega)
  have c2 := c1 (by omega)
  obtain ⟨cn, rfl⟩ : ∃ m : Nat, c = m := ⟨c.toNat, by omega⟩
  have := draw_l1 l hl hlen n h1 hn x4 (by omega) ht cn (k + 20 - 2 * cn - 2) p1 g1 [] (by omega) (by omega) (by simp; omega) (by simp)
  rw [show k + 20 - 2 * cn - 2 + 2 * cn + 2 = k + 20 by omega] at this
  simp only [Nat.add_zero, spec_l04DrawOk.l0]
  rw [if_neg (by omega), e1]
  simp only [Option.bind_some]
  exact this
 | succ d ih =>
  intro k x4 i p h ha hi hp hp2 ht
  obtain ⟨v, p1, g1, e1, v0, v1, _, q1, q2⟩ := pick_tells l hl hlen p h 20 hp (by omega) (by omega)
  have v2 := v1 (by omega)
  have := ih k (x4 ++ [v]) (i + 1) p1 g1 (by simp [ha]) (by omega) (by omega) (by push_cast; omega) (fun t hm => by
   rcases List.mem_append.mp hm with hm | hm
   ·exact ht t hm
   ·rw [List.mem_singleton] at hm; omega)
  rw [show k + 20 + (d + 1) + 1 = (k + 20 + d + 1) + 1 from rfl]
  rw [show ((i + 1 : Nat) : Int) = (i : Int) + 1 from by omega] at this
  generalize k + 20 + d + 1 = q at this ⊢
  simp only [spec_l04DrawOk.l0]
  rw [if_pos (by omega), e1]
  simp only [Option.bind_some]
  rw [if_pos (by omega), wrap_id (by omega) (by omega)]
  exact this
/-- A drawn diagram is in bounds and has at most six events. -/
theorem diagram_tells (l : List Int) (hl : Bytes l) (hlen : l.length ≤ 1000) : ∃ K, ∀ k, K ≤ k → ∃ (n : Nat) (bs : List S32), spec_R8Diagram.f k l = some ((n : Int), bs) ∧ 1 ≤ n ∧ n ≤ 6 ∧ bs.length ≤ 9 ∧ ∀ b ∈ bs, Good8 (n : Int) b := by
 refine ⟨100, fun k hk => ?_⟩
 obtain ⟨a, p1, g1, e1, a0, a1, _, q1, q2⟩ := pick_tells l hl hlen 0 0 6 (by omega) (by omega) (by omega)
 have a2 := a1 (by omega)
 obtain ⟨o, p2, g2, e2, q3, q4⟩ := one_tells l hl hlen p1 g1 20 (by omega) (by omega) (by omega)
 have run : ∀ n : Nat, 1 ≤ n → n ≤ 10 → ∃ bs' p' h', spec_l04DrawOk.j0 k l p2 g2 (n : Int) [] = some ((n : Int), bs', p', h') ∧ bs'.length ≤ 9 ∧ ∀ b ∈ bs', Good8 (n : Int) b := by
  intro n h1 hn
  obtain ⟨q, rfl⟩ : ∃ q, k = (q + 20 + n + 1) + 1 := ⟨k - 22 - n, by omega⟩
  have := draw_l0 l hl hlen n h1 hn n q [] 0 p2 g2 rfl (by omega) (by omega) (by omega) (by simp)
  rw [show ((0 : Nat) : Int) = 0 from rfl] at this
  simp only [spec_l04DrawOk.j0]
  exact this
 have both : ∃ (n : Nat) (bs : List S32) (p h : Int), spec_l04DrawOk.f k l 0 0 = some ((n : Int), bs, p, h) ∧ 1 ≤ n ∧ bs.length ≤ 9 ∧ ∀ b ∈ bs, Good8 (n : Int) b := by
  unfold spec_l04DrawOk.f
  rw [e1]
  simp only [Option.bind_some]
  rw [e2]
  simp only [Option.bind_some]
  by_cases ho : o = true
  ·rw [if_pos ho]
   obtain ⟨bs, p, h, e, r1, r2⟩ := run 10 (by omega) (by omega)
   exact ⟨10, bs, p, h, e, by omega, r1, r2⟩
  ·rw [if_neg ho, wrap_id (by omega) (by omega)]
   obtain ⟨bs, p, h, e, r1, r2⟩ := run (1 + a).toNat (by omega) (by omega)
   rw [show (((1 + a).toNat : Nat) : Int) = 1 + a by omega] at e r2
   refine ⟨(1 + a).toNat, bs, p, h, ?_, by omega, r1, ?_⟩
   ·rw [e, show (((1 + a).toNat : Nat) : Int) = 1 + a by omega]
   ·rw [show (((1 + a).toNat : Nat) : Int) = 1 + a by omega]; exact r2
 obtain ⟨n, bs, p, h, e, n1, r1, r2⟩ := both
 unfold spec_R8Diagram.f spec_l00From.f
 simp only [Option.bind_some]
 rw [e]
 simp only [Option.bind_some]
 by_cases c : (n : Int) > 6
 ·rw [if_pos c]
  exact ⟨2, [], rfl, by omega, by omega, by simp, by simp⟩
 ·rw [if_neg c]
  exact ⟨n, bs, rfl, n1, by omega, r1, r2⟩
end Go.Proofs.Ytahjcmmgdcedpaa.Pure

