-- Written for this claim by a program of this session.
import Derived.Test.YtahjcmmgdcedpaaXPax0
import Derived.Test.YtahjcmmgdcedpaaXCoreP1
import Derived.Test.YtahjcmmgdcedpaaXCoreP2
namespace Go.Proofs.Ytahjcmmgdcedpaa.Pa
open Go.RowKit Go.Proofs.YtahjcmmgdcedpaaW.PrintWords Go.Proofs.YtahjcmmgdcedpaaW.PrintLast Go.Proofs.YtahjcmmgdcedpaaW.PrintMore
attribute [local go_sem] max2_int min2_int max_two min_two max_three min_three max_four min_four   -- for this text's walks alone
set_option linter.unusedVariables false
set_option linter.unusedSimpArgs false

/-! ### spec_R8Circuit: function 19 -/
def spec_R8Circuit.f (k : Nat) (l0 : List Int) : Option (Int × (List (S56)) × List Int × Int × Int × Int × Int) := (spec_l00From.f l0).bind fun bt395 => ((spec_l06DrawOk.f k bt395.1 bt395.2.1 bt395.2.2).bind fun bt399 => (some (bt399.1, bt399.2.1, bt399.2.2.1, bt399.2.2.2.1, bt399.2.2.2.2.1, bt399.2.2.2.2.2.1, bt399.2.2.2.2.2.2.1)))
theorem spec_R8Circuit.mono : ∀ a0 k, LeO (spec_R8Circuit.f k a0) (spec_R8Circuit.f (k + 1) a0) := by
 intro a0 k
 unfold spec_R8Circuit.f
 repeat' first
   | (with_reducible exact spec_l06DrawOk.mono _ _ _ _)
   | (with_reducible exact LeO.refl _)
   | (with_reducible exact LeO.none _)
   | (with_reducible refine LeO.ite ?_ ?_)
   | (with_reducible refine LeO.bind ?_ (fun _ => ?_))
   | exact spec_l06DrawOk.mono _ _ _ _
   | exact LeO.none _
   | refine LeO.ite ?_ ?_
   | refine LeO.bind ?_ (fun _ => ?_)
set_option maxHeartbeats 8000000 in
set_option maxRecDepth 100000 in
theorem spec_R8Circuit.calls (k : Nat) (A0 : Option Addr) (c0 : Nat) (l0 : List Int) (r1 : Int) (r2 : List (S56)) (r3 : List Int) (r4 : Int) (r5 : Int) (r6 : Int) (r7 : Int) (w : World) (hr0 : Kd.C (Kd.int .u8) w A0 l0.length l0) (hc0 : l0.length ≤ c0) (h : spec_R8Circuit.f k l0 = some (r1, r2, r3, r4, r5, r6, r7)) :
  Calls Try.prog 19 #[.slice A0 l0.length c0] w fun e w' => ∃ v1_ v2_ : Value, e = .returned (.agg #[.int .i64 r1, v1_, v2_, .int .i64 r4, .int .i64 r5, .int .i64 r6, .int .i64 r7]) ∧ Kd.S k56 56 w' w.heap.size (fun k_ => some k_ ≠ (v2_ : Value).ownBlock) v1_ r2 ∧ Kd.R (Kd.int .i64) 2 w' w.heap.size (fun _ => True) v2_ r3 ∧ Below w.heap.size w w' := by
 have hu45 := Try.underlying45
 have HR0 := Aside0.mk hr0
 have HC0 := Aside0.mk hc0
 clear hr0 hc0
 have HB := Aside0.mk (Below.refl w.heap.size w)
 have H : ((spec_l00From.f l0).bind fun bt395 => ((spec_l06DrawOk.f k bt395.1 bt395.2.1 bt395.2.2).bind fun bt399 => (some (bt399.1, bt399.2.1, bt399.2.2.1, bt399.2.2.2.1, bt399.2.2.2.2.1, bt399.2.2.2.2.2.1, bt399.2.2.2.2.2.2.1)))) = some (r1, r2, r3, r4, r5, r6, r7) := h
 clear h
 replace H := Option.bind_eq_some_iff.mp H
 obtain ⟨⟨t395, t396, t397⟩, A20, H⟩ := H
 replace H : ((spec_l06DrawOk.f k t395 t396 t397).bind fun bt399 => (some (bt399.1, bt399.2.1, bt399.2.2.1, bt399.2.2.2.1, bt399.2.2.2.2.1, bt399.2.2.2.2.2.1, bt399.2.2.2.2.2.2.1))) = some (r1, r2, r3, r4, r5, r6, r7) := H
 have A2 := Aside0.mk A20
 clear A20
 replace H := Option.bind_eq_some_iff.mp H
 obtain ⟨⟨t399, t400, t403, t406, t407, t408, t409, t410, t411⟩, A30, H⟩ := H
 replace H : (some (t399, t400, t403, t406, t407, t408, t409)) = some (r1, r2, r3, r4, r5, r6, r7) := H
 have A3 := Aside0.mk A30
 clear A30
 simp only [Option.some.injEq, Prod.mk.injEq] at H
 obtain ⟨rfl, rfl, rfl, rfl, rfl, rfl, rfl⟩ := H
 go_enter Try.func19, Try.ntmps19
 go_wp2_with (first | ((with_reducible refine gate_dst (N := 2) rfl ?_); refine box_event ?hg (N := 2) ?hd (cs := #[.int .i64 0, .slice none 0 0, .slice none 0 0, .int .i64 0, .int .i64 0, .int .i64 0, .int .i64 0]) (t := 45) ?hr ?_; (case hd => rfl); (case hg => rfl); (case hr => first | (go_simp; done) | (go_simp; rfl)); intro gb394 hg w4 hbox hb; have n0_ := Aside0.mk (below_step (by repeat (first | (with_reducible first | exact HB.out | apply below_alloc | apply pw_below_drewN | apply below_drew1) | exact HB.out)) hb); have n1_ := Aside0.mk (hbox); have n2_ := Aside0.mk ((by rw [hg]; exact (below_size (by repeat (first | (with_reducible first | exact HB.out | apply below_alloc | apply pw_below_drewN | apply below_drew1) | exact HB.out))) : w.heap.size ≤ gb394)); have n3_ := Aside0.mk ((by rw [hg]; exact (below_size (by repeat (first | (with_reducible first | exact HB.out | apply below_alloc | apply pw_below_drewN | apply below_drew1) | exact HB.out))) : w.heap.size ≤ gb394)); clear HB; have HB := n0_; have BK394 := n1_; have GW394 := n2_; have GE394 := n3_; clear n0_ n1_ n2_ n3_; clear hb hbox hg) | ((with_reducible refine gate_callee (f := 33) rfl ?_); refine goesL_ (some 5) rfl rfl Try.func33 (by kernel_rfl) rfl #[.slice A0 l0.length c0] rfl (by (try simp only [List.map_toArray, List.map_cons, List.map_nil]); first | done | rfl | (simp only [List.length_drop, List.length_take]; rfl)) ?_; (with_reducible refine (spec_l00From.calls _ _ l0 t395 t396 t397 w _ ?side1 ?side2 ?side3 A2.out).mono ?_); (case side1 => repeat (first | (with_reducible first | exact HB.out | apply below_alloc | apply pw_below_drewN | apply below_drew1 | refine below_set ?_ GE394.out) | exact HB.out)); (case side2 => exact HR0.out); (case side3 => exact HC0.out); rintro e w5 ⟨g398, rfl, hi, hb, hb2⟩; refine ⟨_, rfl, ?_⟩; have n0_ := Aside0.mk (blk_below (g := gb394) (o := .cells #[.int .i64 0, .slice none 0 0, .slice none 0 0, .int .i64 0, .int .i64 0, .int .i64 0, .int .i64 0] 45 (0, 0)) (by (with_reducible repeat (first | refine blk_drewN ?_ _ | refine blk_drew ?_ | refine blk_alloc ?_ _)); exact BK394.out) hb2); have n1_ := Aside0.mk (hb); have n2_ := Aside0.mk (hi); have n3_ := Aside0.mk (IsS94.ne_blk hi (blk_below (g := gb394) (o := .cells #[.int .i64 0, .slice none 0 0, .slice none 0 0, .int .i64 0, .int .i64 0, .int .i64 0, .int .i64 0] 45 (0, 0)) (by (with_reducible repeat (first | refine blk_drewN ?_ _ | refine blk_drew ?_ | refine blk_alloc ?_ _)); exact BK394.out) hb2) (by decide)); have n4_ := Aside0.mk (Ne.symm (IsS94.ne_blk hi (blk_below (g := gb394) (o := .cells #[.int .i64 0, .slice none 0 0, .slice none 0 0, .int .i64 0, .int .i64 0, .int .i64 0, .int .i64 0] 45 (0, 0)) (by (with_reducible repeat (first | refine blk_drewN ?_ _ | refine blk_drew ?_ | refine blk_alloc ?_ _)); exact BK394.out) hb2) (by decide))); clear BK394; clear HB; have BK394 := n0_; have HB := n1_; have HI398 := n2_; have NB398_394 := n3_; have NB394_398 := n4_; clear n0_ n1_ n2_ n3_ n4_; (try clear hb); (try clear hb2); (try clear hk); (try clear hi)) | ((with_reducible refine gate_callee (f := 47) rfl ?_); refine goesL_ (some 7) rfl rfl Try.func47 (by kernel_rfl) rfl #[.pointer (some ⟨g398, 0, none⟩)] rfl (by (try simp only [List.map_toArray, List.map_cons, List.map_nil]); first | done | rfl | (simp only [List.length_drop, List.length_take]; rfl)) ?_; (with_reducible refine (spec_l06DrawOk.calls k g398 t395 t396 t397 t399 t400 t403 t406 t407 t408 t409 t410 t411 w _ ?side1 ?side2 A3.out).mono ?_); (case side1 => repeat (first | (with_reducible first | exact HI398.out | apply IsS94.alloc | apply IsS94.drewN | apply IsS94.drew | apply IsS94.set_1 | apply IsS94.set_2 | refine IsS94.far ?_ NB398_394.out _) | exact HI398.out)); (case side2 => repeat (first | (with_reducible first | exact HB.out | apply below_alloc | apply pw_below_drewN | apply below_drew1 | refine below_set ?_ (IsS94.ge HI398.out) | refine below_set ?_ GE394.out) | exact HB.out)); rintro e w6 ⟨v401, v404, rfl, ho0, ho1, hi, hb, hk⟩; refine ⟨_, rfl, ?_⟩; have n0_ := Aside0.mk (KeepBut.blk hk (g' := gb394) (o := .cells #[.int .i64 0, .slice none 0 0, .slice none 0 0, .int .i64 0, .int .i64 0, .int .i64 0, .int .i64 0] 45 (0, 0)) (by (with_reducible repeat (first | refine blk_drewN ?_ _ | refine blk_drew ?_ | refine blk_alloc ?_ _)); exact BK394.out) NB394_398.out (by simp)); have n1_ := Aside0.mk (Kd.S_lower ho0 (below_size (by repeat (first | (with_reducible first | exact HB.out | apply below_alloc | apply pw_below_drewN | apply below_drew1 | refine below_set ?_ (IsS94.ge HI398.out) | refine below_set ?_ GE394.out) | exact HB.out)))); have n2_ := Aside0.mk (Kd.R_lower ho1 (below_size (by repeat (first | (with_reducible first | exact HB.out | apply below_alloc | apply pw_below_drewN | apply below_drew1 | refine below_set ?_ (IsS94.ge HI398.out) | refine below_set ?_ GE394.out) | exact HB.out)))); have n3_ := Aside0.mk (hb); have n4_ := Aside0.mk (hi); clear BK394; clear HB; clear HI398; have BK394 := n0_; have HO402 := n1_; have HO405 := n2_; have HB := n3_; have HI398 := n4_; clear n0_ n1_ n2_ n3_ n4_; (try clear hb); (try clear hb2); (try clear hk); (try clear hi); (try clear ho0); (try clear ho1); have hnb7 := NB394_398.out; have hnc7 := NB398_394.out; have hcz8_0 : w6.cell? ⟨gb394, 0, none⟩ = some (.int .i64 0) := (blk_cell BK394.out 0).trans rfl; have hcz8_1 : w6.cell? ⟨gb394, 1, none⟩ = some (.slice none 0 0) := (blk_cell BK394.out 1).trans rfl; have hcz8_2 : w6.cell? ⟨gb394, 2, none⟩ = some (.slice none 0 0) := (blk_cell BK394.out 2).trans rfl; have hcz8_3 : w6.cell? ⟨gb394, 3, none⟩ = some (.int .i64 0) := (blk_cell BK394.out 3).trans rfl; have hcz8_4 : w6.cell? ⟨gb394, 4, none⟩ = some (.int .i64 0) := (blk_cell BK394.out 4).trans rfl; have hcz8_5 : w6.cell? ⟨gb394, 5, none⟩ = some (.int .i64 0) := (blk_cell BK394.out 5).trans rfl; have hcz8_6 : w6.cell? ⟨gb394, 6, none⟩ = some (.int .i64 0) := (blk_cell BK394.out 6).trans rfl; have hfz8_0 := blk_frozen BK394.out 0; have hfz8_1 := blk_frozen BK394.out 1; have hfz8_2 := blk_frozen BK394.out 2; have hfz8_3 := blk_frozen BK394.out 3; have hfz8_4 := blk_frozen BK394.out 4; have hfz8_5 := blk_frozen BK394.out 5; have hfz8_6 := blk_frozen BK394.out 6; obtain ⟨Ao9, co9, eo9⟩ := Kd.S_slice HO402.out; subst eo9; obtain ⟨Ao10, co10, eo10⟩ := Kd.R_slice HO405.out; subst eo10))
 refine bodyPost_ret (results_cell_row rfl _ _ gb394 45 #[.int .i64 t399, .slice Ao9 t400.length co9, .slice Ao10 t403.length co10, .int .i64 t406, .int .i64 t407, .int .i64 t408, .int .i64 t409] (0, 0) _ rfl (by (with_reducible repeat (first | refine blk_drewN ?_ _ | refine blk_drew ?_ | refine blk_alloc ?_ _)); refine blk_put (cs := #[.int .i64 t399, .slice Ao9 t400.length co9, .slice Ao10 t403.length co10, .int .i64 t406, .int .i64 t407, .int .i64 t408, .int .i64 0]) ?_ 6 _ rfl; (with_reducible repeat (first | refine blk_drewN ?_ _ | refine blk_drew ?_ | refine blk_alloc ?_ _)); refine blk_put (cs := #[.int .i64 t399, .slice Ao9 t400.length co9, .slice Ao10 t403.length co10, .int .i64 t406, .int .i64 t407, .int .i64 0, .int .i64 0]) ?_ 5 _ rfl; (with_reducible repeat (first | refine blk_drewN ?_ _ | refine blk_drew ?_ | refine blk_alloc ?_ _)); refine blk_put (cs := #[.int .i64 t399, .slice Ao9 t400.length co9, .slice Ao10 t403.length co10, .int .i64 t406, .int .i64 0, .int .i64 0, .int .i64 0]) ?_ 4 _ rfl; (with_reducible repeat (first | refine blk_drewN ?_ _ | refine blk_drew ?_ | refine blk_alloc ?_ _)); refine blk_put (cs := #[.int .i64 t399, .slice Ao9 t400.length co9, .slice Ao10 t403.length co10, .int .i64 0, .int .i64 0, .int .i64 0, .int .i64 0]) ?_ 3 _ rfl; (with_reducible repeat (first | refine blk_drewN ?_ _ | refine blk_drew ?_ | refine blk_alloc ?_ _)); refine blk_put (cs := #[.int .i64 t399, .slice Ao9 t400.length co9, .slice none 0 0, .int .i64 0, .int .i64 0, .int .i64 0, .int .i64 0]) ?_ 2 _ rfl; (with_reducible repeat (first | refine blk_drewN ?_ _ | refine blk_drew ?_ | refine blk_alloc ?_ _)); refine blk_put (cs := #[.int .i64 t399, .slice none 0 0, .slice none 0 0, .int .i64 0, .int .i64 0, .int .i64 0, .int .i64 0]) ?_ 1 _ rfl; (with_reducible repeat (first | refine blk_drewN ?_ _ | refine blk_drew ?_ | refine blk_alloc ?_ _)); refine blk_put (cs := #[.int .i64 0, .slice none 0 0, .slice none 0 0, .int .i64 0, .int .i64 0, .int .i64 0, .int .i64 0]) ?_ 0 _ rfl; (with_reducible repeat (first | refine blk_drewN ?_ _ | refine blk_drew ?_ | refine blk_alloc ?_ _)); exact BK394.out) Try.underlying45 rfl (by kernel_rfl)) rfl ?_
 exact ⟨_, _, by first | rfl | (simp [errW_none, errW_some] <;> rfl) | (simp [*, errW_none, errW_some] <;> rfl), by (with_reducible repeat (first | apply Kd.S_alloc | apply Kd.S_drewN | apply Kd.S_drew)); exact Kd.S_mono (Kd.S_far (p := ⟨gb394, 6, none⟩) (Kd.S_far (p := ⟨gb394, 5, none⟩) (Kd.S_far (p := ⟨gb394, 4, none⟩) (Kd.S_far (p := ⟨gb394, 3, none⟩) (Kd.S_far (p := ⟨gb394, 2, none⟩) (Kd.S_far (p := ⟨gb394, 1, none⟩) (Kd.S_far (p := ⟨gb394, 0, none⟩) (Kd.S_types HO402.out BK394.out (by decide)) (fun _ hk => hk.2) (.int .i64 t399)) (fun _ hk => hk.2) (.slice Ao9 t400.length co9)) (fun _ hk => hk.2) (.slice Ao10 t403.length co10)) (fun _ hk => hk.2) (.int .i64 t406)) (fun _ hk => hk.2) (.int .i64 t407)) (fun _ hk => hk.2) (.int .i64 t408)) (fun _ hk => hk.2) (.int .i64 t409)) (fun _ hk => hk.1), by (with_reducible repeat (first | apply Kd.R_alloc | apply Kd.R_drewN | apply Kd.R_drew)); exact Kd.R_mono (Kd.R_far (p := ⟨gb394, 6, none⟩) (Kd.R_far (p := ⟨gb394, 5, none⟩) (Kd.R_far (p := ⟨gb394, 4, none⟩) (Kd.R_far (p := ⟨gb394, 3, none⟩) (Kd.R_far (p := ⟨gb394, 2, none⟩) (Kd.R_far (p := ⟨gb394, 1, none⟩) (Kd.R_far (p := ⟨gb394, 0, none⟩) (Kd.R_types HO405.out BK394.out (by decide)) (fun _ hk => hk.2) (.int .i64 t399)) (fun _ hk => hk.2) (.slice Ao9 t400.length co9)) (fun _ hk => hk.2) (.slice Ao10 t403.length co10)) (fun _ hk => hk.2) (.int .i64 t406)) (fun _ hk => hk.2) (.int .i64 t407)) (fun _ hk => hk.2) (.int .i64 t408)) (fun _ hk => hk.2) (.int .i64 t409)) (fun _ hk => trivial), by repeat (first | (with_reducible first | exact HB.out | apply below_alloc | apply pw_below_drewN | apply below_drew1 | refine below_set ?_ (IsS94.ge HI398.out) | refine below_set ?_ GE394.out) | exact HB.out)⟩

end Go.Proofs.Ytahjcmmgdcedpaa.Pa

namespace Go.Proofs.Ytahjcmmgdcedpaa.Pa
open Go.RowKit Go.Proofs.YtahjcmmgdcedpaaW.PrintWords Go.Proofs.YtahjcmmgdcedpaaW.PrintLast Go.Proofs.YtahjcmmgdcedpaaW.PrintMore
attribute [local go_sem] max2_int min2_int max_two min_two max_three min_three max_four min_four   -- for this text's walks alone
set_option linter.unusedVariables false
set_option linter.unusedSimpArgs false

/-! ### spec_R8Skews: function 20 -/
def spec_R8Skews.l0 : Nat → Int → List Int → Int → List Int → Int → Int → Option (List Int)
 | 0, _, _, _, _, _, _ => none
 | k + 1, x1, x6, x7, x416000, x416001, x416002 => if x7 < x1 then ((spec_l00Src_pick.f x416000 x416001 x416002 7).bind fun bt419 => (if x6.length < 17592186044416 then (spec_R8Skews.l0 k x1 (x6 ++ [bt419.1]) (wrap64 (x7 + 1)) x416000 bt419.2.1 bt419.2.2) else (none))) else (some x6)
def spec_R8Skews.f (k : Nat) (l0 : List Int) (a1 : Int) : Option (List Int) := (spec_l00From.f l0).bind fun bt412 => (spec_R8Skews.l0 k a1 (([] : List Int)) 0 bt412.1 bt412.2.1 bt412.2.2)
theorem spec_R8Skews.mono_l : ∀ k, (∀ y0 y1 y2 y3 y4 y5, LeO (spec_R8Skews.l0 k y0 y1 y2 y3 y4 y5) (spec_R8Skews.l0 (k + 1) y0 y1 y2 y3 y4 y5))
 | 0 => fun _ _ _ _ _ _ r h => by simp [spec_R8Skews.l0] at h
 | k + 1 => by
  have ih0 := spec_R8Skews.mono_l k
  ·intro y0 y1 y2 y3 y4 y5
   unfold spec_R8Skews.l0
   repeat' first
   | (with_reducible exact ih0 _ _ _ _ _ _)
   | (with_reducible exact LeO.refl _)
   | (with_reducible exact LeO.none _)
   | (with_reducible refine LeO.ite ?_ ?_)
   | (with_reducible refine LeO.bind ?_ (fun _ => ?_))
   | exact ih0 _ _ _ _ _ _
   | exact LeO.none _
   | refine LeO.ite ?_ ?_
   | refine LeO.bind ?_ (fun _ => ?_)
theorem spec_R8Skews.mono : ∀ a0 a1 k, LeO (spec_R8Skews.f k a0 a1) (spec_R8Skews.f (k + 1) a0 a1) := by
 intro a0 a1 k
 have ih0 := spec_R8Skews.mono_l k
 unfold spec_R8Skews.f
 repeat' first
   | (with_reducible exact ih0 _ _ _ _ _ _)
   | (with_reducible exact LeO.refl _)
   | (with_reducible exact LeO.none _)
   | (with_reducible refine LeO.ite ?_ ?_)
   | (with_reducible refine LeO.bind ?_ (fun _ => ?_))
   | exact ih0 _ _ _ _ _ _
   | exact LeO.none _
   | refine LeO.ite ?_ ?_
   | refine LeO.bind ?_ (fun _ => ?_)
set_option maxHeartbeats 8000000 in
set_option maxRecDepth 100000 in
theorem spec_R8Skews.calls (k : Nat) (A0 : Option Addr) (c0 : Nat) (l0 : List Int) (a1 : Int) (r : List Int) (w : World) (hr0 : Kd.C (Kd.int .u8) w A0 l0.length l0) (hc0 : l0.length ≤ c0) (h : spec_R8Skews.f k l0 a1 = some r) :
  Calls Try.prog 20 #[.slice A0 l0.length c0, .int .i64 a1] w fun e w' => ∃ v0_ : Value, e = .returned (v0_) ∧ Kd.R (Kd.int .i64) 2 w' w.heap.size (fun _ => True) v0_ r ∧ Below w.heap.size w w' := by
 have HR0 := Aside0.mk hr0
 have HC0 := Aside0.mk hc0
 clear hr0 hc0
 have HB := Aside0.mk (Below.refl w.heap.size w)
 have H : ((spec_l00From.f l0).bind fun bt412 => (spec_R8Skews.l0 k a1 (([] : List Int)) 0 bt412.1 bt412.2.1 bt412.2.2)) = some r := h
 clear h
 replace H := Option.bind_eq_some_iff.mp H
 obtain ⟨⟨t412, t413, t414⟩, A30, H⟩ := H
 replace H : (spec_R8Skews.l0 k a1 (([] : List Int)) 0 t412 t413 t414) = some r := H
 have A3 := Aside0.mk A30
 clear A30
 obtain ⟨y416, hy416⟩ : ∃ y_ : List Int, y_ = (([] : List Int)) := ⟨_, rfl⟩
 replace H : (spec_R8Skews.l0 k a1 y416 0 t412 t413 t414) = some r := by first | (rw [hy416]; with_reducible exact H) | (have H2_ := (Option.bind_some _ _).symm.trans H; rw [hy416]; with_reducible exact H2_) | (have H2_ := (Option.bind_some _ _).symm.trans H; with_reducible exact H2_) | with_reducible exact H | (rw [hy416]; exact H) | exact H
 have Ny416 := Aside0.mk hy416
 clear hy416
 have H' := Aside0.mk H
 clear H
 go_enter Try.func20, Try.ntmps20
 go_wp2_with (first | ((with_reducible refine gate_callee (f := 33) rfl ?_); refine goesL_ (some 9) rfl rfl Try.func33 (by kernel_rfl) rfl #[.slice A0 l0.length c0] rfl (by (try simp only [List.map_toArray, List.map_cons, List.map_nil]); first | done | rfl | (simp only [List.length_drop, List.length_take]; rfl)) ?_; (with_reducible refine (spec_l00From.calls _ _ l0 t412 t413 t414 w _ ?side1 ?side2 ?side3 A3.out).mono ?_); (case side1 => repeat (first | (with_reducible first | exact HB.out | apply below_alloc | apply pw_below_drewN | apply below_drew1) | exact HB.out)); (case side2 => exact HR0.out); (case side3 => exact HC0.out); rintro e w4 ⟨g415, rfl, hi, hb, hb2⟩; refine ⟨_, rfl, ?_⟩; have n0_ := Aside0.mk (hb); have n1_ := Aside0.mk (hi); clear HB; have HB := n0_; have HI415 := n1_; clear n0_ n1_; (try clear hb); (try clear hb2); (try clear hk); (try clear hi)) | ((with_reducible refine gate_dst (N := 10) rfl ?_); refine Kd.R_lit (Kd.int .i64) _ 2 ?hg (N := 10) ?hd (xs := ([] : List Int)) (inner := []) (ok := fun _ => True) (okp := fun _ => True) ?hr ?hp (fun _ hk => hk) trivial (Below.refl _ _) (Nat.le_refl _) (by simp) ?_; (case hd => rfl); (case hg => rfl); (case hr => first | (go_simp; done) | (go_simp; rfl)); (case hp => exact (Reps.none _ _)); intro v417 w5 ho6 hb hg_ hnew_; clear hg_ hnew_; (first | rw [← Ny416.out] at ho6 | (simp only [Int.reduceToNat] at ho6; rw [← Ny416.out] at ho6)); have n0_ := Aside0.mk (Kd.R_lower ho6 (below_size (by repeat (first | (with_reducible first | exact HB.out | apply below_alloc | apply pw_below_drewN | apply below_drew1 | refine below_set ?_ (IsS94.ge HI415.out)) | exact HB.out)))); have n1_ := Aside0.mk (IsS94.below (by repeat (first | (with_reducible first | exact HI415.out | apply IsS94.alloc | apply IsS94.drewN | apply IsS94.drew | apply IsS94.set_1 | apply IsS94.set_2) | exact HI415.out)) hb); have n2_ := Aside0.mk (below_step (by repeat (first | (with_reducible first | exact HB.out | apply below_alloc | apply pw_below_drewN | apply below_drew1 | refine below_set ?_ (IsS94.ge HI415.out)) | exact HB.out)) hb); clear HI415; clear HB; have HO418 := n0_; have HI415 := n1_; have HB := n2_; clear n0_ n1_ n2_; clear hb ho6))
 go_loopg [6, 7] k (fun kq v6 v7 w' => ∃ (x6_1 : List Int) (x7_1 : Int) (x416001_1 : Int) (x416002_1 : Int), v7 = .int .i64 x7_1 ∧ Aside0 (spec_R8Skews.l0 kq a1 x6_1 x7_1 t412 x416001_1 x416002_1 = some r) ∧ Aside0 (kq ≤ k) ∧ Aside0 (Kd.R (Kd.int .i64) 2 w' w.heap.size (fun _ => True) v6 x6_1) ∧ Aside0 (IsS94 w w' g415 t412 x416001_1 x416002_1) ∧ Aside0 (Below w.heap.size w w'))
 case atStart => exact ⟨(y416), (0), (t413), (t414), (by first | rfl | (simp; done) | (simp [*]; done)), H', ⟨Nat.le_refl _⟩, ⟨by (with_reducible repeat (first | apply Kd.R_alloc | apply Kd.R_drewN | apply Kd.R_drew)); exact HO418.out⟩, ⟨by repeat (first | (with_reducible first | exact HI415.out | apply IsS94.alloc | apply IsS94.drewN | apply IsS94.drew | apply IsS94.set_1 | apply IsS94.set_2) | exact HI415.out)⟩, ⟨by repeat (first | (with_reducible first | exact HB.out | apply below_alloc | apply pw_below_drewN | apply below_drew1 | refine below_set ?_ (IsS94.ge HI415.out)) | exact HB.out)⟩⟩
 case round =>
  clear H'
  try clear c2
  try clear p2
  try clear c3
  obtain ⟨x6_1, x7_1, x416001_1, x416002_1, rfl, HA, HK1, HO_6, HI415, HB⟩ := hrel
  cases gk with
  | zero => exact absurd HA.out (by simp [spec_R8Skews.l0])
  | succ k1 =>
   have H := HA.out
   clear HA
   simp only [spec_R8Skews.l0] at H
   by_cases c7 : x7_1 < a1
   ·rw [if_pos c7] at H
    have c7b0 : decide (x7_1 < a1) = true := decide_eq_true c7
    clear c7
    replace H := Option.bind_eq_some_iff.mp H
    obtain ⟨⟨t419, t420, t421⟩, A80, H⟩ := H
    replace H : (if x6_1.length < 17592186044416 then (spec_R8Skews.l0 k1 a1 (x6_1 ++ [t419]) (wrap64 (x7_1 + 1)) t412 t420 t421) else (none)) = some r := H
    have A8 := Aside0.mk A80
    clear A80
    by_cases c9 : x6_1.length < 17592186044416
    ·rw [if_pos c9] at H
     have LMc9 := Aside0.mk c9
     clear c9
     obtain ⟨y422, hy422⟩ : ∃ y_ : List Int, y_ = (x6_1 ++ [t419]) := ⟨_, rfl⟩
     replace H : (spec_R8Skews.l0 k1 a1 y422 (wrap64 (x7_1 + 1)) t412 t420 t421) = some r := by first | (rw [hy422]; with_reducible exact H) | (have H2_ := (Option.bind_some _ _).symm.trans H; rw [hy422]; with_reducible exact H2_) | (have H2_ := (Option.bind_some _ _).symm.trans H; with_reducible exact H2_) | with_reducible exact H | (rw [hy422]; exact H) | exact H
     have Ny422 := Aside0.mk hy422
     clear hy422
     have H' := Aside0.mk H
     clear H
     go_wp2_with (first | ((with_reducible refine gate_callee (f := 35) rfl ?_); refine goesL_ (some 18) rfl rfl Try.func35 (by kernel_rfl) rfl #[.pointer (some ⟨g415, 0, none⟩), .int .i64 7] rfl (by (try simp only [List.map_toArray, List.map_cons, List.map_nil]); first | done | rfl | (simp only [List.length_drop, List.length_take]; rfl)) ?_; (with_reducible refine (spec_l00Src_pick.calls g415 t412 x416001_1 x416002_1 7 t419 t420 t421 w _ ?side1 ?side2 A8.out).mono ?_); (case side1 => repeat (first | (with_reducible first | exact HI415.out | apply IsS94.alloc | apply IsS94.drewN | apply IsS94.drew | apply IsS94.set_1 | apply IsS94.set_2) | exact HI415.out)); (case side2 => repeat (first | (with_reducible first | exact HB.out | apply below_alloc | apply pw_below_drewN | apply below_drew1 | refine below_set ?_ (IsS94.ge HI415.out)) | exact HB.out)); rintro e w10 ⟨rfl, hi, hb, hk⟩; refine ⟨_, rfl, ?_⟩; have n0_ := Aside0.mk (Kd.R_mono (Kd.R_keep (IsS94.apart (show IsS94 w _ g415 t412 x416001_1 x416002_1 from by repeat (first | (with_reducible first | exact HI415.out | apply IsS94.alloc | apply IsS94.drewN | apply IsS94.drew | apply IsS94.set_1 | apply IsS94.set_2) | exact HI415.out)) (by (with_reducible repeat (first | apply Kd.R_alloc | apply Kd.R_drewN | apply Kd.R_drew)); exact HO_6.out) (by decide)) hk (fun _ h => h.2)) (fun _ h => h.1)); have n1_ := Aside0.mk (hb); have n2_ := Aside0.mk (hi); clear HO_6; clear HB; clear HI415; have HO_6 := n0_; have HB := n1_; have HI415 := n2_; clear n0_ n1_ n2_; (try clear hb); (try clear hb2); (try clear hk); (try clear hi)) | ((with_reducible refine gate_builtin (b := .append) (xs := #[.tmp 16, .tmp 19]) rfl ?_); at_builtin; refine Kd.R_append (Kd.int .i64) (w0 := w) w.heap.size rfl (.tmp 16) (.tmp 19) 28 2 (.int .i64 0) 8 rfl Try.underlying28 info2 rfl (by decide) (by omega) u6 x6_1 t419 [.int .i64 t419] (fun _ => True) (fun _ => False) rfl rfl ?aP (fun _ hk => hk.elim) ?aF ?aO ?aB ?aS ?aL ?_; (case aP => exact rfl); (case aB => exact (by repeat (first | (with_reducible first | exact HB.out | apply below_alloc | apply pw_below_drewN | apply below_drew1 | refine below_set ?_ (IsS94.ge HI415.out)) | exact HB.out))); (case aF => exact (fun _ _ => trivial)); (case aO => exact (by (with_reducible repeat (first | apply Kd.R_alloc | apply Kd.R_drewN | apply Kd.R_drew)); exact HO_6.out)); (case aS => exact (below_size (by repeat (first | (with_reducible first | exact HB.out | apply below_alloc | apply pw_below_drewN | apply below_drew1 | refine below_set ?_ (IsS94.ge HI415.out)) | exact HB.out)))); (case aL => have := LMc9.out; omega); intro v423 w11 ho hb hg hat; rw [← Ny422.out] at ho; have n0_ := Aside0.mk (IsS94.grown (by repeat (first | (with_reducible first | exact HI415.out | apply IsS94.alloc | apply IsS94.drewN | apply IsS94.drew | apply IsS94.set_1 | apply IsS94.set_2) | exact HI415.out)) hg (IsS94.own_ne HI415.out HO_6.out (by decide))); have n1_ := Aside0.mk (hb); have n2_ := Aside0.mk (ho); clear HI415; clear HB; clear HO_6; have HI415 := n0_; have HB := n1_; have HO424 := n2_; clear n0_ n1_ n2_; clear ho hb hg hat))
     go_roundg k1
     case measure => have := HK1.out; omega
     case rel => exact ⟨(y422), (wrap64 (x7_1 + 1)), (t420), (t421), (by first | rfl | (simp; done) | (simp [*]; done)), H', ⟨by have := HK1.out; omega⟩, ⟨by (with_reducible repeat (first | apply Kd.R_alloc | apply Kd.R_drewN | apply Kd.R_drew)); exact HO424.out⟩, ⟨by repeat (first | (with_reducible first | exact HI415.out | apply IsS94.alloc | apply IsS94.drewN | apply IsS94.drew | apply IsS94.set_1 | apply IsS94.set_2) | exact HI415.out)⟩, ⟨by repeat (first | (with_reducible first | exact HB.out | apply below_alloc | apply pw_below_drewN | apply below_drew1 | refine below_set ?_ (IsS94.ge HI415.out)) | exact HB.out)⟩⟩
    ·rw [if_neg c9] at H
     exact absurd H (by simp)
   ·rw [if_neg c7] at H
    have c7b0 : decide (x7_1 < a1) = false := decide_eq_false c7
    clear c7
    obtain rfl := Option.some.inj H
    go_wp2
    go_ret
    exact ⟨_, by first | rfl | (simp [errW_none, errW_some] <;> rfl) | (simp [*, errW_none, errW_some] <;> rfl), by (with_reducible repeat (first | apply Kd.R_alloc | apply Kd.R_drewN | apply Kd.R_drew)); exact HO_6.out, by repeat (first | (with_reducible first | exact HB.out | apply below_alloc | apply pw_below_drewN | apply below_drew1 | refine below_set ?_ (IsS94.ge HI415.out)) | exact HB.out)⟩

end Go.Proofs.Ytahjcmmgdcedpaa.Pa

/- The circuits and skews that the short laws draw are valid. -/
namespace Go.Proofs.Ytahjcmmgdcedpaa.Pure
open Go.RowKit Go.Proofs.Ytahjcmmgdcedpaa.Pa Go.Proofs.YtahjcmmgdcedpaaW.PrintWords Go.Proofs.YtahjcmmgdcedpaaW.PrintLast Go.Proofs.YtahjcmmgdcedpaaW.PrintMore
set_option linter.unusedVariables false
set_option linter.unusedSimpArgs false

theorem wrap_succ (i : Nat) (h : i ≤ 1000) : wrap64 ((i : Int) + 1) = ((i + 1 : Nat) : Int) := by
 rw [wrap_id (by omega) (by omega)]
 omega
theorem wrap_add (a b : Nat) (h : a ≤ 1000) (h' : b ≤ 1000) : wrap64 ((a : Int) + (b : Int)) = (a : Int) + b := wrap_id (by omega) (by omega)
theorem inB_of {x l u : Int} (h0 : l ≤ x) (h1 : x ≤ u) : inB x l u = true := inB_iff.2 ⟨h0, h1⟩
theorem rises_snoc (hi j : Int) (h0 : 0 ≤ j) (h1 : j ≤ hi) (l : List Int) : ∀ p : Option Int, (∀ q, p = some q → q < j) → (∀ x ∈ l, x < j) → risesFrom hi p l = true → risesFrom hi p (l ++ [j]) = true := by
 induction l with
 | nil =>
  intro p hp _ _
  simp only [List.nil_append, risesFrom]
  rw [inB_of h0 h1]
  cases p with
  | none => rfl
  | some q => simp only [Bool.true_and, Bool.and_true]; exact decide_eq_true (hp q rfl)
 | cons x l ih =>
  intro p hp hl h
  simp only [List.cons_append, risesFrom, Bool.and_eq_true] at h ⊢
  exact ⟨h.1, ih (some x) (fun q hq => by rw [← Option.some.inj hq]; exact hl x (List.mem_cons_self ..)) (fun y hy => hl y (List.mem_cons_of_mem _ hy)) h.2⟩
theorem gatesB_snoc (n : Int) (g : S56) (l : List S56) : ∀ j : Nat, gatesB n j l = true → gateB n ((j + l.length : Nat) : Int) g = true → gatesB n j (l ++ [g]) = true := by
 induction l with
 | nil =>
  intro j _ h
  simp only [List.nil_append, gatesB, Bool.and_true]
  exact h
 | cons x l ih =>
  intro j h hg
  simp only [List.cons_append, gatesB, Bool.and_eq_true] at h ⊢
  exact ⟨h.1, ih (j + 1) h.2 (by rw [show j + 1 + l.length = j + (x :: l).length by simp; omega]; exact hg)⟩
/-- The inputs of one gate. -/
theorem inputs_loop (l : List Int) (hl : Bytes l) (hlen : l.length ≤ 1000) (R i n : Nat) (hR : 1 ≤ R) (hR2 : R ≤ 4) (hi : i < 10) (least most : Int) (h0 : 0 ≤ least) (h1 : least ≤ most) (h2 : most ≤ 100) (gs : List S56) (hgs : gs.length = i) (a2 : List Int) (a3 a4 a5 a6 : Int) (d : Nat) :
  ∀ (k j : Nat) (p h : Int) (inp : List Int), j + d = R + i → 0 ≤ p → p + d ≤ 900 → (∀ x ∈ inp, x < (j : Int)) → inp.length ≤ j → risesB inp ((R : Int) + i - 1) = true → d + 2 < k →
  ∃ k' p' h' g, k ≤ k' + d + 2 ∧ spec_l06DrawOk.l1 k (n : Int) (i : Int) (j : Int) l p h (R : Int) gs a2 a3 a4 a5 a6 least most inp = spec_l06DrawOk.l0 k' (n : Int) ((i + 1 : Nat) : Int) l p' h' (R : Int) (gs ++ [g]) a2 a3 a4 a5 a6 ∧ p ≤ p' ∧ p' ≤ p + d + 1 ∧ gateB (R : Int) (i : Int) g = true ∧ g.f2.length ≤ 100 := by
 induction d with
 | zero =>
  intro k j p h inp hj hp hp2 hin hle hr hk
  obtain ⟨k, rfl⟩ : ∃ q, k = q + 1 := ⟨k - 1, by omega⟩
  simp only [spec_l06DrawOk.l1]
  rw [wrap_add R i (by omega) (by omega), if_neg (by omega), wrap_succ i (by omega)]
  have hg : ∀ inp' : List Int, inp'.length ≠ 0 → risesB inp' ((R : Int) + i - 1) = true → gateB (R : Int) (i : Int) (⟨least, most, inp'⟩ : S56) = true := by
   intro inp' hne hr'
   unfold gateB
   simp only
   rw [inB_of (x := most) (l := 0) (u := 100) (by omega) h2, inB_of h0 h1, decide_eq_false hne, hr']
   rfl
  by_cases hz : (inp.length : Int) = 0
  ·obtain ⟨v, p', h', e, v0, v1, v2, q0, q1⟩ := pick_tells l hl hlen p h ((R : Int) + i) hp (by omega) (by omega)
   have hv : v ≤ (R : Int) + i - 1 := by
    by_cases c : (2 : Int) ≤ (R : Int) + i
    ·have := v1 c; omega
    ·have := v2 (by omega); omega
   have hnil : inp = [] := List.length_eq_zero_iff.1 (by omega)
   subst hnil
   rw [if_pos hz, e]
   simp only [Option.bind_some]
   rw [if_pos (by simp), if_pos (by omega)]
   refine ⟨k, p', h', _, by omega, rfl, q0, by omega, hg _ (by simp) ?_, by simp⟩
   unfold risesB
   simp only [List.nil_append, risesFrom]
   rw [inB_of v0 hv]
   rfl
  ·rw [if_neg hz, if_pos (by omega)]
   exact ⟨k, p, h, _, by omega, rfl, by omega, by omega, hg _ (by omega) hr, by show inp.length ≤ 100; omega⟩
 | succ d ih =>
  intro k j p h inp hj hp hp2 hin hle hr hk
  obtain ⟨k, rfl⟩ : ∃ q, k = q + 1 := ⟨k - 1, by omega⟩
  obtain ⟨o, p1, g1, e1, q0, q1⟩ := one_tells l hl hlen p h 3 hp (by omega) (by omega)
  simp only [spec_l06DrawOk.l1]
  rw [wrap_add R i (by omega) (by omega), if_pos (by omega), e1, wrap_succ j (by omega)]
  simp only [Option.bind_some]
  cases o with
  | true =>
   rw [if_pos rfl, if_pos (by omega)]
   obtain ⟨k', p', h', g, x1, x2, x3, x4, x5, x6⟩ := ih k (j + 1) p1 g1 (inp ++ [(j : Int)]) (by omega) (by omega) (by omega) (fun x hx => by
    rcases List.mem_append.1 hx with hx | hx
    ·have := hin x hx; omega
    ·rw [List.mem_singleton.1 hx]; omega) (by rw [List.length_append, List.length_singleton]; omega) (rises_snoc _ _ (by omega) (by omega) inp none (fun q hq => by cases hq) hin hr) (by omega)
   exact ⟨k', p', h', g, by omega, x2, by omega, by omega, x5, x6⟩
  | false =>
   rw [if_neg (by decide)]
   obtain ⟨k', p', h', g, x1, x2, x3, x4, x5, x6⟩ := ih k (j + 1) p1 g1 inp (by omega) (by omega) (by omega) (fun x hx => by have := hin x hx; omega) (by omega) hr (by omega)
   exact ⟨k', p', h', g, by omega, x2, by omega, by omega, x5, x6⟩
theorem gates_loop (l : List Int) (hl : Bytes l) (hlen : l.length ≤ 1000) (R n : Nat) (hR : 1 ≤ R) (hR2 : R ≤ 4) (hn : n ≤ 10) (a2 : List Int) (a3 a4 a5 a6 : Int) (d : Nat) :
  ∀ (k i : Nat) (p h : Int) (gs : List S56), i + d = n → 0 ≤ p → p ≤ 10 + 25 * i → gs.length = i → gatesB (R : Int) 0 gs = true → (∀ g ∈ gs, g.f2.length ≤ 100) → d * 30 + 2 < k →
  ∃ k' p' h' gs', k ≤ k' + d * 30 + 2 ∧ spec_l06DrawOk.l0 k (n : Int) (i : Int) l p h (R : Int) gs a2 a3 a4 a5 a6 = spec_l06DrawOk.l2 k' (n : Int) 0 l p' h' (R : Int) gs' a2 a3 a4 a5 a6 ∧ 0 ≤ p' ∧ p' ≤ 300 ∧ gs'.length = n ∧ gatesB (R : Int) 0 gs' = true ∧ ∀ g ∈ gs', g.f2.length ≤ 100 := by
 induction d with
 | zero =>
  intro k i p h gs hi hp hp2 hg hgb hgl hk
  obtain ⟨k, rfl⟩ : ∃ q, k = q + 1 := ⟨k - 1, by omega⟩
  simp only [spec_l06DrawOk.l0]
  rw [if_neg (by omega)]
  exact ⟨k, p, h, gs, by omega, rfl, hp, by omega, by omega, hgb, hgl⟩
 | succ d ih =>
  intro k i p h gs hi hp hp2 hg hgb hgl hk
  obtain ⟨k, rfl⟩ : ∃ q, k = q + 1 := ⟨k - 1, by omega⟩
  obtain ⟨a, p1, g1, e1, a0, a1, _, q1, q2⟩ := pick_tells l hl hlen p h 5 hp (by omega) (by omega)
  obtain ⟨b, p2, g2, e2, b0, b1, _, q3, q4⟩ := pick_tells l hl hlen p1 g1 6 (by omega) (by omega) (by omega)
  have a2' := a1 (by omega)
  have b2 := b1 (by omega)
  simp only [spec_l06DrawOk.l0]
  rw [if_pos (by omega), e1]
  simp only [Option.bind_some]
  rw [e2]
  simp only [Option.bind_some]
  rw [wrap_id (x := a + b) (by omega) (by omega)]
  obtain ⟨k1, p3, g3, g, x1, x2, x3, x4, x5, x6⟩ := inputs_loop l hl hlen R i n hR hR2 (by omega) a (a + b) a0 (by omega) (by omega) gs hg a2 a3 a4 a5 a6 (R + i) k 0 p2 g2 [] (by omega) (by omega) (by omega) (by simp) (by simp) rfl (by omega)
  rw [show ((0 : Nat) : Int) = 0 from rfl] at x2
  rw [x2]
  obtain ⟨k', p', h', gs', y1, y2, y3, y4, y5, y6, y7⟩ := ih k1 (i + 1) p3 g3 (gs ++ [g]) (by omega) (by omega) (by omega) (by rw [List.length_append, List.length_singleton]; omega) (gatesB_snoc _ g gs 0 hgb (by rw [Nat.zero_add, hg]; exact x5)) (fun y hy => by
   rcases List.mem_append.1 hy with hy | hy
   ·exact hgl y hy
   ·rw [List.mem_singleton.1 hy]; exact x6) (by omega)
  exact ⟨k', p', h', gs', by omega, y2, y3, y4, y5, y6, y7⟩
theorem data_loop (l : List Int) (hl : Bytes l) (hlen : l.length ≤ 1000) (R n : Nat) (hR : 1 ≤ R) (hR2 : R ≤ 4) (hn : n ≤ 10) (gs : List S56) (z3 z4 z5 z6 : Int) (d : Nat) :
  ∀ (k i : Nat) (p h : Int) (data : List Int), i + d = R → 0 ≤ p → p ≤ 400 + i → data.length = i → (∀ x ∈ data, 0 ≤ x ∧ x ≤ (R : Int) + n - 1) → d + 2 < k →
  ∃ data' a3 a4 a5 a6 p' h', spec_l06DrawOk.l2 k (n : Int) (i : Int) l p h (R : Int) gs data z3 z4 z5 z6 = some ((R : Int), gs, data', a3, a4, a5, a6, p', h') ∧ data'.length = R ∧ (∀ x ∈ data', 0 ≤ x ∧ x ≤ (R : Int) + n - 1) ∧ 0 ≤ a3 ∧ a3 ≤ 3 ∧ 0 ≤ a4 ∧ a4 ≤ 3 ∧ 0 ≤ a5 ∧ a5 ≤ a6 ∧ a6 ≤ 6 := by
 induction d with
 | zero =>
  intro k i p h data hi hp hp2 hd hx hk
  obtain ⟨k, rfl⟩ : ∃ q, k = q + 1 := ⟨k - 1, by omega⟩
  obtain ⟨a, p1, g1, e1, a0, a1, _, q1, q2⟩ := pick_tells l hl hlen p h 4 hp (by omega) (by omega)
  obtain ⟨b, p2, g2, e2, b0, b1, _, q3, q4⟩ := pick_tells l hl hlen p1 g1 4 (by omega) (by omega) (by omega)
  obtain ⟨c, p3, g3, e3, c0, c1, _, q5, q6⟩ := pick_tells l hl hlen p2 g2 4 (by omega) (by omega) (by omega)
  obtain ⟨e, p4, g4, e4, d0, d1, _, q7, q8⟩ := pick_tells l hl hlen p3 g3 4 (by omega) (by omega) (by omega)
  have a2 := a1 (by omega)
  have b2 := b1 (by omega)
  have c2 := c1 (by omega)
  have d2 := d1 (by omega)
  simp only [spec_l06DrawOk.l2]
  rw [if_neg (by omega), e1]
  simp only [Option.bind_some]
  rw [e2]
  simp only [Option.bind_some]
  rw [e3]
  simp only [Option.bind_some]
  rw [e4]
  simp only [Option.bind_some]
  rw [wrap_id (x := c + e) (by omega) (by omega)]
  exact ⟨data, a, b, c, c + e, p4, g4, rfl, by omega, hx, by omega, by omega, by omega, by omega, by omega, by omega, by omega⟩
 | succ d ih =>
  intro k i p h data hi hp hp2 hd hx hk
  obtain ⟨k, rfl⟩ : ∃ q, k = q + 1 := ⟨k - 1, by omega⟩
  obtain ⟨v, p1, g1, e1, v0, v1, v2, q1, q2⟩ := pick_tells l hl hlen p h ((R : Int) + n) hp (by omega) (by omega)
  have hv : v ≤ (R : Int) + n - 1 := by
   by_cases c : (2 : Int) ≤ (R : Int) + n
   ·have := v1 c; omega
   ·have := v2 (by omega); omega
  simp only [spec_l06DrawOk.l2]
  rw [if_pos (by omega), wrap_add R n (by omega) (by omega), e1]
  simp only [Option.bind_some]
  rw [if_pos (by omega), wrap_succ i (by omega)]
  exact ih k (i + 1) p1 g1 (data ++ [v]) (by omega) (by omega) (by omega) (by rw [List.length_append, List.length_singleton]; omega) (fun x hm => by
   rcases List.mem_append.1 hm with hm | hm
   ·exact hx x hm
   ·rw [List.mem_singleton.1 hm]; exact ⟨v0, hv⟩) (by omega)
/-- A drawn circuit is valid. -/
theorem circuit_tells (l : List Int) (hl : Bytes l) (hlen : l.length ≤ 1000) (k : Nat) (hk : 1000 ≤ k) : ∃ (R : Nat) (gs : List S56) (data : List Int) (a3 a4 a5 a6 : Int), spec_R8Circuit.f k l = some ((R : Int), gs, data, a3, a4, a5, a6) ∧ 1 ≤ R ∧ R ≤ 4 ∧ validB (R : Int) gs data a3 a4 a5 a6 = true ∧ (∀ g ∈ gs, g.f2.length ≤ 100) ∧ data.length = R ∧ a3 ≤ 3 ∧ a4 ≤ 3 ∧ a6 ≤ 6 := by
 obtain ⟨a, p1, g1, e1, a0, a1, _, q1, q2⟩ := pick_tells l hl hlen 0 0 4 (by omega) (by omega) (by omega)
 obtain ⟨b, p2, g2, e2, b0, b1, _, q3, q4⟩ := pick_tells l hl hlen p1 g1 7 (by omega) (by omega) (by omega)
 obtain ⟨o, p3, g3, e3, q5, q6⟩ := one_tells l hl hlen p2 g2 20 (by omega) (by omega) (by omega)
 have a2 := a1 (by omega)
 have b2 := b1 (by omega)
 obtain ⟨R, rfl⟩ : ∃ R : Nat, a = (R : Int) := ⟨a.toNat, by omega⟩
 have run : ∀ n : Nat, n ≤ 10 → ∃ (gs : List S56) (data : List Int) (a3 a4 a5 a6 p' h' : Int), spec_l06DrawOk.j0 k (n : Int) l p3 g3 ((R + 1 : Nat) : Int) [] [] 0 0 0 0 = some (((R + 1 : Nat) : Int), gs, data, a3, a4, a5, a6, p', h') ∧ validB ((R + 1 : Nat) : Int) gs data a3 a4 a5 a6 = true ∧ (∀ g ∈ gs, g.f2.length ≤ 100) ∧ data.length = R + 1 ∧ a3 ≤ 3 ∧ a4 ≤ 3 ∧ a6 ≤ 6 := by
  intro n hn
  obtain ⟨q, rfl⟩ : ∃ q, k = q + 1 := ⟨k - 1, by omega⟩
  simp only [spec_l06DrawOk.j0]
  obtain ⟨k', p', h', gs, x1, x2, x3, x4, x5, x6, x7⟩ := gates_loop l hl hlen (R + 1) n (by omega) (by omega) hn [] 0 0 0 0 n q 0 p3 g3 [] (by omega) (by omega) (by omega) rfl rfl (by simp) (by omega)
  rw [show ((0 : Nat) : Int) = 0 from rfl] at x2
  rw [x2]
  obtain ⟨data, a3, a4, a5, a6, p4, h4, y1, y2, y3, y4, y5, y6, y7, y8, y9, y10⟩ := data_loop l hl hlen (R + 1) n (by omega) (by omega) hn gs 0 0 0 0 (R + 1) k' 0 p' h' [] (by omega) x3 (by omega) rfl (by simp) (by omega)
  rw [show ((0 : Nat) : Int) = 0 from rfl] at y1
  refine ⟨gs, data, a3, a4, a5, a6, p4, h4, y1, ?_, x7, y2, by omega, by omega, by omega⟩
  unfold validB
  rw [inB_of (x := ((R + 1 : Nat) : Int)) (by omega) (by omega), decide_eq_true (by omega : gs.length ≤ 10), decide_eq_true (by omega : (data.length : Int) = ((R + 1 : Nat) : Int)), inB_of (x := a3) (by omega) (by omega), inB_of (x := a4) (by omega) (by omega), inB_of (x := a6) (by omega) (by omega), inB_of (x := a5) y8 y9, x6]
  simp only [Bool.true_and, List.all_eq_true]
  intro x hx
  have := y3 x hx
  exact inB_of this.1 (by omega)
 have both : ∃ (gs : List S56) (data : List Int) (a3 a4 a5 a6 p' h' : Int), spec_l06DrawOk.f k l 0 0 = some (((R + 1 : Nat) : Int), gs, data, a3, a4, a5, a6, p', h') ∧ validB ((R + 1 : Nat) : Int) gs data a3 a4 a5 a6 = true ∧ (∀ g ∈ gs, g.f2.length ≤ 100) ∧ data.length = R + 1 ∧ a3 ≤ 3 ∧ a4 ≤ 3 ∧ a6 ≤ 6 := by
  unfold spec_l06DrawOk.f
  rw [e1]
  simp only [Option.bind_some]
  rw [e2]
  simp only [Option.bind_some]
  rw [e3]
  simp only [Option.bind_some]
  rw [show wrap64 (1 + (R : Int)) = ((R + 1 : Nat) : Int) by rw [wrap_id (by omega) (by omega)]; omega]
  cases o with
  | true => rw [if_pos rfl]; exact run 10 (by omega)
  | false =>
   rw [if_neg (by decide)]
   have := run b.toNat (by omega)
   rw [show ((b.toNat : Nat) : Int) = b by omega] at this
   exact this
 obtain ⟨gs, data, a3, a4, a5, a6, p', h', z1, z2, z3, z4, z5, z6, z7⟩ := both
 refine ⟨R + 1, gs, data, a3, a4, a5, a6, ?_, by omega, by omega, z2, z3, z4, z5, z6, z7⟩
 unfold spec_R8Circuit.f spec_l00From.f
 simp only [Option.bind_some]
 rw [z1]
 rfl
theorem skews_draw (l : List Int) (hl : Bytes l) (hlen : l.length ≤ 1000) (n : Nat) (hn : n ≤ 10) (d : Nat) : ∀ (k i : Nat) (p h : Int) (out : List Int), i + d = n → 0 ≤ p → p ≤ i → out.length = i → (∀ x ∈ out, 0 ≤ x ∧ x ≤ 6) → d < k →
  ∃ r, spec_R8Skews.l0 k (n : Int) out (i : Int) l p h = some r ∧ r.length = n ∧ ∀ x ∈ r, 0 ≤ x ∧ x ≤ 6 := by
 induction d with
 | zero =>
  intro k i p h out hi hp hp2 ho hx hk
  obtain ⟨k, rfl⟩ : ∃ q, k = q + 1 := ⟨k - 1, by omega⟩
  simp only [spec_R8Skews.l0]
  rw [if_neg (by omega)]
  exact ⟨out, rfl, by omega, hx⟩
 | succ d ih =>
  intro k i p h out hi hp hp2 ho hx hk
  obtain ⟨k, rfl⟩ : ∃ q, k = q + 1 := ⟨k - 1, by omega⟩
  obtain ⟨v, p1, g1, e1, v0, v1, v2, q1, q2⟩ := pick_tells l hl hlen p h 7 hp (by omega) (by omega)
  have v3 := v1 (by omega)
  simp only [spec_R8Skews.l0]
  rw [if_pos (by omega), e1]
  simp only [Option.bind_some]
  rw [if_pos (by omega), wrap_succ i (by omega)]
  exact ih k (i + 1) p1 g1 (out ++ [v]) (by omega) (by omega) (by omega) (by rw [List.length_append, List.length_singleton]; omega) (fun x hm => by
   rcases List.mem_append.1 hm with hm | hm
   ·exact hx x hm
   ·rw [List.mem_singleton.1 hm]; omega) (by omega)
theorem skews8_tell (l : List Int) (hl : Bytes l) (hlen : l.length ≤ 1000) (n : Nat) (hn : n ≤ 10) (k : Nat) (hk : 100 ≤ k) : ∃ r, spec_R8Skews.f k l (n : Int) = some r ∧ r.length = n ∧ ∀ x ∈ r, 0 ≤ x ∧ x ≤ 6 := by
 unfold spec_R8Skews.f spec_l00From.f
 simp only [Option.bind_some]
 have := skews_draw l hl hlen n hn n k 0 0 0 [] (by omega) (by omega) (by omega) rfl (by simp) (by omega)
 rw [show ((0 : Nat) : Int) = 0 from rfl] at this
 exact this
end Go.Proofs.Ytahjcmmgdcedpaa.Pure

namespace Go.Proofs.Ytahjcmmgdcedpaa.Pa
open Go.RowKit Go.Proofs.YtahjcmmgdcedpaaW.PrintWords Go.Proofs.YtahjcmmgdcedpaaW.PrintLast Go.Proofs.YtahjcmmgdcedpaaW.PrintMore
attribute [local go_sem] max2_int min2_int max_two min_two max_three min_three max_four min_four   -- for this text's walks alone
set_option linter.unusedVariables false
set_option linter.unusedSimpArgs false

/-! ### spec_l00Max: function 86 -/
def spec_l00Max.f (a0 : Int) (a1 : Int) : Option (Int) := if a0 > a1 then (some a0) else (some a1)
end Go.Proofs.Ytahjcmmgdcedpaa.Pa

namespace Go.Proofs.Ytahjcmmgdcedpaa.Pa
open Go.RowKit Go.Proofs.YtahjcmmgdcedpaaW.PrintWords Go.Proofs.YtahjcmmgdcedpaaW.PrintLast Go.Proofs.YtahjcmmgdcedpaaW.PrintMore
attribute [local go_sem] max2_int min2_int max_two min_two max_three min_three max_four min_four   -- for this text's walks alone
set_option linter.unusedVariables false
set_option linter.unusedSimpArgs false

/-! ### spec_l06From: function 83 -/
mutual
def spec_l06From.l0 : Nat → Int → List Int → List Int → Int → Int → List (S56) → List Int → Int → Int → Int → Int → Option (List Int × List Int × Int × Int × Int × Int × Int)
 | 0, _, _, _, _, _, _, _, _, _, _, _ => none
 | k + 1, x1, x6, x7, x8, x1000, x1001, x1002, x1003, x1004, x1005, x1006 => if x8 < x1000 then (if x8 = x1 then (if x6.length < 17592186044416 then (if x7.length < 17592186044416 then (spec_l06From.l0 k x1 (x6 ++ [0]) (x7 ++ [0]) (wrap64 (x8 + 1)) x1000 x1001 x1002 x1003 x1004 x1005 x1006) else (none)) else (none)) else (if x6.length < 17592186044416 then (if x7.length < 17592186044416 then (spec_l06From.l0 k x1 (x6 ++ [(-1)]) (x7 ++ [(-1)]) (wrap64 (x8 + 1)) x1000 x1001 x1002 x1003 x1004 x1005 x1006) else (none)) else (none))) else (spec_l06From.l1 k x6 x7 0 x1000 x1001 x1002 x1003 x1004 x1005 x1006)
def spec_l06From.l1 : Nat → List Int → List Int → Int → Int → List (S56) → List Int → Int → Int → Int → Int → Option (List Int × List Int × Int × Int × Int × Int × Int)
 | 0, _, _, _, _, _, _, _, _, _, _ => none
 | k + 1, x6, x7, x9, x1000, x1001, x1002, x1003, x1004, x1005, x1006 => if x9 < (x1001.length : Int) then (spec_l06From.l2 k x6 x7 x9 (-1) (-1) 0 x1000 x1001 x1002 x1003 x1004 x1005 x1006) else (some (x6, x7, x1000, x1003, x1004, x1005, x1006))
def spec_l06From.l2 : Nat → List Int → List Int → Int → Int → Int → Int → Int → List (S56) → List Int → Int → Int → Int → Int → Option (List Int × List Int × Int × Int × Int × Int × Int)
 | 0, _, _, _, _, _, _, _, _, _, _, _, _, _ => none
 | k + 1, x6, x7, x9, x10, x11, x12, x1000, x1001, x1002, x1003, x1004, x1005, x1006 => if 0 ≤ x9 then (if x9 < (x1001.length : Int) then (if x12 < (((rd_T56 x1001 x9).f2).length : Int) then (if 0 ≤ x12 then (if 0 ≤ (rd ((rd_T56 x1001 x9).f2) x12) then (if (rd ((rd_T56 x1001 x9).f2) x12) < (x7.length : Int) then (if (rd x7 (rd ((rd_T56 x1001 x9).f2) x12)) < 0 then (spec_l06From.l2 k x6 x7 x9 x10 x11 (wrap64 (x12 + 1)) x1000 x1001 x1002 x1003 x1004 x1005 x1006) else (if x10 < 0 then (if (rd ((rd_T56 x1001 x9).f2) x12) < (x6.length : Int) then ((spec_l00Max.f x11 (wrap64 ((rd x7 (rd ((rd_T56 x1001 x9).f2) x12)) + ((rd_T56 x1001 x9).f1)))).bind fun t675 => (spec_l06From.l2 k x6 x7 x9 (wrap64 ((rd x6 (rd ((rd_T56 x1001 x9).f2) x12)) + ((rd_T56 x1001 x9).f0))) t675 (wrap64 (x12 + 1)) x1000 x1001 x1002 x1003 x1004 x1005 x1006)) else (none)) else (if (rd ((rd_T56 x1001 x9).f2) x12) < (x6.length : Int) then (if (wrap64 ((rd x6 (rd ((rd_T56 x1001 x9).f2) x12)) + ((rd_T56 x1001 x9).f0))) < x10 then ((spec_l00Max.f x11 (wrap64 ((rd x7 (rd ((rd_T56 x1001 x9).f2) x12)) + ((rd_T56 x1001 x9).f1)))).bind fun t682 => (spec_l06From.l2 k x6 x7 x9 (wrap64 ((rd x6 (rd ((rd_T56 x1001 x9).f2) x12)) + ((rd_T56 x1001 x9).f0))) t682 (wrap64 (x12 + 1)) x1000 x1001 x1002 x1003 x1004 x1005 x1006)) else ((spec_l00Max.f x11 (wrap64 ((rd x7 (rd ((rd_T56 x1001 x9).f2) x12)) + ((rd_T56 x1001 x9).f1)))).bind fun t685 => (spec_l06From.l2 k x6 x7 x9 x10 t685 (wrap64 (x12 + 1)) x1000 x1001 x1002 x1003 x1004 x1005 x1006))) else (none)))) else (none)) else (none)) else (none)) else (if x6.length < 17592186044416 then (if x7.length < 17592186044416 then (spec_l06From.l1 k (x6 ++ [x10]) (x7 ++ [x11]) (wrap64 (x9 + 1)) x1000 x1001 x1002 x1003 x1004 x1005 x1006) else (none)) else (none))) else (none)) else (none)
end
def spec_l06From.f (k : Nat) (s0_0 : Int) (s0_1 : List (S56)) (s0_2 : List Int) (s0_3 : Int) (s0_4 : Int) (s0_5 : Int) (s0_6 : Int) (a1 : Int) : Option (List Int × List Int × Int × Int × Int × Int × Int) := spec_l06From.l0 k a1 (([] : List Int)) (([] : List Int)) 0 s0_0 s0_1 s0_2 s0_3 s0_4 s0_5 s0_6
end Go.Proofs.Ytahjcmmgdcedpaa.Pa

