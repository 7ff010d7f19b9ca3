-- Written for this claim by a program of this session.
import Derived.Test.YtahjcmmgdcedpaaVPax0
import Derived.Test.YtahjcmmgdcedpaaVCore1
import Derived.Test.YtahjcmmgdcedpaaVCore2
namespace Go.Proofs.Ytahjcmmgdcedpaa.Pa
open Go.RowKit Go.Proofs.YtahjcmmgdcedpaaW.PrintWords Go.Proofs.YtahjcmmgdcedpaaW.PrintLast Go.Proofs.YtahjcmmgdcedpaaW.PrintMore
attribute [local go_sem] max2_int min2_int max_two min_two max_three min_three max_four min_four   -- for this text's walks alone
set_option linter.unusedVariables false
set_option linter.unusedSimpArgs false

/-! ### spec_R8Circuit: function 19 -/
def spec_R8Circuit.f (k : Nat) (l0 : List Int) : Option (Int × (List (S56)) × List Int × Int × Int × Int × Int) := (spec_l00From.f l0).bind fun bt395 => ((spec_l06DrawOk.f k bt395.1 bt395.2.1 bt395.2.2).bind fun bt399 => (some (bt399.1, bt399.2.1, bt399.2.2.1, bt399.2.2.2.1, bt399.2.2.2.2.1, bt399.2.2.2.2.2.1, bt399.2.2.2.2.2.2.1)))
theorem spec_R8Circuit.mono : ∀ a0 k, LeO (spec_R8Circuit.f k a0) (spec_R8Circuit.f (k + 1) a0) := by
 intro a0 k
 unfold spec_R8Circuit.f
 repeat' first
   | (with_reducible exact spec_l06DrawOk.mono _ _ _ _)
   | (with_reducible exact LeO.refl _)
   | (with_reducible exact LeO.none _)
   | (with_reducible refine LeO.ite ?_ ?_)
   | (with_reducible refine LeO.bind ?_ (fun _ => ?_))
   | exact spec_l06DrawOk.mono _ _ _ _
   | exact LeO.none _
   | refine LeO.ite ?_ ?_
   | refine LeO.bind ?_ (fun _ => ?_)
set_option maxHeartbeats 8000000 in
set_option maxRecDepth 100000 in
theorem spec_R8Circuit.calls (k : Nat) (A0 : Option Addr) (c0 : Nat) (l0 : List Int) (r1 : Int) (r2 : List (S56)) (r3 : List Int) (r4 : Int) (r5 : Int) (r6 : Int) (r7 : Int) (w : World) (hr0 : Kd.C (Kd.int .u8) w A0 l0.length l0) (hc0 : l0.length ≤ c0) (h : spec_R8Circuit.f k l0 = some (r1, r2, r3, r4, r5, r6, r7)) :
  Calls Try.prog 19 #[.slice A0 l0.length c0] w fun e w' => ∃ v1_ v2_ : Value, e = .returned (.agg #[.int .i64 r1, v1_, v2_, .int .i64 r4, .int .i64 r5, .int .i64 r6, .int .i64 r7]) ∧ Kd.S k56 56 w' w.heap.size (fun k_ => some k_ ≠ (v2_ : Value).ownBlock) v1_ r2 ∧ Kd.R (Kd.int .i64) 2 w' w.heap.size (fun _ => True) v2_ r3 ∧ Below w.heap.size w w' := by
 have hu45 := Try.underlying45
 have HR0 := Aside0.mk hr0
 have HC0 := Aside0.mk hc0
 clear hr0 hc0
 have HB := Aside0.mk (Below.refl w.heap.size w)
 have H : ((spec_l00From.f l0).bind fun bt395 => ((spec_l06DrawOk.f k bt395.1 bt395.2.1 bt395.2.2).bind fun bt399 => (some (bt399.1, bt399.2.1, bt399.2.2.1, bt399.2.2.2.1, bt399.2.2.2.2.1, bt399.2.2.2.2.2.1, bt399.2.2.2.2.2.2.1)))) = some (r1, r2, r3, r4, r5, r6, r7) := h
 clear h
 replace H := Option.bind_eq_some_iff.mp H
 obtain ⟨⟨t395, t396, t397⟩, A20, H⟩ := H
 replace H : ((spec_l06DrawOk.f k t395 t396 t397).bind fun bt399 => (some (bt399.1, bt399.2.1, bt399.2.2.1, bt399.2.2.2.1, bt399.2.2.2.2.1, bt399.2.2.2.2.2.1, bt399.2.2.2.2.2.2.1))) = some (r1, r2, r3, r4, r5, r6, r7) := H
 have A2 := Aside0.mk A20
 clear A20
 replace H := Option.bind_eq_some_iff.mp H
 obtain ⟨⟨t399, t400, t403, t406, t407, t408, t409, t410, t411⟩, A30, H⟩ := H
 replace H : (some (t399, t400, t403, t406, t407, t408, t409)) = some (r1, r2, r3, r4, r5, r6, r7) := H
 have A3 := Aside0.mk A30
 clear A30
 simp only [Option.some.injEq, Prod.mk.injEq] at H
 obtain ⟨rfl, rfl, rfl, rfl, rfl, rfl, rfl⟩ := H
 go_enter Try.func19, Try.ntmps19
 go_wp2_with (first | ((with_reducible refine gate_dst (N := 2) rfl ?_); refine box_event ?hg (N := 2) ?hd (cs := #[.int .i64 0, .slice none 0 0, .slice none 0 0, .int .i64 0, .int .i64 0, .int .i64 0, .int .i64 0]) (t := 45) ?hr ?_; (case hd => rfl); (case hg => rfl); (case hr => first | (go_simp; done) | (go_simp; rfl)); intro gb394 hg w4 hbox hb; have n0_ := Aside0.mk (below_step (by repeat (first | (with_reducible first | exact HB.out | apply below_alloc | apply pw_below_drewN | apply below_drew1) | exact HB.out)) hb); have n1_ := Aside0.mk (hbox); have n2_ := Aside0.mk ((by rw [hg]; exact (below_size (by repeat (first | (with_reducible first | exact HB.out | apply below_alloc | apply pw_below_drewN | apply below_drew1) | exact HB.out))) : w.heap.size ≤ gb394)); have n3_ := Aside0.mk ((by rw [hg]; exact (below_size (by repeat (first | (with_reducible first | exact HB.out | apply below_alloc | apply pw_below_drewN | apply below_drew1) | exact HB.out))) : w.heap.size ≤ gb394)); clear HB; have HB := n0_; have BK394 := n1_; have GW394 := n2_; have GE394 := n3_; clear n0_ n1_ n2_ n3_; clear hb hbox hg) | ((with_reducible refine gate_callee (f := 33) rfl ?_); refine goesL_ (some 5) rfl rfl Try.func33 (by kernel_rfl) rfl #[.slice A0 l0.length c0] rfl (by (try simp only [List.map_toArray, List.map_cons, List.map_nil]); first | done | rfl | (simp only [List.length_drop, List.length_take]; rfl)) ?_; (with_reducible refine (spec_l00From.calls _ _ l0 t395 t396 t397 w _ ?side1 ?side2 ?side3 A2.out).mono ?_); (case side1 => repeat (first | (with_reducible first | exact HB.out | apply below_alloc | apply pw_below_drewN | apply below_drew1 | refine below_set ?_ GE394.out) | exact HB.out)); (case side2 => exact HR0.out); (case side3 => exact HC0.out); rintro e w5 ⟨g398, rfl, hi, hb, hb2⟩; refine ⟨_, rfl, ?_⟩; have n0_ := Aside0.mk (blk_below (g := gb394) (o := .cells #[.int .i64 0, .slice none 0 0, .slice none 0 0, .int .i64 0, .int .i64 0, .int .i64 0, .int .i64 0] 45 (0, 0)) (by (with_reducible repeat (first | refine blk_drewN ?_ _ | refine blk_drew ?_ | refine blk_alloc ?_ _)); exact BK394.out) hb2); have n1_ := Aside0.mk (hb); have n2_ := Aside0.mk (hi); have n3_ := Aside0.mk (IsS94.ne_blk hi (blk_below (g := gb394) (o := .cells #[.int .i64 0, .slice none 0 0, .slice none 0 0, .int .i64 0, .int .i64 0, .int .i64 0, .int .i64 0] 45 (0, 0)) (by (with_reducible repeat (first | refine blk_drewN ?_ _ | refine blk_drew ?_ | refine blk_alloc ?_ _)); exact BK394.out) hb2) (by decide)); have n4_ := Aside0.mk (Ne.symm (IsS94.ne_blk hi (blk_below (g := gb394) (o := .cells #[.int .i64 0, .slice none 0 0, .slice none 0 0, .int .i64 0, .int .i64 0, .int .i64 0, .int .i64 0] 45 (0, 0)) (by (with_reducible repeat (first | refine blk_drewN ?_ _ | refine blk_drew ?_ | refine blk_alloc ?_ _)); exact BK394.out) hb2) (by decide))); clear BK394; clear HB; have BK394 := n0_; have HB := n1_; have HI398 := n2_; have NB398_394 := n3_; have NB394_398 := n4_; clear n0_ n1_ n2_ n3_ n4_; (try clear hb); (try clear hb2); (try clear hk); (try clear hi)) | ((with_reducible refine gate_callee (f := 47) rfl ?_); refine goesL_ (some 7) rfl rfl Try.func47 (by kernel_rfl) rfl #[.pointer (some ⟨g398, 0, none⟩)] rfl (by (try simp only [List.map_toArray, List.map_cons, List.map_nil]); first | done | rfl | (simp only [List.length_drop, List.length_take]; rfl)) ?_; (with_reducible refine (spec_l06DrawOk.calls k g398 t395 t396 t397 t399 t400 t403 t406 t407 t408 t409 t410 t411 w _ ?side1 ?side2 A3.out).mono ?_); (case side1 => repeat (first | (with_reducible first | exact HI398.out | apply IsS94.alloc | apply IsS94.drewN | apply IsS94.drew | apply IsS94.set_1 | apply IsS94.set_2 | refine IsS94.far ?_ NB398_394.out _) | exact HI398.out)); (case side2 => repeat (first | (with_reducible first | exact HB.out | apply below_alloc | apply pw_below_drewN | apply below_drew1 | refine below_set ?_ (IsS94.ge HI398.out) | refine below_set ?_ GE394.out) | exact HB.out)); rintro e w6 ⟨v401, v404, rfl, ho0, ho1, hi, hb, hk⟩; refine ⟨_, rfl, ?_⟩; have n0_ := Aside0.mk (KeepBut.blk hk (g' := gb394) (o := .cells #[.int .i64 0, .slice none 0 0, .slice none 0 0, .int .i64 0, .int .i64 0, .int .i64 0, .int .i64 0] 45 (0, 0)) (by (with_reducible repeat (first | refine blk_drewN ?_ _ | refine blk_drew ?_ | refine blk_alloc ?_ _)); exact BK394.out) NB394_398.out (by simp)); have n1_ := Aside0.mk (Kd.S_lower ho0 (below_size (by repeat (first | (with_reducible first | exact HB.out | apply below_alloc | apply pw_below_drewN | apply below_drew1 | refine below_set ?_ (IsS94.ge HI398.out) | refine below_set ?_ GE394.out) | exact HB.out)))); have n2_ := Aside0.mk (Kd.R_lower ho1 (below_size (by repeat (first | (with_reducible first | exact HB.out | apply below_alloc | apply pw_below_drewN | apply below_drew1 | refine below_set ?_ (IsS94.ge HI398.out) | refine below_set ?_ GE394.out) | exact HB.out)))); have n3_ := Aside0.mk (hb); have n4_ := Aside0.mk (hi); clear BK394; clear HB; clear HI398; have BK394 := n0_; have HO402 := n1_; have HO405 := n2_; have HB := n3_; have HI398 := n4_; clear n0_ n1_ n2_ n3_ n4_; (try clear hb); (try clear hb2); (try clear hk); (try clear hi); (try clear ho0); (try clear ho1); have hnb7 := NB394_398.out; have hnc7 := NB398_394.out; have hcz8_0 : w6.cell? ⟨gb394, 0, none⟩ = some (.int .i64 0) := (blk_cell BK394.out 0).trans rfl; have hcz8_1 : w6.cell? ⟨gb394, 1, none⟩ = some (.slice none 0 0) := (blk_cell BK394.out 1).trans rfl; have hcz8_2 : w6.cell? ⟨gb394, 2, none⟩ = some (.slice none 0 0) := (blk_cell BK394.out 2).trans rfl; have hcz8_3 : w6.cell? ⟨gb394, 3, none⟩ = some (.int .i64 0) := (blk_cell BK394.out 3).trans rfl; have hcz8_4 : w6.cell? ⟨gb394, 4, none⟩ = some (.int .i64 0) := (blk_cell BK394.out 4).trans rfl; have hcz8_5 : w6.cell? ⟨gb394, 5, none⟩ = some (.int .i64 0) := (blk_cell BK394.out 5).trans rfl; have hcz8_6 : w6.cell? ⟨gb394, 6, none⟩ = some (.int .i64 0) := (blk_cell BK394.out 6).trans rfl; have hfz8_0 := blk_frozen BK394.out 0; have hfz8_1 := blk_frozen BK394.out 1; have hfz8_2 := blk_frozen BK394.out 2; have hfz8_3 := blk_frozen BK394.out 3; have hfz8_4 := blk_frozen BK394.out 4; have hfz8_5 := blk_frozen BK394.out 5; have hfz8_6 := blk_frozen BK394.out 6; obtain ⟨Ao9, co9, eo9⟩ := Kd.S_slice HO402.out; subst eo9; obtain ⟨Ao10, co10, eo10⟩ := Kd.R_slice HO405.out; subst eo10))
 refine bodyPost_ret (results_cell_row rfl _ _ gb394 45 #[.int .i64 t399, .slice Ao9 t400.length co9, .slice Ao10 t403.length co10, .int .i64 t406, .int .i64 t407, .int .i64 t408, .int .i64 t409] (0, 0) _ rfl (by (with_reducible repeat (first | refine blk_drewN ?_ _ | refine blk_drew ?_ | refine blk_alloc ?_ _)); refine blk_put (cs := #[.int .i64 t399, .slice Ao9 t400.length co9, .slice Ao10 t403.length co10, .int .i64 t406, .int .i64 t407, .int .i64 t408, .int .i64 0]) ?_ 6 _ rfl; (with_reducible repeat (first | refine blk_drewN ?_ _ | refine blk_drew ?_ | refine blk_alloc ?_ _)); refine blk_put (cs := #[.int .i64 t399, .slice Ao9 t400.length co9, .slice Ao10 t403.length co10, .int .i64 t406, .int .i64 t407, .int .i64 0, .int .i64 0]) ?_ 5 _ rfl; (with_reducible repeat (first | refine blk_drewN ?_ _ | refine blk_drew ?_ | refine blk_alloc ?_ _)); refine blk_put (cs := #[.int .i64 t399, .slice Ao9 t400.length co9, .slice Ao10 t403.length co10, .int .i64 t406, .int .i64 0, .int .i64 0, .int .i64 0]) ?_ 4 _ rfl; (with_reducible repeat (first | refine blk_drewN ?_ _ | refine blk_drew ?_ | refine blk_alloc ?_ _)); refine blk_put (cs := #[.int .i64 t399, .slice Ao9 t400.length co9, .slice Ao10 t403.length co10, .int .i64 0, .int .i64 0, .int .i64 0, .int .i64 0]) ?_ 3 _ rfl; (with_reducible repeat (first | refine blk_drewN ?_ _ | refine blk_drew ?_ | refine blk_alloc ?_ _)); refine blk_put (cs := #[.int .i64 t399, .slice Ao9 t400.length co9, .slice none 0 0, .int .i64 0, .int .i64 0, .int .i64 0, .int .i64 0]) ?_ 2 _ rfl; (with_reducible repeat (first | refine blk_drewN ?_ _ | refine blk_drew ?_ | refine blk_alloc ?_ _)); refine blk_put (cs := #[.int .i64 t399, .slice none 0 0, .slice none 0 0, .int .i64 0, .int .i64 0, .int .i64 0, .int .i64 0]) ?_ 1 _ rfl; (with_reducible repeat (first | refine blk_drewN ?_ _ | refine blk_drew ?_ | refine blk_alloc ?_ _)); refine blk_put (cs := #[.int .i64 0, .slice none 0 0, .slice none 0 0, .int .i64 0, .int .i64 0, .int .i64 0, .int .i64 0]) ?_ 0 _ rfl; (with_reducible repeat (first | refine blk_drewN ?_ _ | refine blk_drew ?_ | refine blk_alloc ?_ _)); exact BK394.out) Try.underlying45 rfl (by kernel_rfl)) rfl ?_
 exact ⟨_, _, by first | rfl | (simp [errW_none, errW_some] <;> rfl) | (simp [*, errW_none, errW_some] <;> rfl), by (with_reducible repeat (first | apply Kd.S_alloc | apply Kd.S_drewN | apply Kd.S_drew)); exact Kd.S_mono (Kd.S_far (p := ⟨gb394, 6, none⟩) (Kd.S_far (p := ⟨gb394, 5, none⟩) (Kd.S_far (p := ⟨gb394, 4, none⟩) (Kd.S_far (p := ⟨gb394, 3, none⟩) (Kd.S_far (p := ⟨gb394, 2, none⟩) (Kd.S_far (p := ⟨gb394, 1, none⟩) (Kd.S_far (p := ⟨gb394, 0, none⟩) (Kd.S_types HO402.out BK394.out (by decide)) (fun _ hk => hk.2) (.int .i64 t399)) (fun _ hk => hk.2) (.slice Ao9 t400.length co9)) (fun _ hk => hk.2) (.slice Ao10 t403.length co10)) (fun _ hk => hk.2) (.int .i64 t406)) (fun _ hk => hk.2) (.int .i64 t407)) (fun _ hk => hk.2) (.int .i64 t408)) (fun _ hk => hk.2) (.int .i64 t409)) (fun _ hk => hk.1), by (with_reducible repeat (first | apply Kd.R_alloc | apply Kd.R_drewN | apply Kd.R_drew)); exact Kd.R_mono (Kd.R_far (p := ⟨gb394, 6, none⟩) (Kd.R_far (p := ⟨gb394, 5, none⟩) (Kd.R_far (p := ⟨gb394, 4, none⟩) (Kd.R_far (p := ⟨gb394, 3, none⟩) (Kd.R_far (p := ⟨gb394, 2, none⟩) (Kd.R_far (p := ⟨gb394, 1, none⟩) (Kd.R_far (p := ⟨gb394, 0, none⟩) (Kd.R_types HO405.out BK394.out (by decide)) (fun _ hk => hk.2) (.int .i64 t399)) (fun _ hk => hk.2) (.slice Ao9 t400.length co9)) (fun _ hk => hk.2) (.slice Ao10 t403.length co10)) (fun _ hk => hk.2) (.int .i64 t406)) (fun _ hk => hk.2) (.int .i64 t407)) (fun _ hk => hk.2) (.int .i64 t408)) (fun _ hk => hk.2) (.int .i64 t409)) (fun _ hk => trivial), by repeat (first | (with_reducible first | exact HB.out | apply below_alloc | apply pw_below_drewN | apply below_drew1 | refine below_set ?_ (IsS94.ge HI398.out) | refine below_set ?_ GE394.out) | exact HB.out)⟩

end Go.Proofs.Ytahjcmmgdcedpaa.Pa

namespace Go.Proofs.Ytahjcmmgdcedpaa.Pa
open Go.RowKit Go.Proofs.YtahjcmmgdcedpaaW.PrintWords Go.Proofs.YtahjcmmgdcedpaaW.PrintLast Go.Proofs.YtahjcmmgdcedpaaW.PrintMore
attribute [local go_sem] max2_int min2_int max_two min_two max_three min_three max_four min_four   -- for this text's walks alone
set_option linter.unusedVariables false
set_option linter.unusedSimpArgs false

/-! ### spec_R8Skews: function 20 -/
def spec_R8Skews.l0 : Nat → Int → List Int → Int → List Int → Int → Int → Option (List Int)
 | 0, _, _, _, _, _, _ => none
 | k + 1, x1, x6, x7, x416000, x416001, x416002 => if x7 < x1 then ((spec_l00Src_pick.f x416000 x416001 x416002 7).bind fun bt419 => (if x6.length < 17592186044416 then (spec_R8Skews.l0 k x1 (x6 ++ [bt419.1]) (wrap64 (x7 + 1)) x416000 bt419.2.1 bt419.2.2) else (none))) else (some x6)
def spec_R8Skews.f (k : Nat) (l0 : List Int) (a1 : Int) : Option (List Int) := (spec_l00From.f l0).bind fun bt412 => (spec_R8Skews.l0 k a1 (([] : List Int)) 0 bt412.1 bt412.2.1 bt412.2.2)
theorem spec_R8Skews.mono_l : ∀ k, (∀ y0 y1 y2 y3 y4 y5, LeO (spec_R8Skews.l0 k y0 y1 y2 y3 y4 y5) (spec_R8Skews.l0 (k + 1) y0 y1 y2 y3 y4 y5))
 | 0 => fun _ _ _ _ _ _ r h => by simp [spec_R8Skews.l0] at h
 | k + 1 => by
  have ih0 := spec_R8Skews.mono_l k
  ·intro y0 y1 y2 y3 y4 y5
   unfold spec_R8Skews.l0
   repeat' first
   | (with_reducible exact ih0 _ _ _ _ _ _)
   | (with_reducible exact LeO.refl _)
   | (with_reducible exact LeO.none _)
   | (with_reducible refine LeO.ite ?_ ?_)
   | (with_reducible refine LeO.bind ?_ (fun _ => ?_))
   | exact ih0 _ _ _ _ _ _
   | exact LeO.none _
   | refine LeO.ite ?_ ?_
   | refine LeO.bind ?_ (fun _ => ?_)
theorem spec_R8Skews.mono : ∀ a0 a1 k, LeO (spec_R8Skews.f k a0 a1) (spec_R8Skews.f (k + 1) a0 a1) := by
 intro a0 a1 k
 have ih0 := spec_R8Skews.mono_l k
 unfold spec_R8Skews.f
 repeat' first
   | (with_reducible exact ih0 _ _ _ _ _ _)
   | (with_reducible exact LeO.refl _)
   | (with_reducible exact LeO.none _)
   | (with_reducible refine LeO.ite ?_ ?_)
   | (with_reducible refine LeO.bind ?_ (fun _ => ?_))
   | exact ih0 _ _ _ _ _ _
   | exact LeO.none _
   | refine LeO.ite ?_ ?_
   | refine LeO.bind ?_ (fun _ => ?_)
set_option maxHeartbeats 8000000 in
set_option maxRecDepth 100000 in
theorem spec_R8Skews.calls (k : Nat) (A0 : Option Addr) (c0 : Nat) (l0 : List Int) (a1 : Int) (r : List Int) (w : World) (hr0 : Kd.C (Kd.int .u8) w A0 l0.length l0) (hc0 : l0.length ≤ c0) (h : spec_R8Skews.f k l0 a1 = some r) :
  Calls Try.prog 20 #[.slice A0 l0.length c0, .int .i64 a1] w fun e w' => ∃ v0_ : Value, e = .returned (v0_) ∧ Kd.R (Kd.int .i64) 2 w' w.heap.size (fun _ => True) v0_ r ∧ Below w.heap.size w w' := by
 have HR0 := Aside0.mk hr0
 have HC0 := Aside0.mk hc0
 clear hr0 hc0
 have HB := Aside0.mk (Below.refl w.heap.size w)
 have H : ((spec_l00From.f l0).bind fun bt412 => (spec_R8Skews.l0 k a1 (([] : List Int)) 0 bt412.1 bt412.2.1 bt412.2.2)) = some r := h
 clear h
 replace H := Option.bind_eq_some_iff.mp H
 obtain ⟨⟨t412, t413, t414⟩, A30, H⟩ := H
 replace H : (spec_R8Skews.l0 k a1 (([] : List Int)) 0 t412 t413 t414) = some r := H
 have A3 := Aside0.mk A30
 clear A30
 obtain ⟨y416, hy416⟩ : ∃ y_ : List Int, y_ = (([] : List Int)) := ⟨_, rfl⟩
 replace H : (spec_R8Skews.l0 k a1 y416 0 t412 t413 t414) = some r := by first | (rw [hy416]; with_reducible exact H) | (have H2_ := (Option.bind_some _ _).symm.trans H; rw [hy416]; with_reducible exact H2_) | (have H2_ := (Option.bind_some _ _).symm.trans H; with_reducible exact H2_) | with_reducible exact H | (rw [hy416]; exact H) | exact H
 have Ny416 := Aside0.mk hy416
 clear hy416
 have H' := Aside0.mk H
 clear H
 go_enter Try.func20, Try.ntmps20
 go_wp2_with (first | ((with_reducible refine gate_callee (f := 33) rfl ?_); refine goesL_ (some 9) rfl rfl Try.func33 (by kernel_rfl) rfl #[.slice A0 l0.length c0] rfl (by (try simp only [List.map_toArray, List.map_cons, List.map_nil]); first | done | rfl | (simp only [List.length_drop, List.length_take]; rfl)) ?_; (with_reducible refine (spec_l00From.calls _ _ l0 t412 t413 t414 w _ ?side1 ?side2 ?side3 A3.out).mono ?_); (case side1 => repeat (first | (with_reducible first | exact HB.out | apply below_alloc | apply pw_below_drewN | apply below_drew1) | exact HB.out)); (case side2 => exact HR0.out); (case side3 => exact HC0.out); rintro e w4 ⟨g415, rfl, hi, hb, hb2⟩; refine ⟨_, rfl, ?_⟩; have n0_ := Aside0.mk (hb); have n1_ := Aside0.mk (hi); clear HB; have HB := n0_; have HI415 := n1_; clear n0_ n1_; (try clear hb); (try clear hb2); (try clear hk); (try clear hi)) | ((with_reducible refine gate_dst (N := 10) rfl ?_); refine Kd.R_lit (Kd.int .i64) _ 2 ?hg (N := 10) ?hd (xs := ([] : List Int)) (inner := []) (ok := fun _ => True) (okp := fun _ => True) ?hr ?hp (fun _ hk => hk) trivial (Below.refl _ _) (Nat.le_refl _) (by simp) ?_; (case hd => rfl); (case hg => rfl); (case hr => first | (go_simp; done) | (go_simp; rfl)); (case hp => exact (Reps.none _ _)); intro v417 w5 ho6 hb hg_ hnew_; clear hg_ hnew_; (first | rw [← Ny416.out] at ho6 | (simp only [Int.reduceToNat] at ho6; rw [← Ny416.out] at ho6)); have n0_ := Aside0.mk (Kd.R_lower ho6 (below_size (by repeat (first | (with_reducible first | exact HB.out | apply below_alloc | apply pw_below_drewN | apply below_drew1 | refine below_set ?_ (IsS94.ge HI415.out)) | exact HB.out)))); have n1_ := Aside0.mk (IsS94.below (by repeat (first | (with_reducible first | exact HI415.out | apply IsS94.alloc | apply IsS94.drewN | apply IsS94.drew | apply IsS94.set_1 | apply IsS94.set_2) | exact HI415.out)) hb); have n2_ := Aside0.mk (below_step (by repeat (first | (with_reducible first | exact HB.out | apply below_alloc | apply pw_below_drewN | apply below_drew1 | refine below_set ?_ (IsS94.ge HI415.out)) | exact HB.out)) hb); clear HI415; clear HB; have HO418 := n0_; have HI415 := n1_; have HB := n2_; clear n0_ n1_ n2_; clear hb ho6))
 go_loopg [6, 7] k (fun kq v6 v7 w' => ∃ (x6_1 : List Int) (x7_1 : Int) (x416001_1 : Int) (x416002_1 : Int), v7 = .int .i64 x7_1 ∧ Aside0 (spec_R8Skews.l0 kq a1 x6_1 x7_1 t412 x416001_1 x416002_1 = some r) ∧ Aside0 (kq ≤ k) ∧ Aside0 (Kd.R (Kd.int .i64) 2 w' w.heap.size (fun _ => True) v6 x6_1) ∧ Aside0 (IsS94 w w' g415 t412 x416001_1 x416002_1) ∧ Aside0 (Below w.heap.size w w'))
 case atStart => exact ⟨(y416), (0), (t413), (t414), (by first | rfl | (simp; done) | (simp [*]; done)), H', ⟨Nat.le_refl _⟩, ⟨by (with_reducible repeat (first | apply Kd.R_alloc | apply Kd.R_drewN | apply Kd.R_drew)); exact HO418.out⟩, ⟨by repeat (first | (with_reducible first | exact HI415.out | apply IsS94.alloc | apply IsS94.drewN | apply IsS94.drew | apply IsS94.set_1 | apply IsS94.set_2) | exact HI415.out)⟩, ⟨by repeat (first | (with_reducible first | exact HB.out | apply below_alloc | apply pw_below_drewN | apply below_drew1 | refine below_set ?_ (IsS94.ge HI415.out)) | exact HB.out)⟩⟩
 case round =>
  clear H'
  try clear c2
  try clear p2
  try clear c3
  obtain ⟨x6_1, x7_1, x416001_1, x416002_1, rfl, HA, HK1, HO_6, HI415, HB⟩ := hrel
  cases gk with
  | zero => exact absurd HA.out (by simp [spec_R8Skews.l0])
  | succ k1 =>
   have H := HA.out
   clear HA
   simp only [spec_R8Skews.l0] at H
   by_cases c7 : x7_1 < a1
   ·rw [if_pos c7] at H
    have c7b0 : decide (x7_1 < a1) = true := decide_eq_true c7
    clear c7
    replace H := Option.bind_eq_some_iff.mp H
    obtain ⟨⟨t419, t420, t421⟩, A80, H⟩ := H
    replace H : (if x6_1.length < 17592186044416 then (spec_R8Skews.l0 k1 a1 (x6_1 ++ [t419]) (wrap64 (x7_1 + 1)) t412 t420 t421) else (none)) = some r := H
    have A8 := Aside0.mk A80
    clear A80
    by_cases c9 : x6_1.length < 17592186044416
    ·rw [if_pos c9] at H
     have LMc9 := Aside0.mk c9
     clear c9
     obtain ⟨y422, hy422⟩ : ∃ y_ : List Int, y_ = (x6_1 ++ [t419]) := ⟨_, rfl⟩
     replace H : (spec_R8Skews.l0 k1 a1 y422 (wrap64 (x7_1 + 1)) t412 t420 t421) = some r := by first | (rw [hy422]; with_reducible exact H) | (have H2_ := (Option.bind_some _ _).symm.trans H; rw [hy422]; with_reducible exact H2_) | (have H2_ := (Option.bind_some _ _).symm.trans H; with_reducible exact H2_) | with_reducible exact H | (rw [hy422]; exact H) | exact H
     have Ny422 := Aside0.mk hy422
     clear hy422
     have H' := Aside0.mk H
     clear H
     go_wp2_with (first | ((with_reducible refine gate_callee (f := 35) rfl ?_); refine goesL_ (some 18) rfl rfl Try.func35 (by kernel_rfl) rfl #[.pointer (some ⟨g415, 0, none⟩), .int .i64 7] rfl (by (try simp only [List.map_toArray, List.map_cons, List.map_nil]); first | done | rfl | (simp only [List.length_drop, List.length_take]; rfl)) ?_; (with_reducible refine (spec_l00Src_pick.calls g415 t412 x416001_1 x416002_1 7 t419 t420 t421 w _ ?side1 ?side2 A8.out).mono ?_); (case side1 => repeat (first | (with_reducible first | exact HI415.out | apply IsS94.alloc | apply IsS94.drewN | apply IsS94.drew | apply IsS94.set_1 | apply IsS94.set_2) | exact HI415.out)); (case side2 => repeat (first | (with_reducible first | exact HB.out | apply below_alloc | apply pw_below_drewN | apply below_drew1 | refine below_set ?_ (IsS94.ge HI415.out)) | exact HB.out)); rintro e w10 ⟨rfl, hi, hb, hk⟩; refine ⟨_, rfl, ?_⟩; have n0_ := Aside0.mk (Kd.R_mono (Kd.R_keep (IsS94.apart (show IsS94 w _ g415 t412 x416001_1 x416002_1 from by repeat (first | (with_reducible first | exact HI415.out | apply IsS94.alloc | apply IsS94.drewN | apply IsS94.drew | apply IsS94.set_1 | apply IsS94.set_2) | exact HI415.out)) (by (with_reducible repeat (first | apply Kd.R_alloc | apply Kd.R_drewN | apply Kd.R_drew)); exact HO_6.out) (by decide)) hk (fun _ h => h.2)) (fun _ h => h.1)); have n1_ := Aside0.mk (hb); have n2_ := Aside0.mk (hi); clear HO_6; clear HB; clear HI415; have HO_6 := n0_; have HB := n1_; have HI415 := n2_; clear n0_ n1_ n2_; (try clear hb); (try clear hb2); (try clear hk); (try clear hi)) | ((with_reducible refine gate_builtin (b := .append) (xs := #[.tmp 16, .tmp 19]) rfl ?_); at_builtin; refine Kd.R_append (Kd.int .i64) (w0 := w) w.heap.size rfl (.tmp 16) (.tmp 19) 28 2 (.int .i64 0) 8 rfl Try.underlying28 info2 rfl (by decide) (by omega) u6 x6_1 t419 [.int .i64 t419] (fun _ => True) (fun _ => False) rfl rfl ?aP (fun _ hk => hk.elim) ?aF ?aO ?aB ?aS ?aL ?_; (case aP => exact rfl); (case aB => exact (by repeat (first | (with_reducible first | exact HB.out | apply below_alloc | apply pw_below_drewN | apply below_drew1 | refine below_set ?_ (IsS94.ge HI415.out)) | exact HB.out))); (case aF => exact (fun _ _ => trivial)); (case aO => exact (by (with_reducible repeat (first | apply Kd.R_alloc | apply Kd.R_drewN | apply Kd.R_drew)); exact HO_6.out)); (case aS => exact (below_size (by repeat (first | (with_reducible first | exact HB.out | apply below_alloc | apply pw_below_drewN | apply below_drew1 | refine below_set ?_ (IsS94.ge HI415.out)) | exact HB.out)))); (case aL => have := LMc9.out; omega); intro v423 w11 ho hb hg hat; rw [← Ny422.out] at ho; have n0_ := Aside0.mk (IsS94.grown (by repeat (first | (with_reducible first | exact HI415.out | apply IsS94.alloc | apply IsS94.drewN | apply IsS94.drew | apply IsS94.set_1 | apply IsS94.set_2) | exact HI415.out)) hg (IsS94.own_ne HI415.out HO_6.out (by decide))); have n1_ := Aside0.mk (hb); have n2_ := Aside0.mk (ho); clear HI415; clear HB; clear HO_6; have HI415 := n0_; have HB := n1_; have HO424 := n2_; clear n0_ n1_ n2_; clear ho hb hg hat))
     go_roundg k1
     case measure => have := HK1.out; omega
     case rel => exact ⟨(y422), (wrap64 (x7_1 + 1)), (t420), (t421), (by first | rfl | (simp; done) | (simp [*]; done)), H', ⟨by have := HK1.out; omega⟩, ⟨by (with_reducible repeat (first | apply Kd.R_alloc | apply Kd.R_drewN | apply Kd.R_drew)); exact HO424.out⟩, ⟨by repeat (first | (with_reducible first | exact HI415.out | apply IsS94.alloc | apply IsS94.drewN | apply IsS94.drew | apply IsS94.set_1 | apply IsS94.set_2) | exact HI415.out)⟩, ⟨by repeat (first | (with_reducible first | exact HB.out | apply below_alloc | apply pw_below_drewN | apply below_drew1 | refine below_set ?_ (IsS94.ge HI415.out)) | exact HB.out)⟩⟩
    ·rw [if_neg c9] at H
     exact absurd H (by simp)
   ·rw [if_neg c7] at H
    have c7b0 : decide (x7_1 < a1) = false := decide_eq_false c7
    clear c7
    obtain rfl := Option.some.inj H
    go_wp2
    go_ret
    exact ⟨_, by first | rfl | (simp [errW_none, errW_some] <;> rfl) | (simp [*, errW_none, errW_some] <;> rfl), by (with_reducible repeat (first | apply Kd.R_alloc | apply Kd.R_drewN | apply Kd.R_drew)); exact HO_6.out, by repeat (first | (with_reducible first | exact HB.out | apply below_alloc | apply pw_below_drewN | apply below_drew1 | refine below_set ?_ (IsS94.ge HI415.out)) | exact HB.out)⟩

end Go.Proofs.Ytahjcmmgdcedpaa.Pa

/- The circuits and skews that the short laws draw are valid. -/
namespace Go.Proofs.Ytahjcmmgdcedpaa.Pure
open Go.RowKit Go.Proofs.Ytahjcmmgdcedpaa.Pa Go.Proofs.YtahjcmmgdcedpaaW.PrintWords Go.Proofs.YtahjcmmgdcedpaaW.PrintLast Go.Proofs.YtahjcmmgdcedpaaW.PrintMore
set_option linter.unusedVariables false
set_option linter.unusedSimpArgs false

theorem wrap_succ (i : Nat) (h : i ≤ 1000) : wrap64 ((i : Int) + 1) = ((i + 1 : Nat) : Int) := by
 rw [wrap_id (by omega) (by omega)]
 omega
theorem wrap_add (a b : Nat) (h : a ≤ 1000) (h' : b ≤ 1000) : wrap64 ((a : Int) + (b : Int)) = (a : Int) + b := wrap_id (by omega) (by omega)
theorem inB_of {x l u : Int} (h0 : l ≤ x) (h1 : x ≤ u) : inB x l u = true := inB_iff.2 ⟨h0, h1⟩
theorem rises_snoc (hi j : Int) (h0 : 0 ≤ j) (h1 : j ≤ hi) (l : List Int) : ∀ p : Option Int, (∀ q, p = some q → q < j) → (∀ x ∈ l, x < j) → risesFrom hi p l = true → risesFrom hi p (l ++ [j]) = true := by
 induction l with
 | nil =>
  intro p hp _ _
  simp only [List.nil_append, risesFrom]
  rw [inB_of h0 h1]
  cases p with
  | none => rfl
  | some q => simp only [Bool.true_and, Bool.and_true]; exact decide_eq_true (hp q rfl)
 | cons x l ih =>
  intro p hp hl h
  simp only [List.cons_append, risesFrom, Bool.and_eq_true] at h ⊢
  exact ⟨h.1, ih (some x) (fun q hq => by rw [← Option.some.inj hq]; exact hl x (List.mem_cons_self ..)) (fun y hy => hl y (List.mem_cons_of_mem _ hy)) h.2⟩
theorem gatesB_snoc (n : Int) (g : S56) (l : List S56) : ∀ j : Nat, gatesB n j l = true → gateB n ((j + l.length : Nat) : Int) g = true → gatesB n j (l ++ [g]) = true := by
 induction l with
 | nil =>
  intro j _ h
  simp only [List.nil_append, gatesB, Bool.and_true]
  exact h
 | cons x l ih =>
  intro j h hg
  simp only [List.cons_append, gatesB, Bool.and_eq_true] at h ⊢
  exact ⟨h.1, ih (j + 1) h.2 (by rw [show j + 1 + l.length = j + (x :: l).length by simp; omega]; exact hg)⟩
/-- The inputs of one gate. -/
theorem inputs_loop (l : List Int) (hl : Bytes l) (hlen : l.length ≤ 1000) (R i n : Nat) (hR : 1 ≤ R) (hR2 : R ≤ 4) (hi : i < 10) (least most : Int) (h0 : 0 ≤ least) (h1 : least ≤ most) (h2 : most ≤ 100) (gs : List S56) (hgs : gs.length = i) (a2 : List Int) (a3 a4 a5 a6 : Int) (d : Nat) :
  ∀ (k j : Nat) (p h : Int) (inp : List Int), j + d = R + i → 0 ≤ p → p + d ≤ 900 → (∀ x ∈ inp, x < (j : Int)) → inp.length ≤ j → risesB inp ((R : Int) + i - 1) = true → d + 2 < k →
  ∃ k' p' h' g, k ≤ k' + d + 2 ∧ spec_l06DrawOk.l1 k (n : Int) (i : Int) (j : Int) l p h (R : Int) gs a2 a3 a4 a5 a6 least most inp = spec_l06DrawOk.l0 k' (n : Int) ((i + 1 : Nat) : Int) l p' h' (R : Int) (gs ++ [g]) a2 a3 a4 a5 a6 ∧ p ≤ p' ∧ p' ≤ p + d + 1 ∧ gateB (R : Int) (i : Int) g = true ∧ g.f2.length ≤ 100 := by
 induction d with
 | zero =>
  intro k j p h inp hj hp hp2 hin hle hr hk
  obtain ⟨k, rfl⟩ : ∃ q, k = q + 1 := ⟨k - 1, by omega⟩
  simp only [spec_l06DrawOk.l1]
  rw [wrap_add R i (by omega) (by omega), if_neg (by omega), wrap_succ i (by omega)]
  have hg : ∀ inp' : List Int, inp'.length ≠ 0 → risesB inp' ((R : Int) + i - 1) = true → gateB (R : Int) (i : Int) (⟨least, most, inp'⟩ : S56) = true := by
   intro inp' hne hr'
   unfold gateB
   simp only
   rw [inB_of (x := most) (l := 0) (u := 100) (by omega) h2, inB_of h0 h1, decide_eq_false hne, hr']
   rfl
  by_cases hz : (inp.length : Int) = 0
  ·obtain ⟨v, p', h', e, v0, v1, v2, q0, q1⟩ := pick_tells l hl hlen p h ((R : Int) + i) hp (by omega) (by omega)
   have hv : v ≤ (R : Int) + i - 1 := by
    by_cases c : (2 : Int) ≤ (R : Int) + i
    ·have := v1 c; omega
    ·have := v2 (by omega); omega
   have hnil : inp = [] := List.length_eq_zero_iff.1 (by omega)
   subst hnil
   rw [if_pos hz, e]
   simp only [Option.bind_some]
   rw [if_pos (by simp), if_pos (by omega)]
   refine ⟨k, p', h', _, by omega, rfl, q0, by omega, hg _ (by simp) ?_, by simp⟩
   unfold risesB
   simp only [List.nil_append, risesFrom]
   rw [inB_of v0 hv]
   rfl
  ·rw [if_neg hz, if_pos (by omega)]
   exact ⟨k, p, h, _, by omega, rfl, by omega, by omega, hg _ (by omega) hr, by show inp.length ≤ 100; omega⟩
 | succ d ih =>
  intro k j p h inp hj hp hp2 hin hle hr hk
  obtain ⟨k, rfl⟩ : ∃ q, k = q + 1 := ⟨k - 1, by omega⟩
  obtain ⟨o, p1, g1, e1, q0, q1⟩ := one_tells l hl hlen p h 3 hp (by omega) (by omega)
  simp only [spec_l06DrawOk.l1]
  rw [wrap_add R i (by omega) (by omega), if_pos (by omega), e1, wrap_succ j (by omega)]
  simp only [Option.bind_some]
  cases o with
  | true =>
   rw [if_pos rfl, if_pos (by omega)]
   obtain ⟨k', p', h', g, x1, x2, x3, x4, x5, x6⟩ := ih k (j + 1) p1 g1 (inp ++ [(j : Int)]) (by omega) (by omega) (by omega) (fun x hx => by
    rcases List.mem_append.1 hx with hx | hx
    ·have := hin x hx; omega
    ·rw [List.mem_singleton.1 hx]; omega) (by rw [List.length_append, List.length_singleton]; omega) (rises_snoc _ _ (by omega) (by omega) inp none (fun q hq => by cases hq) hin hr) (by omega)
   exact ⟨k', p', h', g, by omega, x2, by omega, by omega, x5, x6⟩
  | false =>
   rw [if_neg (by decide)]
   obtain ⟨k', p', h', g, x1, x2, x3, x4, x5, x6⟩ := ih k (j + 1) p1 g1 inp (by omega) (by omega) (by omega) (fun x hx => by have := hin x hx; omega) (by omega) hr (by omega)
   exact ⟨k', p', h', g, by omega, x2, by omega, by omega, x5, x6⟩
theorem gates_loop (l : List Int) (hl : Bytes l) (hlen : l.length ≤ 1000) (R n : Nat) (hR : 1 ≤ R) (hR2 : R ≤ 4) (hn : n ≤ 10) (a2 : List Int) (a3 a4 a5 a6 : Int) (d : Nat) :
  ∀ (k i : Nat) (p h : Int) (gs : List S56), i + d = n → 0 ≤ p → p ≤ 10 + 25 * i → gs.length = i → gatesB (R : Int) 0 gs = true → (∀ g ∈ gs, g.f2.length ≤ 100) → d * 30 + 2 < k →
  ∃ k' p' h' gs', k ≤ k' + d * 30 + 2 ∧ spec_l06DrawOk.l0 k (n : Int) (i : Int) l p h (R : Int) gs a2 a3 a4 a5 a6 = spec_l06DrawOk.l2 k' (n : Int) 0 l p' h' (R : Int) gs' a2 a3 a4 a5 a6 ∧ 0 ≤ p' ∧ p' ≤ 300 ∧ gs'.length = n ∧ gatesB (R : Int) 0 gs' = true ∧ ∀ g ∈ gs', g.f2.length ≤ 100 := by
 induction d with
 | zero =>
  intro k i p h gs hi hp hp2 hg hgb hgl hk
  obtain ⟨k, rfl⟩ : ∃ q, k = q + 1 := ⟨k - 1, by omega⟩
  simp only [spec_l06DrawOk.l0]
  rw [if_neg (by omega)]
  exact ⟨k, p, h, gs, by omega, rfl, hp, by omega, by omega, hgb, hgl⟩
 | succ d ih =>
  intro k i p h gs hi hp hp2 hg hgb hgl hk
  obtain ⟨k, rfl⟩ : ∃ q, k = q + 1 := ⟨k - 1, by omega⟩
  obtain ⟨a, p1, g1, e1, a0, a1, _, q1, q2⟩ := pick_tells l hl hlen p h 5 hp (by omega) (by omega)
  obtain ⟨b, p2, g2, e2, b0, b1, _, q3, q4⟩ := pick_tells l hl hlen p1 g1 6 (by omega) (by omega) (by omega)
  have a2' := a1 (by omega)
  have b2 := b1 (by omega)
  simp only [spec_l06DrawOk.l0]
  rw [if_pos (by omega), e1]
  simp only [Option.bind_some]
  rw [e2]
  simp only [Option.bind_some]
  rw [wrap_id (x := a + b) (by omega) (by omega)]
  obtain ⟨k1, p3, g3, g, x1, x2, x3, x4, x5, x6⟩ := inputs_loop l hl hlen R i n hR hR2 (by omega) a (a + b) a0 (by omega) (by omega) gs hg a2 a3 a4 a5 a6 (R + i) k 0 p2 g2 [] (by omega) (by omega) (by omega) (by simp) (by simp) rfl (by omega)
  rw [show ((0 : Nat) : Int) = 0 from rfl] at x2
  rw [x2]
  obtain ⟨k', p', h', gs', y1, y2, y3, y4, y5, y6, y7⟩ := ih k1 (i + 1) p3 g3 (gs ++ [g]) (by omega) (by omega) (by omega) (by rw [List.length_append, List.length_singleton]; omega) (gatesB_snoc _ g gs 0 hgb (by rw [Nat.zero_add, hg]; exact x5)) (fun y hy => by
   rcases List.mem_append.1 hy with hy | hy
   ·exact hgl y hy
   ·rw [List.mem_singleton.1 hy]; exact x6) (by omega)
  exact ⟨k', p', h', gs', by omega, y2, y3, y4, y5, y6, y7⟩
theorem data_loop (l : List Int) (hl : Bytes l) (hlen : l.length ≤ 1000) (R n : Nat) (hR : 1 ≤ R) (hR2 : R ≤ 4) (hn : n ≤ 10) (gs : List S56) (z3 z4 z5 z6 : Int) (d : Nat) :
  ∀ (k i : Nat) (p h : Int) (data : List Int), i + d = R → 0 ≤ p → p ≤ 400 + i → data.length = i → (∀ x ∈ data, 0 ≤ x ∧ x ≤ (R : Int) + n - 1) → d + 2 < k →
  ∃ data' a3 a4 a5 a6 p' h', spec_l06DrawOk.l2 k (n : Int) (i : Int) l p h (R : Int) gs data z3 z4 z5 z6 = some ((R : Int), gs, data', a3, a4, a5, a6, p', h') ∧ data'.length = R ∧ (∀ x ∈ data', 0 ≤ x ∧ x ≤ (R : Int) + n - 1) ∧ 0 ≤ a3 ∧ a3 ≤ 3 ∧ 0 ≤ a4 ∧ a4 ≤ 3 ∧ 0 ≤ a5 ∧ a5 ≤ a6 ∧ a6 ≤ 6 := by
 induction d with
 | zero =>
  intro k i p h data hi hp hp2 hd hx hk
  obtain ⟨k, rfl⟩ : ∃ q, k = q + 1 := ⟨k - 1, by omega⟩
  obtain ⟨a, p1, g1, e1, a0, a1, _, q1, q2⟩ := pick_tells l hl hlen p h 4 hp (by omega) (by omega)
  obtain ⟨b, p2, g2, e2, b0, b1, _, q3, q4⟩ := pick_tells l hl hlen p1 g1 4 (by omega) (by omega) (by omega)
  obtain ⟨c, p3, g3, e3, c0, c1, _, q5, q6⟩ := pick_tells l hl hlen p2 g2 4 (by omega) (by omega) (by omega)
  obtain ⟨e, p4, g4, e4, d0, d1, _, q7, q8⟩ := pick_tells l hl hlen p3 g3 4 (by omega) (by omega) (by omega)
  have a2 := a1 (by omega)
  have b2 := b1 (by omega)
  have c2 := c1 (by omega)
  have d2 := d1 (by omega)
  simp only [spec_l06DrawOk.l2]
  rw [if_neg (by omega), e1]
  simp only [Option.bind_some]
  rw [e2]
  simp only [Option.bind_some]
  rw [e3]
  simp only [Option.bind_some]
  rw [e4]
  simp only [Option.bind_some]
  rw [wrap_id (x := c + e) (by omega) (by omega)]
  exact ⟨data, a, b, c, c + e, p4, g4, rfl, by omega, hx, by omega, by omega, by omega, by omega, by omega, by omega, by omega⟩
 | succ d ih =>
  intro k i p h data hi hp hp2 hd hx hk
  obtain ⟨k, rfl⟩ : ∃ q, k = q + 1 := ⟨k - 1, by omega⟩
  obtain ⟨v, p1, g1, e1, v0, v1, v2, q1, q2⟩ := pick_tells l hl hlen p h ((R : Int) + n) hp (by omega) (by omega)
  have hv : v ≤ (R : Int) + n - 1 := by
   by_cases c : (2 : Int) ≤ (R : Int) + n
   ·have := v1 c; omega
   ·have := v2 (by omega); omega
  simp only [spec_l06DrawOk.l2]
  rw [if_pos (by omega), wrap_add R n (by omega) (by omega), e1]
  simp only [Option.bind_some]
  rw [if_pos (by omega), wrap_succ i (by omega)]
  exact ih k (i + 1) p1 g1 (data ++ [v]) (by omega) (by omega) (by omega) (by rw [List.length_append, List.length_singleton]; omega) (fun x hm => by
   rcases List.mem_append.1 hm with hm | hm
   ·exact hx x hm
   ·rw [List.mem_singleton.1 hm]; exact ⟨v0, hv⟩) (by omega)
/-- A drawn circuit is valid. -/
theorem circuit_tells (l : List Int) (hl : Bytes l) (hlen : l.length ≤ 1000) (k : Nat) (hk : 1000 ≤ k) : ∃ (R : Nat) (gs : List S56) (data : List Int) (a3 a4 a5 a6 : Int), spec_R8Circuit.f k l = some ((R : Int), gs, data, a3, a4, a5, a6) ∧ 1 ≤ R ∧ R ≤ 4 ∧ validB (R : Int) gs data a3 a4 a5 a6 = true ∧ (∀ g ∈ gs, g.f2.length ≤ 100) ∧ data.length = R ∧ a3 ≤ 3 ∧ a4 ≤ 3 ∧ a6 ≤ 6 := by
 obtain ⟨a, p1, g1, e1, a0, a1, _, q1, q2⟩ := pick_tells l hl hlen 0 0 4 (by omega) (by omega) (by omega)
 obtain ⟨b, p2, g2, e2, b0, b1, _, q3, q4⟩ := pick_tells l hl hlen p1 g1 7 (by omega) (by omega) (by omega)
 obtain ⟨o, p3, g3, e3, q5, q6⟩ := one_tells l hl hlen p2 g2 20 (by omega) (by omega) (by omega)
 have a2 := a1 (by omega)
 have b2 := b1 (by omega)
 obtain ⟨R, rfl⟩ : ∃ R : Nat, a = (R : Int) := ⟨a.toNat, by omega⟩
 have run : ∀ n : Nat, n ≤ 10 → ∃ (gs : List S56) (data : List Int) (a3 a4 a5 a6 p' h' : Int), spec_l06DrawOk.j0 k (n : Int) l p3 g3 ((R + 1 : Nat) : Int) [] [] 0 0 0 0 = some (((R + 1 : Nat) : Int), gs, data, a3, a4, a5, a6, p', h') ∧ validB ((R + 1 : Nat) : Int) gs data a3 a4 a5 a6 = true ∧ (∀ g ∈ gs, g.f2.length ≤ 100) ∧ data.length = R + 1 ∧ a3 ≤ 3 ∧ a4 ≤ 3 ∧ a6 ≤ 6 := by
  intro n hn
  obtain ⟨q, rfl⟩ : ∃ q, k = q + 1 := ⟨k - 1, by omega⟩
  simp only [spec_l06DrawOk.j0]
  obtain ⟨k', p', h', gs, x1, x2, x3, x4, x5, x6, x7⟩ := gates_loop l hl hlen (R + 1) n (by omega) (by omega) hn [] 0 0 0 0 n q 0 p3 g3 [] (by omega) (by omega) (by omega) rfl rfl (by simp) (by omega)
  rw [show ((0 : Nat) : Int) = 0 from rfl] at x2
  rw [x2]
  obtain ⟨data, a3, a4, a5, a6, p4, h4, y1, y2, y3, y4, y5, y6, y7, y8, y9, y10⟩ := data_loop l hl hlen (R + 1) n (by omega) (by omega) hn gs 0 0 0 0 (R + 1) k' 0 p' h' [] (by omega) x3 (by omega) rfl (by simp) (by omega)
  rw [show ((0 : Nat) : Int) = 0 from rfl] at y1
  refine ⟨gs, data, a3, a4, a5, a6, p4, h4, y1, ?_, x7, y2, by omega, by omega, by omega⟩
  unfold validB
  rw [inB_of (x := ((R + 1 : Nat) : Int)) (by omega) (by omega), decide_eq_true (by omega : gs.length ≤ 10), decide_eq_true (by omega : (data.length : Int) = ((R + 1 : Nat) : Int)), inB_of (x := a3) (by omega) (by omega), inB_of (x := a4) (by omega) (by omega), inB_of (x := a6) (by omega) (by omega), inB_of (x := a5) y8 y9, x6]
  simp only [Bool.true_and, List.all_eq_true]
  intro x hx
  have := y3 x hx
  exact inB_of this.1 (by omega)
 have both : ∃ (gs : List S56) (data : List Int) (a3 a4 a5 a6 p' h' : Int), spec_l06DrawOk.f k l 0 0 = some (((R + 1 : Nat) : Int), gs, data, a3, a4, a5, a6, p', h') ∧ validB ((R + 1 : Nat) : Int) gs data a3 a4 a5 a6 = true ∧ (∀ g ∈ gs, g.f2.length ≤ 100) ∧ data.length = R + 1 ∧ a3 ≤ 3 ∧ a4 ≤ 3 ∧ a6 ≤ 6 := by
  unfold spec_l06DrawOk.f
  rw [e1]
  simp only [Option.bind_some]
  rw [e2]
  simp only [Option.bind_some]
  rw [e3]
  simp only [Option.bind_some]
  rw [show wrap64 (1 + (R : Int)) = ((R + 1 : Nat) : Int) by rw [wrap_id (by omega) (by omega)]; omega]
  cases o with
  | true => rw [if_pos rfl]; exact run 10 (by omega)
  | false =>
   rw [if_neg (by decide)]
   have := run b.toNat (by omega)
   rw [show ((b.toNat : Nat) : Int) = b by omega] at this
   exact this
 obtain ⟨gs, data, a3, a4, a5, a6, p', h', z1, z2, z3, z4, z5, z6, z7⟩ := both
 refine ⟨R + 1, gs, data, a3, a4, a5, a6, ?_, by omega, by omega, z2, z3, z4, z5, z6, z7⟩
 unfold spec_R8Circuit.f spec_l00From.f
 simp only [Option.bind_some]
 rw [z1]
 rfl
theorem skews_draw (l : List Int) (hl : Bytes l) (hlen : l.length ≤ 1000) (n : Nat) (hn : n ≤ 10) (d : Nat) : ∀ (k i : Nat) (p h : Int) (out : List Int), i + d = n → 0 ≤ p → p ≤ i → out.length = i → (∀ x ∈ out, 0 ≤ x ∧ x ≤ 6) → d < k →
  ∃ r, spec_R8Skews.l0 k (n : Int) out (i : Int) l p h = some r ∧ r.length = n ∧ ∀ x ∈ r, 0 ≤ x ∧ x ≤ 6 := by
 induction d with
 | zero =>
  intro k i p h out hi hp hp2 ho hx hk
  obtain ⟨k, rfl⟩ : ∃ q, k = q + 1 := ⟨k - 1, by omega⟩
  simp only [spec_R8Skews.l0]
  rw [if_neg (by omega)]
  exact ⟨out, rfl, by omega, hx⟩
 | succ d ih =>
  intro k i p h out hi hp hp2 ho hx hk
  obtain ⟨k, rfl⟩ : ∃ q, k = q + 1 := ⟨k - 1, by omega⟩
  obtain ⟨v, p1, g1, e1, v0, v1, v2, q1, q2⟩ := pick_tells l hl hlen p h 7 hp (by omega) (by omega)
  have v3 := v1 (by omega)
  simp only [spec_R8Skews.l0]
  rw [if_pos (by omega), e1]
  simp only [Option.bind_some]
  rw [if_pos (by omega), wrap_succ i (by omega)]
  exact ih k (i + 1) p1 g1 (out ++ [v]) (by omega) (by omega) (by omega) (by rw [List.length_append, List.length_singleton]; omega) (fun x hm => by
   rcases List.mem_append.1 hm with hm | hm
   ·exact hx x hm
   ·rw [List.mem_singleton.1 hm]; omega) (by omega)
theorem skews8_tell (l : List Int) (hl : Bytes l) (hlen : l.length ≤ 1000) (n : Nat) (hn : n ≤ 10) (k : Nat) (hk : 100 ≤ k) : ∃ r, spec_R8Skews.f k l (n : Int) = some r ∧ r.length = n ∧ ∀ x ∈ r, 0 ≤ x ∧ x ≤ 6 := by
 unfold spec_R8Skews.f spec_l00From.f
 simp only [Option.bind_some]
 have := skews_draw l hl hlen n hn n k 0 0 0 [] (by omega) (by omega) (by omega) rfl (by simp) (by omega)
 rw [show ((0 : Nat) : Int) = 0 from rfl] at this
 exact this
end Go.Proofs.Ytahjcmmgdcedpaa.Pure

namespace Go.Proofs.Ytahjcmmgdcedpaa.Pa
open Go.RowKit Go.Proofs.YtahjcmmgdcedpaaW.PrintWords Go.Proofs.YtahjcmmgdcedpaaW.PrintLast Go.Proofs.YtahjcmmgdcedpaaW.PrintMore
attribute [local go_sem] max2_int min2_int max_two min_two max_three min_three max_four min_four   -- for this text's walks alone
set_option linter.unusedVariables false
set_option linter.unusedSimpArgs false

/-! ### spec_l00Max: function 86 -/
def spec_l00Max.f (a0 : Int) (a1 : Int) : Option (Int) := if a0 > a1 then (some a0) else (some a1)
set_option maxHeartbeats 8000000 in
set_option maxRecDepth 100000 in
theorem spec_l00Max.calls (a0 : Int) (a1 : Int) (r : Int) (w : World) (h : spec_l00Max.f a0 a1 = some r) :
  Calls Try.prog 86 #[.int .i64 a0, .int .i64 a1] w fun e w' => e = .returned (.int .i64 r) ∧ Drawn0 w w' := by
 have H : (if a0 > a1 then (some a0) else (some a1)) = some r := h
 clear h
 by_cases c3 : a0 > a1
 ·rw [if_pos c3] at H
  have c3b0 : decide (a1 < a0) = true := decide_eq_true c3
  clear c3
  obtain rfl := Option.some.inj H
  go_enter Try.func86, Try.ntmps86
  go_wp2
  go_ret
  exact ⟨by first | rfl | (simp; done) | (simp [*]; done), by repeat (first | exact Drawn0.refl _ | apply Drawn0.step)⟩
 ·rw [if_neg c3] at H
  have c3b0 : decide (a1 < a0) = false := decide_eq_false c3
  clear c3
  obtain rfl := Option.some.inj H
  go_enter Try.func86, Try.ntmps86
  go_wp2
  go_ret
  exact ⟨by first | rfl | (simp; done) | (simp [*]; done), by repeat (first | exact Drawn0.refl _ | apply Drawn0.step)⟩

end Go.Proofs.Ytahjcmmgdcedpaa.Pa

namespace Go.Proofs.Ytahjcmmgdcedpaa.Pa
open Go.RowKit Go.Proofs.YtahjcmmgdcedpaaW.PrintWords Go.Proofs.YtahjcmmgdcedpaaW.PrintLast Go.Proofs.YtahjcmmgdcedpaaW.PrintMore
attribute [local go_sem] max2_int min2_int max_two min_two max_three min_three max_four min_four   -- for this text's walks alone
set_option linter.unusedVariables false
set_option linter.unusedSimpArgs false

/-! ### spec_l06From: function 83 -/
mutual
def spec_l06From.l0 : Nat → Int → List Int → List Int → Int → Int → List (S56) → List Int → Int → Int → Int → Int → Option (List Int × List Int × Int × Int × Int × Int × Int)
 | 0, _, _, _, _, _, _, _, _, _, _, _ => none
 | k + 1, x1, x6, x7, x8, x1000, x1001, x1002, x1003, x1004, x1005, x1006 => if x8 < x1000 then (if x8 = x1 then (if x6.length < 17592186044416 then (if x7.length < 17592186044416 then (spec_l06From.l0 k x1 (x6 ++ [0]) (x7 ++ [0]) (wrap64 (x8 + 1)) x1000 x1001 x1002 x1003 x1004 x1005 x1006) else (none)) else (none)) else (if x6.length < 17592186044416 then (if x7.length < 17592186044416 then (spec_l06From.l0 k x1 (x6 ++ [(-1)]) (x7 ++ [(-1)]) (wrap64 (x8 + 1)) x1000 x1001 x1002 x1003 x1004 x1005 x1006) else (none)) else (none))) else (spec_l06From.l1 k x6 x7 0 x1000 x1001 x1002 x1003 x1004 x1005 x1006)
def spec_l06From.l1 : Nat → List Int → List Int → Int → Int → List (S56) → List Int → Int → Int → Int → Int → Option (List Int × List Int × Int × Int × Int × Int × Int)
 | 0, _, _, _, _, _, _, _, _, _, _ => none
 | k + 1, x6, x7, x9, x1000, x1001, x1002, x1003, x1004, x1005, x1006 => if x9 < (x1001.length : Int) then (spec_l06From.l2 k x6 x7 x9 (-1) (-1) 0 x1000 x1001 x1002 x1003 x1004 x1005 x1006) else (some (x6, x7, x1000, x1003, x1004, x1005, x1006))
def spec_l06From.l2 : Nat → List Int → List Int → Int → Int → Int → Int → Int → List (S56) → List Int → Int → Int → Int → Int → Option (List Int × List Int × Int × Int × Int × Int × Int)
 | 0, _, _, _, _, _, _, _, _, _, _, _, _, _ => none
 | k + 1, x6, x7, x9, x10, x11, x12, x1000, x1001, x1002, x1003, x1004, x1005, x1006 => if 0 ≤ x9 then (if x9 < (x1001.length : Int) then (if x12 < (((rd_T56 x1001 x9).f2).length : Int) then (if 0 ≤ x12 then (if 0 ≤ (rd ((rd_T56 x1001 x9).f2) x12) then (if (rd ((rd_T56 x1001 x9).f2) x12) < (x7.length : Int) then (if (rd x7 (rd ((rd_T56 x1001 x9).f2) x12)) < 0 then (spec_l06From.l2 k x6 x7 x9 x10 x11 (wrap64 (x12 + 1)) x1000 x1001 x1002 x1003 x1004 x1005 x1006) else (if x10 < 0 then (if (rd ((rd_T56 x1001 x9).f2) x12) < (x6.length : Int) then ((spec_l00Max.f x11 (wrap64 ((rd x7 (rd ((rd_T56 x1001 x9).f2) x12)) + ((rd_T56 x1001 x9).f1)))).bind fun t672 => (spec_l06From.l2 k x6 x7 x9 (wrap64 ((rd x6 (rd ((rd_T56 x1001 x9).f2) x12)) + ((rd_T56 x1001 x9).f0))) t672 (wrap64 (x12 + 1)) x1000 x1001 x1002 x1003 x1004 x1005 x1006)) else (none)) else (if (rd ((rd_T56 x1001 x9).f2) x12) < (x6.length : Int) then (if (wrap64 ((rd x6 (rd ((rd_T56 x1001 x9).f2) x12)) + ((rd_T56 x1001 x9).f0))) < x10 then ((spec_l00Max.f x11 (wrap64 ((rd x7 (rd ((rd_T56 x1001 x9).f2) x12)) + ((rd_T56 x1001 x9).f1)))).bind fun t679 => (spec_l06From.l2 k x6 x7 x9 (wrap64 ((rd x6 (rd ((rd_T56 x1001 x9).f2) x12)) + ((rd_T56 x1001 x9).f0))) t679 (wrap64 (x12 + 1)) x1000 x1001 x1002 x1003 x1004 x1005 x1006)) else ((spec_l00Max.f x11 (wrap64 ((rd x7 (rd ((rd_T56 x1001 x9).f2) x12)) + ((rd_T56 x1001 x9).f1)))).bind fun t682 => (spec_l06From.l2 k x6 x7 x9 x10 t682 (wrap64 (x12 + 1)) x1000 x1001 x1002 x1003 x1004 x1005 x1006))) else (none)))) else (none)) else (none)) else (none)) else (if x6.length < 17592186044416 then (if x7.length < 17592186044416 then (spec_l06From.l1 k (x6 ++ [x10]) (x7 ++ [x11]) (wrap64 (x9 + 1)) x1000 x1001 x1002 x1003 x1004 x1005 x1006) else (none)) else (none))) else (none)) else (none)
end
def spec_l06From.f (k : Nat) (s0_0 : Int) (s0_1 : List (S56)) (s0_2 : List Int) (s0_3 : Int) (s0_4 : Int) (s0_5 : Int) (s0_6 : Int) (a1 : Int) : Option (List Int × List Int × Int × Int × Int × Int × Int) := spec_l06From.l0 k a1 (([] : List Int)) (([] : List Int)) 0 s0_0 s0_1 s0_2 s0_3 s0_4 s0_5 s0_6
set_option maxHeartbeats 8000000 in
set_option maxRecDepth 100000 in
theorem spec_l06From.calls (k : Nat) (g : Nat) (s0_0 : Int) (s0_1 : List (S56)) (s0_2 : List Int) (s0_3 : Int) (s0_4 : Int) (s0_5 : Int) (s0_6 : Int) (a1 : Int) (r1 : List Int) (r2 : List Int) (r3 : Int) (r4 : Int) (r5 : Int) (r6 : Int) (r7 : Int) (w0 w : World) (hI : IsS45 w0 w g s0_0 s0_1 s0_2 s0_3 s0_4 s0_5 s0_6) (hB : Below w0.heap.size w0 w) (h : spec_l06From.f k s0_0 s0_1 s0_2 s0_3 s0_4 s0_5 s0_6 a1 = some (r1, r2, r3, r4, r5, r6, r7)) :
  Calls Try.prog 83 #[.pointer (some ⟨g, 0, none⟩), .int .i64 a1] w fun e w' => ∃ v0_ v1_ : Value, e = .returned (.tuple #[v0_, v1_]) ∧ Kd.R (Kd.int .i64) 2 w' w.heap.size (fun k_ => some k_ ≠ (v1_ : Value).ownBlock) v0_ r1 ∧ Kd.R (Kd.int .i64) 2 w' w.heap.size (fun k_ => some k_ ≠ (v0_ : Value).ownBlock) v1_ r2 ∧ IsS45 w0 w' g r3 s0_1 s0_2 r4 r5 r6 r7 ∧ Below w0.heap.size w0 w' ∧ KeepBut w w' g none := by
 have HI0 := Aside0.mk hI
 have HK := Aside0.mk (KeepBut.refl w g none)
 have HL := Aside0.mk hB.size
 clear hI
 have HW0 := Aside0.mk hB.size
 have HB := Aside0.mk hB
 clear hB
 have H : (spec_l06From.l0 k a1 (([] : List Int)) (([] : List Int)) 0 s0_0 s0_1 s0_2 s0_3 s0_4 s0_5 s0_6) = some (r1, r2, r3, r4, r5, r6, r7) := h
 clear h
 obtain ⟨y640, hy640⟩ : ∃ y_ : List Int, y_ = (([] : List Int)) := ⟨_, rfl⟩
 replace H : (spec_l06From.l0 k a1 y640 (([] : List Int)) 0 s0_0 s0_1 s0_2 s0_3 s0_4 s0_5 s0_6) = some (r1, r2, r3, r4, r5, r6, r7) := by first | (rw [hy640]; with_reducible exact H) | (have H2_ := (Option.bind_some _ _).symm.trans H; rw [hy640]; with_reducible exact H2_) | (have H2_ := (Option.bind_some _ _).symm.trans H; with_reducible exact H2_) | with_reducible exact H | (rw [hy640]; exact H) | exact H
 have Ny640 := Aside0.mk hy640
 clear hy640
 obtain ⟨y643, hy643⟩ : ∃ y_ : List Int, y_ = (([] : List Int)) := ⟨_, rfl⟩
 replace H : (spec_l06From.l0 k a1 y640 y643 0 s0_0 s0_1 s0_2 s0_3 s0_4 s0_5 s0_6) = some (r1, r2, r3, r4, r5, r6, r7) := by first | (rw [hy643]; with_reducible exact H) | (have H2_ := (Option.bind_some _ _).symm.trans H; rw [hy643]; with_reducible exact H2_) | (have H2_ := (Option.bind_some _ _).symm.trans H; with_reducible exact H2_) | with_reducible exact H | (rw [hy643]; exact H) | exact H
 have Ny643 := Aside0.mk hy643
 clear hy643
 have H' := Aside0.mk H
 clear H
 go_enter Try.func83, Try.ntmps83
 go_wp2_with (first | ((with_reducible refine gate_dst (N := 14) rfl ?_); refine Kd.R_lit (Kd.int .i64) _ 2 ?hg (N := 14) ?hd (xs := ([] : List Int)) (inner := []) (ok := fun _ => True) (okp := fun _ => True) ?hr ?hp (fun _ hk => hk) trivial (Below.refl _ _) (Nat.le_refl _) (by simp) ?_; (case hd => rfl); (case hg => rfl); (case hr => first | (go_simp; done) | (go_simp; rfl)); (case hp => exact (Reps.none _ _)); intro v641 w3 ho4 hb hg_ hnew_; clear hg_ hnew_; (first | rw [← Ny640.out] at ho4 | (simp only [Int.reduceToNat] at ho4; rw [← Ny640.out] at ho4)); have n0_ := Aside0.mk (Kd.R_lower ho4 (keep_size (w := w) (g := g) (row := none) (by with_reducible repeat (first | exact HK.out | apply KeepBut.set_ | apply keep_drewN | apply keep_drew | apply keep_alloc)))); have n1_ := Aside0.mk (IsS45.below (by with_reducible repeat (first | exact HI0.out | apply IsS45.alloc | apply IsS45.drewN | apply IsS45.drew | apply IsS45.set_0 | apply IsS45.set_3 | apply IsS45.set_4 | apply IsS45.set_5 | apply IsS45.set_6)) hb); have n2_ := Aside0.mk (KeepBut.trans (by with_reducible repeat (first | exact HK.out | apply KeepBut.set_ | apply keep_drewN | apply keep_drew | apply keep_alloc)) (KeepBut.of_below hb g none) (.inl rfl)); have n3_ := Aside0.mk (below_step (by with_reducible repeat (first | exact HB.out | apply below_alloc | apply pw_below_drewN | apply below_drew1 | refine below_set ?_ (IsS45.ge HI0.out))) hb); clear HI0; clear HK; clear HB; have HO642 := n0_; have HI0 := n1_; have HK := n2_; have HB := n3_; clear n0_ n1_ n2_ n3_; clear hb ho4) | ((with_reducible refine gate_dst (N := 15) rfl ?_); refine Kd.R_lit (Kd.int .i64) _ 2 ?hg (N := 15) ?hd (xs := ([] : List Int)) (inner := []) (ok := fun _ => True) (okp := fun _ => True) ?hr ?hp (fun _ hk => hk) trivial (Below.refl _ _) (Nat.le_refl _) (by simp) ?_; (case hd => rfl); (case hg => rfl); (case hr => first | (go_simp; done) | (go_simp; rfl)); (case hp => exact (Reps.none _ _)); intro v644 w5 ho6 hb hg_ hnew_; clear hg_ hnew_; (first | rw [← Ny643.out] at ho6 | (simp only [Int.reduceToNat] at ho6; rw [← Ny643.out] at ho6)); have n0_ := Aside0.mk (Kd.R_elder' (by (with_reducible repeat (first | apply Kd.R_alloc | apply Kd.R_drewN | apply Kd.R_drew)); exact HO642.out) (Kd.R_base ho6) hb); have n1_ := Aside0.mk (Kd.R_lower (Kd.R_new' ho6 (Kd.R_lt (by (with_reducible repeat (first | apply Kd.R_alloc | apply Kd.R_drewN | apply Kd.R_drew)); exact HO642.out))) (keep_size (w := w) (g := g) (row := none) (by with_reducible repeat (first | exact HK.out | apply KeepBut.set_ | apply keep_drewN | apply keep_drew | apply keep_alloc)))); have n2_ := Aside0.mk (IsS45.below (by with_reducible repeat (first | exact HI0.out | apply IsS45.alloc | apply IsS45.drewN | apply IsS45.drew | apply IsS45.set_0 | apply IsS45.set_3 | apply IsS45.set_4 | apply IsS45.set_5 | apply IsS45.set_6)) hb); have n3_ := Aside0.mk (KeepBut.trans (by with_reducible repeat (first | exact HK.out | apply KeepBut.set_ | apply keep_drewN | apply keep_drew | apply keep_alloc)) (KeepBut.of_below hb g none) (.inl rfl)); have n4_ := Aside0.mk (below_step (by with_reducible repeat (first | exact HB.out | apply below_alloc | apply pw_below_drewN | apply below_drew1 | refine below_set ?_ (IsS45.ge HI0.out))) hb); clear HO642; clear HI0; clear HK; clear HB; have HO642 := n0_; have HO645 := n1_; have HI0 := n2_; have HK := n3_; have HB := n4_; clear n0_ n1_ n2_ n3_ n4_; clear hb ho6))
 repeat (go_quiet (fail); try go_wp2_with (fail))
 go_loopg [6, 7, 8] k (fun kq v6 v7 v8 w' => ∃ (x6_1 : List Int) (x7_1 : List Int) (x8_1 : Int), v8 = .int .i64 x8_1 ∧ Aside0 (spec_l06From.l0 kq a1 x6_1 x7_1 x8_1 s0_0 s0_1 s0_2 s0_3 s0_4 s0_5 s0_6 = some (r1, r2, r3, r4, r5, r6, r7)) ∧ Aside0 (kq ≤ k) ∧ Aside0 (Kd.R (Kd.int .i64) 2 w' w.heap.size (fun k_ => some k_ ≠ (v7 : Value).ownBlock) v6 x6_1) ∧ Aside0 (Kd.R (Kd.int .i64) 2 w' w.heap.size (fun k_ => some k_ ≠ (v6 : Value).ownBlock) v7 x7_1) ∧ Aside0 (IsS45 w0 w' g s0_0 s0_1 s0_2 s0_3 s0_4 s0_5 s0_6) ∧ Aside0 (KeepBut w w' g none) ∧ Aside0 (Below w0.heap.size w0 w'))
 case atStart => exact ⟨(y640), (y643), (0), (by first | rfl | (simp; done) | (simp [*]; done)), H', ⟨Nat.le_refl _⟩, ⟨by (with_reducible repeat (first | apply Kd.R_alloc | apply Kd.R_drewN | apply Kd.R_drew)); exact Kd.R_mono HO642.out (fun _ hk => hk.2)⟩, ⟨by (with_reducible repeat (first | apply Kd.R_alloc | apply Kd.R_drewN | apply Kd.R_drew)); exact Kd.R_mono HO645.out (fun _ hk => hk.2)⟩, ⟨by with_reducible repeat (first | exact HI0.out | apply IsS45.alloc | apply IsS45.drewN | apply IsS45.drew | apply IsS45.set_0 | apply IsS45.set_3 | apply IsS45.set_4 | apply IsS45.set_5 | apply IsS45.set_6)⟩, ⟨by with_reducible repeat (first | exact HK.out | apply KeepBut.set_ | apply keep_drewN | apply keep_drew | apply keep_alloc)⟩, ⟨by with_reducible repeat (first | exact HB.out | apply below_alloc | apply pw_below_drewN | apply below_drew1 | refine below_set ?_ (IsS45.ge HI0.out))⟩⟩
 case round =>
  clear H'
  try clear p2
  obtain ⟨x6_1, x7_1, x8_1, rfl, HA, HK1, HO_6, HO_7, HI0, HK, HB⟩ := hrel
  cases gk with
  | zero => exact absurd HA.out (by simp [spec_l06From.l0])
  | succ k1 =>
   have H := HA.out
   clear HA
   simp only [spec_l06From.l0] at H
   by_cases c7 : x8_1 < s0_0
   ·rw [if_pos c7] at H
    have c7b0 : decide (x8_1 < s0_0) = true := decide_eq_true c7
    clear c7
    by_cases c8 : x8_1 = a1
    ·rw [if_pos c8] at H
     have c8b0 : (x8_1 == a1) = true := beq_iff_eq.mpr c8
     have c8b1 : (x8_1 != a1) = false := bne_eq_false_iff_eq.mpr c8
     clear c8
     by_cases c9 : x6_1.length < 17592186044416
     case neg => rw [if_neg c9] at H; exact absurd H (by simp)
     rw [if_pos c9] at H
     have LMc9 := Aside0.mk c9
     clear c9
     obtain ⟨y646, hy646⟩ : ∃ y_ : List Int, y_ = (x6_1 ++ [0]) := ⟨_, rfl⟩
     replace H : (if x7_1.length < 17592186044416 then (spec_l06From.l0 k1 a1 y646 (x7_1 ++ [0]) (wrap64 (x8_1 + 1)) s0_0 s0_1 s0_2 s0_3 s0_4 s0_5 s0_6) else (none)) = some (r1, r2, r3, r4, r5, r6, r7) := by first | (rw [hy646]; with_reducible exact H) | (have H2_ := (Option.bind_some _ _).symm.trans H; rw [hy646]; with_reducible exact H2_) | (have H2_ := (Option.bind_some _ _).symm.trans H; with_reducible exact H2_) | with_reducible exact H | (rw [hy646]; exact H) | exact H
     have Ny646 := Aside0.mk hy646
     clear hy646
     by_cases c10 : x7_1.length < 17592186044416
     case neg => rw [if_neg c10] at H; exact absurd H (by simp)
     rw [if_pos c10] at H
     have LMc10 := Aside0.mk c10
     clear c10
     obtain ⟨y649, hy649⟩ : ∃ y_ : List Int, y_ = (x7_1 ++ [0]) := ⟨_, rfl⟩
     replace H : (spec_l06From.l0 k1 a1 y646 y649 (wrap64 (x8_1 + 1)) s0_0 s0_1 s0_2 s0_3 s0_4 s0_5 s0_6) = some (r1, r2, r3, r4, r5, r6, r7) := by first | (rw [hy649]; with_reducible exact H) | (have H2_ := (Option.bind_some _ _).symm.trans H; rw [hy649]; with_reducible exact H2_) | (have H2_ := (Option.bind_some _ _).symm.trans H; with_reducible exact H2_) | with_reducible exact H | (rw [hy649]; exact H) | exact H
     have Ny649 := Aside0.mk hy649
     clear hy649
     have H' := Aside0.mk H
     clear H
     obtain ⟨ASz11_1, cSz11_1, ASz11_2, cSz11_2, HGz11, hgz11, HSz11_1, HSz11_2⟩ := HI0.out
     have hcz11_0 := cellS45_0 HGz11
     have hcz11_1 := cellS45_1 HGz11
     have hcz11_2 := cellS45_2 HGz11
     have hcz11_3 := cellS45_3 HGz11
     have hcz11_4 := cellS45_4 HGz11
     have hcz11_5 := cellS45_5 HGz11
     have hcz11_6 := cellS45_6 HGz11
     have hfz11_0 := blk_frozen HGz11 0
     have hfz11_3 := blk_frozen HGz11 3
     have hfz11_4 := blk_frozen HGz11 4
     have hfz11_5 := blk_frozen HGz11 5
     have hfz11_6 := blk_frozen HGz11 6
     clear HGz11 hgz11
     go_wp2_with (first | ((with_reducible refine gate_builtin (b := .append) (xs := #[.tmp 27, .tmp 28]) rfl ?_); at_builtin; refine Kd.R_append (Kd.int .i64) w.heap.size rfl (.tmp 27) (.tmp 28) 28 2 (.int .i64 0) 8 rfl Try.underlying28 info2 rfl (by decide) (by omega) u6 x6_1 0 [.int .i64 0] (fun k_ => some k_ ≠ (u7 : Value).ownBlock) (fun _ => False) rfl rfl ?aP (fun _ hk => hk.elim) ?aF ?aO (Below.refl _ _) ?aS ?aL ?_; (case aP => exact rfl); (case aF => exact (fun k_ hk => Kd.fresh' (Kd.R_lt (by (with_reducible repeat (first | apply Kd.R_alloc | apply Kd.R_drewN | apply Kd.R_drew)); exact HO_7.out)) k_ hk)); (case aO => exact (by (with_reducible repeat (first | apply Kd.R_alloc | apply Kd.R_drewN | apply Kd.R_drew)); exact HO_6.out)); (case aS => exact (keep_size (w := w) (g := g) (row := none) (by with_reducible repeat (first | exact HK.out | apply KeepBut.set_ | apply keep_drewN | apply keep_drew | apply keep_alloc)))); (case aL => have := LMc9.out; omega); intro v647 w12 ho hb hg hat; rw [← Ny646.out] at ho; have n0_ := Aside0.mk (Kd.R_after (ok := (fun _ => True)) (by (with_reducible repeat (first | apply Kd.R_alloc | apply Kd.R_drewN | apply Kd.R_drew)); exact Kd.R_mono HO_7.out (fun _ hk => ⟨trivial, hk⟩)) hg hat); have n1_ := Aside0.mk (IsS45.grown (by with_reducible repeat (first | exact HI0.out | apply IsS45.alloc | apply IsS45.drewN | apply IsS45.drew | apply IsS45.set_0 | apply IsS45.set_3 | apply IsS45.set_4 | apply IsS45.set_5 | apply IsS45.set_6)) hg (IsS45.own_ne HI0.out HO_6.out (by decide))); have n2_ := Aside0.mk (below_weaken (by with_reducible repeat (first | exact HB.out | apply below_alloc | apply pw_below_drewN | apply below_drew1 | refine below_set ?_ (IsS45.ge HI0.out))) HL.out hb); have n3_ := Aside0.mk (KeepBut.trans (by with_reducible repeat (first | exact HK.out | apply KeepBut.set_ | apply keep_drewN | apply keep_drew | apply keep_alloc)) (KeepBut.of_grown hg g) (Kd.R_base2 HO_6.out)); have n4_ := Aside0.mk (ho); clear HO_7; clear HI0; clear HB; clear HK; clear HO_6; have HO_7 := n0_; have HI0 := n1_; have HB := n2_; have HK := n3_; have HO648 := n4_; clear n0_ n1_ n2_ n3_ n4_; clear ho hb hg hat) | ((with_reducible refine gate_builtin (b := .append) (xs := #[.tmp 30, .tmp 31]) rfl ?_); at_builtin; refine Kd.R_append (Kd.int .i64) w.heap.size rfl (.tmp 30) (.tmp 31) 28 2 (.int .i64 0) 8 rfl Try.underlying28 info2 rfl (by decide) (by omega) u7 x7_1 0 [.int .i64 0] (fun k_ => some k_ ≠ (v647 : Value).ownBlock) (fun _ => False) rfl rfl ?aP (fun _ hk => hk.elim) ?aF ?aO (Below.refl _ _) ?aS ?aL ?_; (case aP => exact rfl); (case aF => exact (fun k_ hk => Kd.fresh' (Kd.R_lt (by (with_reducible repeat (first | apply Kd.R_alloc | apply Kd.R_drewN | apply Kd.R_drew)); exact HO648.out)) k_ hk)); (case aO => exact (by (with_reducible repeat (first | apply Kd.R_alloc | apply Kd.R_drewN | apply Kd.R_drew)); exact Kd.R_mono HO_7.out (fun _ hk => hk.2))); (case aS => exact (keep_size (w := w) (g := g) (row := none) (by with_reducible repeat (first | exact HK.out | apply KeepBut.set_ | apply keep_drewN | apply keep_drew | apply keep_alloc)))); (case aL => have := LMc10.out; omega); intro v650 w13 ho hb hg hat; rw [← Ny649.out] at ho; have n0_ := Aside0.mk (IsS45.grown (by with_reducible repeat (first | exact HI0.out | apply IsS45.alloc | apply IsS45.drewN | apply IsS45.drew | apply IsS45.set_0 | apply IsS45.set_3 | apply IsS45.set_4 | apply IsS45.set_5 | apply IsS45.set_6)) hg (IsS45.own_ne HI0.out HO_7.out (by decide))); have n1_ := Aside0.mk (Kd.R_after (ok := (fun _ => True)) (by (with_reducible repeat (first | apply Kd.R_alloc | apply Kd.R_drewN | apply Kd.R_drew)); exact Kd.R_mono HO648.out (fun _ hk => ⟨trivial, hk⟩)) hg hat); have n2_ := Aside0.mk (below_weaken (by with_reducible repeat (first | exact HB.out | apply below_alloc | apply pw_below_drewN | apply below_drew1 | refine below_set ?_ (IsS45.ge HI0.out))) HL.out hb); have n3_ := Aside0.mk (KeepBut.trans (by with_reducible repeat (first | exact HK.out | apply KeepBut.set_ | apply keep_drewN | apply keep_drew | apply keep_alloc)) (KeepBut.of_grown hg g) (Kd.R_base2 HO_7.out)); have n4_ := Aside0.mk (ho); clear HI0; clear HO648; clear HB; clear HK; clear HO_7; have HI0 := n0_; have HO648 := n1_; have HB := n2_; have HK := n3_; have HO651 := n4_; clear n0_ n1_ n2_ n3_ n4_; clear ho hb hg hat))
     repeat (go_quiet (fail); try go_wp2_with (fail))
     go_roundg k1
     case measure => have := HK1.out; omega
     case rel => exact ⟨(y646), (y649), (wrap64 (x8_1 + 1)), (by first | rfl | (simp; done) | (simp [*]; done)), H', ⟨by have := HK1.out; omega⟩, ⟨by (with_reducible repeat (first | apply Kd.R_alloc | apply Kd.R_drewN | apply Kd.R_drew)); exact Kd.R_mono HO648.out (fun _ hk => hk.2)⟩, ⟨by (with_reducible repeat (first | apply Kd.R_alloc | apply Kd.R_drewN | apply Kd.R_drew)); exact HO651.out⟩, ⟨by with_reducible repeat (first | exact HI0.out | apply IsS45.alloc | apply IsS45.drewN | apply IsS45.drew | apply IsS45.set_0 | apply IsS45.set_3 | apply IsS45.set_4 | apply IsS45.set_5 | apply IsS45.set_6)⟩, ⟨by with_reducible repeat (first | exact HK.out | apply KeepBut.set_ | apply keep_drewN | apply keep_drew | apply keep_alloc)⟩, ⟨by with_reducible repeat (first | exact HB.out | apply below_alloc | apply pw_below_drewN | apply below_drew1 | refine below_set ?_ (IsS45.ge HI0.out))⟩⟩
    ·rw [if_neg c8] at H
     have c8b0 : (x8_1 == a1) = false := beq_eq_false_iff_ne.mpr c8
     have c8b1 : (x8_1 != a1) = true := bne_iff_ne.mpr c8
     by_cases c14 : x6_1.length < 17592186044416
     case neg => rw [if_neg c14] at H; exact absurd H (by simp)
     rw [if_pos c14] at H
     have LMc14 := Aside0.mk c14
     clear c14
     obtain ⟨y652, hy652⟩ : ∃ y_ : List Int, y_ = (x6_1 ++ [(-1)]) := ⟨_, rfl⟩
     replace H : (if x7_1.length < 17592186044416 then (spec_l06From.l0 k1 a1 y652 (x7_1 ++ [(-1)]) (wrap64 (x8_1 + 1)) s0_0 s0_1 s0_2 s0_3 s0_4 s0_5 s0_6) else (none)) = some (r1, r2, r3, r4, r5, r6, r7) := by first | (rw [hy652]; with_reducible exact H) | (have H2_ := (Option.bind_some _ _).symm.trans H; rw [hy652]; with_reducible exact H2_) | (have H2_ := (Option.bind_some _ _).symm.trans H; with_reducible exact H2_) | with_reducible exact H | (rw [hy652]; exact H) | exact H
     have Ny652 := Aside0.mk hy652
     clear hy652
     by_cases c15 : x7_1.length < 17592186044416
     case neg => rw [if_neg c15] at H; exact absurd H (by simp)
     rw [if_pos c15] at H
     have LMc15 := Aside0.mk c15
     clear c15
     obtain ⟨y655, hy655⟩ : ∃ y_ : List Int, y_ = (x7_1 ++ [(-1)]) := ⟨_, rfl⟩
     replace H : (spec_l06From.l0 k1 a1 y652 y655 (wrap64 (x8_1 + 1)) s0_0 s0_1 s0_2 s0_3 s0_4 s0_5 s0_6) = some (r1, r2, r3, r4, r5, r6, r7) := by first | (rw [hy655]; with_reducible exact H) | (have H2_ := (Option.bind_some _ _).symm.trans H; rw [hy655]; with_reducible exact H2_) | (have H2_ := (Option.bind_some _ _).symm.trans H; with_reducible exact H2_) | with_reducible exact H | (rw [hy655]; exact H) | exact H
     have Ny655 := Aside0.mk hy655
     clear hy655
     have H' := Aside0.mk H
     clear H
     obtain ⟨ASz16_1, cSz16_1, ASz16_2, cSz16_2, HGz16, hgz16, HSz16_1, HSz16_2⟩ := HI0.out
     have hcz16_0 := cellS45_0 HGz16
     have hcz16_1 := cellS45_1 HGz16
     have hcz16_2 := cellS45_2 HGz16
     have hcz16_3 := cellS45_3 HGz16
     have hcz16_4 := cellS45_4 HGz16
     have hcz16_5 := cellS45_5 HGz16
     have hcz16_6 := cellS45_6 HGz16
     have hfz16_0 := blk_frozen HGz16 0
     have hfz16_3 := blk_frozen HGz16 3
     have hfz16_4 := blk_frozen HGz16 4
     have hfz16_5 := blk_frozen HGz16 5
     have hfz16_6 := blk_frozen HGz16 6
     clear HGz16 hgz16
     go_wp2_with (first | ((with_reducible refine gate_builtin (b := .append) (xs := #[.tmp 33, .tmp 34]) rfl ?_); at_builtin; refine Kd.R_append (Kd.int .i64) w.heap.size rfl (.tmp 33) (.tmp 34) 28 2 (.int .i64 0) 8 rfl Try.underlying28 info2 rfl (by decide) (by omega) u6 x6_1 (-1) [.int .i64 (-1)] (fun k_ => some k_ ≠ (u7 : Value).ownBlock) (fun _ => False) rfl rfl ?aP (fun _ hk => hk.elim) ?aF ?aO (Below.refl _ _) ?aS ?aL ?_; (case aP => exact rfl); (case aF => exact (fun k_ hk => Kd.fresh' (Kd.R_lt (by (with_reducible repeat (first | apply Kd.R_alloc | apply Kd.R_drewN | apply Kd.R_drew)); exact HO_7.out)) k_ hk)); (case aO => exact (by (with_reducible repeat (first | apply Kd.R_alloc | apply Kd.R_drewN | apply Kd.R_drew)); exact HO_6.out)); (case aS => exact (keep_size (w := w) (g := g) (row := none) (by with_reducible repeat (first | exact HK.out | apply KeepBut.set_ | apply keep_drewN | apply keep_drew | apply keep_alloc)))); (case aL => have := LMc14.out; omega); intro v653 w17 ho hb hg hat; rw [← Ny652.out] at ho; have n0_ := Aside0.mk (Kd.R_after (ok := (fun _ => True)) (by (with_reducible repeat (first | apply Kd.R_alloc | apply Kd.R_drewN | apply Kd.R_drew)); exact Kd.R_mono HO_7.out (fun _ hk => ⟨trivial, hk⟩)) hg hat); have n1_ := Aside0.mk (IsS45.grown (by with_reducible repeat (first | exact HI0.out | apply IsS45.alloc | apply IsS45.drewN | apply IsS45.drew | apply IsS45.set_0 | apply IsS45.set_3 | apply IsS45.set_4 | apply IsS45.set_5 | apply IsS45.set_6)) hg (IsS45.own_ne HI0.out HO_6.out (by decide))); have n2_ := Aside0.mk (below_weaken (by with_reducible repeat (first | exact HB.out | apply below_alloc | apply pw_below_drewN | apply below_drew1 | refine below_set ?_ (IsS45.ge HI0.out))) HL.out hb); have n3_ := Aside0.mk (KeepBut.trans (by with_reducible repeat (first | exact HK.out | apply KeepBut.set_ | apply keep_drewN | apply keep_drew | apply keep_alloc)) (KeepBut.of_grown hg g) (Kd.R_base2 HO_6.out)); have n4_ := Aside0.mk (ho); clear HO_7; clear HI0; clear HB; clear HK; clear HO_6; have HO_7 := n0_; have HI0 := n1_; have HB := n2_; have HK := n3_; have HO654 := n4_; clear n0_ n1_ n2_ n3_ n4_; clear ho hb hg hat) | ((with_reducible refine gate_builtin (b := .append) (xs := #[.tmp 36, .tmp 37]) rfl ?_); at_builtin; refine Kd.R_append (Kd.int .i64) w.heap.size rfl (.tmp 36) (.tmp 37) 28 2 (.int .i64 0) 8 rfl Try.underlying28 info2 rfl (by decide) (by omega) u7 x7_1 (-1) [.int .i64 (-1)] (fun k_ => some k_ ≠ (v653 : Value).ownBlock) (fun _ => False) rfl rfl ?aP (fun _ hk => hk.elim) ?aF ?aO (Below.refl _ _) ?aS ?aL ?_; (case aP => exact rfl); (case aF => exact (fun k_ hk => Kd.fresh' (Kd.R_lt (by (with_reducible repeat (first | apply Kd.R_alloc | apply Kd.R_drewN | apply Kd.R_drew)); exact HO654.out)) k_ hk)); (case aO => exact (by (with_reducible repeat (first | apply Kd.R_alloc | apply Kd.R_drewN | apply Kd.R_drew)); exact Kd.R_mono HO_7.out (fun _ hk => hk.2))); (case aS => exact (keep_size (w := w) (g := g) (row := none) (by with_reducible repeat (first | exact HK.out | apply KeepBut.set_ | apply keep_drewN | apply keep_drew | apply keep_alloc)))); (case aL => have := LMc15.out; omega); intro v656 w18 ho hb hg hat; rw [← Ny655.out] at ho; have n0_ := Aside0.mk (IsS45.grown (by with_reducible repeat (first | exact HI0.out | apply IsS45.alloc | apply IsS45.drewN | apply IsS45.drew | apply IsS45.set_0 | apply IsS45.set_3 | apply IsS45.set_4 | apply IsS45.set_5 | apply IsS45.set_6)) hg (IsS45.own_ne HI0.out HO_7.out (by decide))); have n1_ := Aside0.mk (Kd.R_after (ok := (fun _ => True)) (by (with_reducible repeat (first | apply Kd.R_alloc | apply Kd.R_drewN | apply Kd.R_drew)); exact Kd.R_mono HO654.out (fun _ hk => ⟨trivial, hk⟩)) hg hat); have n2_ := Aside0.mk (below_weaken (by with_reducible repeat (first | exact HB.out | apply below_alloc | apply pw_below_drewN | apply below_drew1 | refine below_set ?_ (IsS45.ge HI0.out))) HL.out hb); have n3_ := Aside0.mk (KeepBut.trans (by with_reducible repeat (first | exact HK.out | apply KeepBut.set_ | apply keep_drewN | apply keep_drew | apply keep_alloc)) (KeepBut.of_grown hg g) (Kd.R_base2 HO_7.out)); have n4_ := Aside0.mk (ho); clear HI0; clear HO654; clear HB; clear HK; clear HO_7; have HI0 := n0_; have HO654 := n1_; have HB := n2_; have HK := n3_; have HO657 := n4_; clear n0_ n1_ n2_ n3_ n4_; clear ho hb hg hat))
     repeat (go_quiet (fail); try go_wp2_with (fail))
     go_roundg k1
     case measure => have := HK1.out; omega
     case rel => exact ⟨(y652), (y655), (wrap64 (x8_1 + 1)), (by first | rfl | (simp; done) | (simp [*]; done)), H', ⟨by have := HK1.out; omega⟩, ⟨by (with_reducible repeat (first | apply Kd.R_alloc | apply Kd.R_drewN | apply Kd.R_drew)); exact Kd.R_mono HO654.out (fun _ hk => hk.2)⟩, ⟨by (with_reducible repeat (first | apply Kd.R_alloc | apply Kd.R_drewN | apply Kd.R_drew)); exact HO657.out⟩, ⟨by with_reducible repeat (first | exact HI0.out | apply IsS45.alloc | apply IsS45.drewN | apply IsS45.drew | apply IsS45.set_0 | apply IsS45.set_3 | apply IsS45.set_4 | apply IsS45.set_5 | apply IsS45.set_6)⟩, ⟨by with_reducible repeat (first | exact HK.out | apply KeepBut.set_ | apply keep_drewN | apply keep_drew | apply keep_alloc)⟩, ⟨by with_reducible repeat (first | exact HB.out | apply below_alloc | apply pw_below_drewN | apply below_drew1 | refine below_set ?_ (IsS45.ge HI0.out))⟩⟩
   ·rw [if_neg c7] at H
    have c7b0 : decide (x8_1 < s0_0) = false := decide_eq_false c7
    clear c7
    have H' := Aside0.mk H
    clear H
    obtain ⟨ASz19_1, cSz19_1, ASz19_2, cSz19_2, HGz19, hgz19, HSz19_1, HSz19_2⟩ := HI0.out
    have hcz19_0 := cellS45_0 HGz19
    have hcz19_1 := cellS45_1 HGz19
    have hcz19_2 := cellS45_2 HGz19
    have hcz19_3 := cellS45_3 HGz19
    have hcz19_4 := cellS45_4 HGz19
    have hcz19_5 := cellS45_5 HGz19
    have hcz19_6 := cellS45_6 HGz19
    have hfz19_0 := blk_frozen HGz19 0
    have hfz19_3 := blk_frozen HGz19 3
    have hfz19_4 := blk_frozen HGz19 4
    have hfz19_5 := blk_frozen HGz19 5
    have hfz19_6 := blk_frozen HGz19 6
    clear HGz19 hgz19
    go_wp2
    repeat (go_quiet (fail); try go_wp2)
    go_loopg [6, 7, 9] k1 (fun kq v6 v7 v9 w' => ∃ (x6_2 : List Int) (x7_2 : List Int) (x9_2 : Int), v9 = .int .i64 x9_2 ∧ Aside0 (spec_l06From.l1 kq x6_2 x7_2 x9_2 s0_0 s0_1 s0_2 s0_3 s0_4 s0_5 s0_6 = some (r1, r2, r3, r4, r5, r6, r7)) ∧ Aside0 (kq ≤ k1) ∧ Aside0 (Kd.R (Kd.int .i64) 2 w' w.heap.size (fun k_ => some k_ ≠ (v7 : Value).ownBlock) v6 x6_2) ∧ Aside0 (Kd.R (Kd.int .i64) 2 w' w.heap.size (fun k_ => some k_ ≠ (v6 : Value).ownBlock) v7 x7_2) ∧ Aside0 (IsS45 w0 w' g s0_0 s0_1 s0_2 s0_3 s0_4 s0_5 s0_6) ∧ Aside0 (KeepBut w w' g none) ∧ Aside0 (Below w0.heap.size w0 w'))
    case atStart => exact ⟨(x6_1), (x7_1), (0), (by first | rfl | (simp; done) | (simp [*]; done)), H', ⟨Nat.le_refl _⟩, ⟨by (with_reducible repeat (first | apply Kd.R_alloc | apply Kd.R_drewN | apply Kd.R_drew)); exact HO_6.out⟩, ⟨by (with_reducible repeat (first | apply Kd.R_alloc | apply Kd.R_drewN | apply Kd.R_drew)); exact HO_7.out⟩, ⟨by with_reducible repeat (first | exact HI0.out | apply IsS45.alloc | apply IsS45.drewN | apply IsS45.drew | apply IsS45.set_0 | apply IsS45.set_3 | apply IsS45.set_4 | apply IsS45.set_5 | apply IsS45.set_6)⟩, ⟨by with_reducible repeat (first | exact HK.out | apply KeepBut.set_ | apply keep_drewN | apply keep_drew | apply keep_alloc)⟩, ⟨by with_reducible repeat (first | exact HB.out | apply below_alloc | apply pw_below_drewN | apply below_drew1 | refine below_set ?_ (IsS45.ge HI0.out))⟩⟩
    case round =>
     clear H'
     try clear c1
     try clear p2
     try clear p6
     try clear c7
     try clear c7b0
     try clear c8
     try clear c8b0
     try clear c8b1
     try clear c9
     try clear c10
     try clear c14
     try clear c15
     try clear hcz11_0
     try clear hcz11_1
     try clear hcz11_2
     try clear hcz11_3
     try clear hcz11_4
     try clear hcz11_5
     try clear hcz11_6
     try clear hcz16_0
     try clear hcz16_1
     try clear hcz16_2
     try clear hcz16_3
     try clear hcz16_4
     try clear hcz16_5
     try clear hcz16_6
     try clear hcz19_0
     try clear hcz19_1
     try clear hcz19_2
     try clear hcz19_3
     try clear hcz19_4
     try clear hcz19_5
     try clear hcz19_6
     try clear hfz11_0
     try clear hfz11_3
     try clear hfz11_4
     try clear hfz11_5
     try clear hfz11_6
     try clear hfz16_0
     try clear hfz16_3
     try clear hfz16_4
     try clear hfz16_5
     try clear hfz16_6
     try clear hfz19_0
     try clear hfz19_3
     try clear hfz19_4
     try clear hfz19_5
     try clear hfz19_6
     try clear p2
     obtain ⟨x6_2, x7_2, x9_2, rfl, HA, HK2, HO_6, HO_7, HI0, HK, HB⟩ := hrel
     cases gk with
     | zero => exact absurd HA.out (by simp [spec_l06From.l1])
     | succ k2 =>
      have H := HA.out
      clear HA
      simp only [spec_l06From.l1] at H
      by_cases c20 : x9_2 < (s0_1.length : Int)
      ·rw [if_pos c20] at H
       have c20b0 : decide (x9_2 < (s0_1.length : Int)) = true := decide_eq_true c20
       clear c20
       have H' := Aside0.mk H
       clear H
       obtain ⟨ASz21_1, cSz21_1, ASz21_2, cSz21_2, HGz21, hgz21, HSz21_1, HSz21_2⟩ := HI0.out
       have hcz21_0 := cellS45_0 HGz21
       have hcz21_1 := cellS45_1 HGz21
       have hcz21_2 := cellS45_2 HGz21
       have hcz21_3 := cellS45_3 HGz21
       have hcz21_4 := cellS45_4 HGz21
       have hcz21_5 := cellS45_5 HGz21
       have hcz21_6 := cellS45_6 HGz21
       have hfz21_0 := blk_frozen HGz21 0
       have hfz21_3 := blk_frozen HGz21 3
       have hfz21_4 := blk_frozen HGz21 4
       have hfz21_5 := blk_frozen HGz21 5
       have hfz21_6 := blk_frozen HGz21 6
       clear HGz21 hgz21
       go_wp2
       repeat (go_quiet (fail); try go_wp2)
       go_loopg [10, 11, 12] k2 (fun kq v10 v11 v12 w' => ∃ (x10_3 : Int) (x11_3 : Int) (x12_3 : Int), v10 = .int .i64 x10_3 ∧ v11 = .int .i64 x11_3 ∧ v12 = .int .i64 x12_3 ∧ Aside0 (spec_l06From.l2 kq x6_2 x7_2 x9_2 x10_3 x11_3 x12_3 s0_0 s0_1 s0_2 s0_3 s0_4 s0_5 s0_6 = some (r1, r2, r3, r4, r5, r6, r7)) ∧ Aside0 (kq ≤ k2) ∧ Aside0 (Kd.R (Kd.int .i64) 2 w' w.heap.size (fun k_ => some k_ ≠ (u7 : Value).ownBlock) u6 x6_2) ∧ Aside0 (Kd.R (Kd.int .i64) 2 w' w.heap.size (fun k_ => some k_ ≠ (u6 : Value).ownBlock) u7 x7_2) ∧ Aside0 (IsS45 w0 w' g s0_0 s0_1 s0_2 s0_3 s0_4 s0_5 s0_6) ∧ Aside0 (KeepBut w w' g none) ∧ Aside0 (Below w0.heap.size w0 w'))
       case atStart => exact ⟨((-1)), ((-1)), (0), (by first | rfl | (simp; done) | (simp [*]; done)), (by first | rfl | (simp; done) | (simp [*]; done)), (by first | rfl | (simp; done) | (simp [*]; done)), H', ⟨Nat.le_refl _⟩, ⟨by (with_reducible repeat (first | apply Kd.R_alloc | apply Kd.R_drewN | apply Kd.R_drew)); exact HO_6.out⟩, ⟨by (with_reducible repeat (first | apply Kd.R_alloc | apply Kd.R_drewN | apply Kd.R_drew)); exact HO_7.out⟩, ⟨by with_reducible repeat (first | exact HI0.out | apply IsS45.alloc | apply IsS45.drewN | apply IsS45.drew | apply IsS45.set_0 | apply IsS45.set_3 | apply IsS45.set_4 | apply IsS45.set_5 | apply IsS45.set_6)⟩, ⟨by with_reducible repeat (first | exact HK.out | apply KeepBut.set_ | apply keep_drewN | apply keep_drew | apply keep_alloc)⟩, ⟨by with_reducible repeat (first | exact HB.out | apply below_alloc | apply pw_below_drewN | apply below_drew1 | refine below_set ?_ (IsS45.ge HI0.out))⟩⟩
       case round =>
        clear H'
        try clear c1
        try clear c2
        try clear p2
        try clear p6
        try clear c7
        try clear c7b0
        try clear c8
        try clear c8b0
        try clear c8b1
        try clear c9
        try clear c10
        try clear c14
        try clear c15
        try clear c20
        try clear c20b0
        try clear hcz11_0
        try clear hcz11_1
        try clear hcz11_2
        try clear hcz11_3
        try clear hcz11_4
        try clear hcz11_5
        try clear hcz11_6
        try clear hcz16_0
        try clear hcz16_1
        try clear hcz16_2
        try clear hcz16_3
        try clear hcz16_4
        try clear hcz16_5
        try clear hcz16_6
        try clear hcz19_0
        try clear hcz19_1
        try clear hcz19_2
        try clear hcz19_3
        try clear hcz19_4
        try clear hcz19_5
        try clear hcz19_6
        try clear hcz21_0
        try clear hcz21_1
        try clear hcz21_2
        try clear hcz21_3
        try clear hcz21_4
        try clear hcz21_5
        try clear hcz21_6
        try clear hfz11_0
        try clear hfz11_3
        try clear hfz11_4
        try clear hfz11_5
        try clear hfz11_6
        try clear hfz16_0
        try clear hfz16_3
        try clear hfz16_4
        try clear hfz16_5
        try clear hfz16_6
        try clear hfz19_0
        try clear hfz19_3
        try clear hfz19_4
        try clear hfz19_5
        try clear hfz19_6
        try clear hfz21_0
        try clear hfz21_3
        try clear hfz21_4
        try clear hfz21_5
        try clear hfz21_6
        try clear p2
        try clear p6
        obtain ⟨x10_3, x11_3, x12_3, rfl, rfl, rfl, HA, HK3, HO_6, HO_7, HI0, HK, HB⟩ := hrel
        cases gk with
        | zero => exact absurd HA.out (by simp [spec_l06From.l2])
        | succ k3 =>
         have H := HA.out
         clear HA
         simp only [spec_l06From.l2] at H
         by_cases c22 : 0 ≤ x9_2
         case neg => rw [if_neg c22] at H; exact absurd H (by simp)
         rw [if_pos c22] at H
         have c22b0 : decide (0 ≤ x9_2) = true := decide_eq_true c22
         clear c22
         by_cases c23 : x9_2 < (s0_1.length : Int)
         case neg => rw [if_neg c23] at H; exact absurd H (by simp)
         rw [if_pos c23] at H
         have c23b0 : decide (x9_2 < (s0_1.length : Int)) = true := decide_eq_true c23
         clear c23
         by_cases c24 : x12_3 < (((rd_T56 s0_1 x9_2).f2).length : Int)
         ·rw [if_pos c24] at H
          have c24b0 : decide (x12_3 < (((rd_T56 s0_1 x9_2).f2).length : Int)) = true := decide_eq_true c24
          clear c24
          by_cases c25 : 0 ≤ x12_3
          case neg => rw [if_neg c25] at H; exact absurd H (by simp)
          rw [if_pos c25] at H
          have c25b0 : decide (0 ≤ x12_3) = true := decide_eq_true c25
          clear c25
          by_cases c26 : 0 ≤ (rd ((rd_T56 s0_1 x9_2).f2) x12_3)
          case neg => rw [if_neg c26] at H; exact absurd H (by simp)
          rw [if_pos c26] at H
          have c26b0 : decide (0 ≤ (rd ((rd_T56 s0_1 x9_2).f2) x12_3)) = true := decide_eq_true c26
          clear c26
          by_cases c27 : (rd ((rd_T56 s0_1 x9_2).f2) x12_3) < (x7_2.length : Int)
          case neg => rw [if_neg c27] at H; exact absurd H (by simp)
          rw [if_pos c27] at H
          have c27b0 : decide ((rd ((rd_T56 s0_1 x9_2).f2) x12_3) < (x7_2.length : Int)) = true := decide_eq_true c27
          clear c27
          by_cases c28 : (rd x7_2 (rd ((rd_T56 s0_1 x9_2).f2) x12_3)) < 0
          ·rw [if_pos c28] at H
           have c28b0 : decide ((rd x7_2 (rd ((rd_T56 s0_1 x9_2).f2) x12_3)) < 0) = true := decide_eq_true c28
           clear c28
           have H' := Aside0.mk H
           clear H
           obtain ⟨ASz29_1, cSz29_1, ASz29_2, cSz29_2, HGz29, hgz29, HSz29_1, HSz29_2⟩ := HI0.out
           have hcz29_0 := cellS45_0 HGz29
           have hcz29_1 := cellS45_1 HGz29
           have hcz29_2 := cellS45_2 HGz29
           have hcz29_3 := cellS45_3 HGz29
           have hcz29_4 := cellS45_4 HGz29
           have hcz29_5 := cellS45_5 HGz29
           have hcz29_6 := cellS45_6 HGz29
           have hfz29_0 := blk_frozen HGz29 0
           have hfz29_3 := blk_frozen HGz29 3
           have hfz29_4 := blk_frozen HGz29 4
           have hfz29_5 := blk_frozen HGz29 5
           have hfz29_6 := blk_frozen HGz29 6
           clear HGz29 hgz29
           have p658 : 0 ≤ (x9_2 : Int) := of_decide_eq_true (by with_reducible assumption)
           have q658 : x9_2 < (s0_1.length : Int) := of_decide_eq_true (by with_reducible assumption)
           obtain ⟨ad658, A658_2, c658_2, e658, hx658_0, hx658_1, hx658_2, hl658_2, hi658_2⟩ := at_T56 HSz29_1 x9_2 p658 q658
           cases e658
           replace hx658_0 := pw_cell_below HB.out hx658_0
           replace hx658_1 := pw_cell_below HB.out hx658_1
           replace hx658_2 := pw_cell_below HB.out hx658_2
           have HR658_2 := Aside0.mk hi658_2
           have HC658_2 := Aside0.mk hl658_2
           clear hi658_2 hl658_2
           replace p658 := eq_true p658
           replace q658 := eq_true q658
           have p665 : 0 ≤ (x9_2 : Int) := of_decide_eq_true (by with_reducible assumption)
           have q665 : x9_2 < (s0_1.length : Int) := of_decide_eq_true (by with_reducible assumption)
           obtain ⟨ad665, A665_2, c665_2, e665, hx665_0, hx665_1, hx665_2, hl665_2, hi665_2⟩ := at_T56 HSz29_1 x9_2 p665 q665
           obtain rfl : ad658 = ad665 := (by injection e665)
           replace hx665_0 := pw_cell_below HB.out hx665_0
           replace hx665_1 := pw_cell_below HB.out hx665_1
           replace hx665_2 := pw_cell_below HB.out hx665_2
           (try (have ea_ := Option.some.inj (hx658_2.symm.trans hx665_2); injection ea_ with ea_ en_ ec_; subst ea_; subst ec_; clear en_))
           have HR665_2 := Aside0.mk hi665_2
           have HC665_2 := Aside0.mk hl665_2
           clear hi665_2 hl665_2
           replace p665 := eq_true p665
           replace q665 := eq_true q665
           have p666 : 0 ≤ (x12_3 : Int) := of_decide_eq_true (by with_reducible assumption)
           have q666 : x12_3 < (((rd_T56 s0_1 x9_2).f2).length : Int) := of_decide_eq_true (by with_reducible assumption)
           obtain ⟨ad666, e666, hx666_0⟩ := Kd.at_int HR665_2.out x12_3 p666 q666
           cases e666
           replace hx666_0 := pw_cell_below HB.out hx666_0
           replace p666 := eq_true p666
           replace q666 := eq_true q666
           obtain ⟨Ao30, co30, eo30⟩ := Kd.R_slice HO_7.out
           subst eo30
           have p667 : 0 ≤ ((rd ((rd_T56 s0_1 x9_2).f2) x12_3) : Int) := of_decide_eq_true (by with_reducible assumption)
           have q667 : (rd ((rd_T56 s0_1 x9_2).f2) x12_3) < (x7_2.length : Int) := of_decide_eq_true (by with_reducible assumption)
           obtain ⟨ad667, e667, hx667_0⟩ := Kd.at_int (Kd.R_reads' HO_7.out).2.2 (rd ((rd_T56 s0_1 x9_2).f2) x12_3) p667 q667
           cases e667
           replace p667 := eq_true p667
           replace q667 := eq_true q667
           go_wp2
           repeat (go_quiet (fail); try go_wp2)
           go_roundg k3
           case measure => have := HK1.out; have := HK2.out; have := HK3.out; omega
           case rel => exact ⟨(x10_3), (x11_3), (wrap64 (x12_3 + 1)), (by first | rfl | (simp; done) | (simp [*]; done)), (by first | rfl | (simp; done) | (simp [*]; done)), (by first | rfl | (simp; done) | (simp [*]; done)), H', ⟨by have := HK1.out; have := HK2.out; have := HK3.out; omega⟩, ⟨by (with_reducible repeat (first | apply Kd.R_alloc | apply Kd.R_drewN | apply Kd.R_drew)); exact HO_6.out⟩, ⟨by (with_reducible repeat (first | apply Kd.R_alloc | apply Kd.R_drewN | apply Kd.R_drew)); exact HO_7.out⟩, ⟨by with_reducible repeat (first | exact HI0.out | apply IsS45.alloc | apply IsS45.drewN | apply IsS45.drew | apply IsS45.set_0 | apply IsS45.set_3 | apply IsS45.set_4 | apply IsS45.set_5 | apply IsS45.set_6)⟩, ⟨by with_reducible repeat (first | exact HK.out | apply KeepBut.set_ | apply keep_drewN | apply keep_drew | apply keep_alloc)⟩, ⟨by with_reducible repeat (first | exact HB.out | apply below_alloc | apply pw_below_drewN | apply below_drew1 | refine below_set ?_ (IsS45.ge HI0.out))⟩⟩
          ·rw [if_neg c28] at H
           have c28b0 : decide ((rd x7_2 (rd ((rd_T56 s0_1 x9_2).f2) x12_3)) < 0) = false := decide_eq_false c28
           clear c28
           by_cases c31 : x10_3 < 0
           ·rw [if_pos c31] at H
            have c31b0 : decide (x10_3 < 0) = true := decide_eq_true c31
            clear c31
            by_cases c32 : (rd ((rd_T56 s0_1 x9_2).f2) x12_3) < (x6_2.length : Int)
            case neg => rw [if_neg c32] at H; exact absurd H (by simp)
            rw [if_pos c32] at H
            have c32b0 : decide ((rd ((rd_T56 s0_1 x9_2).f2) x12_3) < (x6_2.length : Int)) = true := decide_eq_true c32
            clear c32
            replace H := Option.bind_eq_some_iff.mp H
            obtain ⟨t672, A330, H⟩ := H
            replace H : (spec_l06From.l2 k3 x6_2 x7_2 x9_2 (wrap64 ((rd x6_2 (rd ((rd_T56 s0_1 x9_2).f2) x12_3)) + ((rd_T56 s0_1 x9_2).f0))) t672 (wrap64 (x12_3 + 1)) s0_0 s0_1 s0_2 s0_3 s0_4 s0_5 s0_6) = some (r1, r2, r3, r4, r5, r6, r7) := H
            have A33 := Aside0.mk A330
            clear A330
            have H' := Aside0.mk H
            clear H
            obtain ⟨ASz34_1, cSz34_1, ASz34_2, cSz34_2, HGz34, hgz34, HSz34_1, HSz34_2⟩ := HI0.out
            have hcz34_0 := cellS45_0 HGz34
            have hcz34_1 := cellS45_1 HGz34
            have hcz34_2 := cellS45_2 HGz34
            have hcz34_3 := cellS45_3 HGz34
            have hcz34_4 := cellS45_4 HGz34
            have hcz34_5 := cellS45_5 HGz34
            have hcz34_6 := cellS45_6 HGz34
            have hfz34_0 := blk_frozen HGz34 0
            have hfz34_3 := blk_frozen HGz34 3
            have hfz34_4 := blk_frozen HGz34 4
            have hfz34_5 := blk_frozen HGz34 5
            have hfz34_6 := blk_frozen HGz34 6
            clear HGz34 hgz34
            have p658 : 0 ≤ (x9_2 : Int) := of_decide_eq_true (by with_reducible assumption)
            have q658 : x9_2 < (s0_1.length : Int) := of_decide_eq_true (by with_reducible assumption)
            obtain ⟨ad658, A658_2, c658_2, e658, hx658_0, hx658_1, hx658_2, hl658_2, hi658_2⟩ := at_T56 HSz34_1 x9_2 p658 q658
            cases e658
            replace hx658_0 := pw_cell_below HB.out hx658_0
            replace hx658_1 := pw_cell_below HB.out hx658_1
            replace hx658_2 := pw_cell_below HB.out hx658_2
            have HR658_2 := Aside0.mk hi658_2
            have HC658_2 := Aside0.mk hl658_2
            clear hi658_2 hl658_2
            replace p658 := eq_true p658
            replace q658 := eq_true q658
            have p665 : 0 ≤ (x9_2 : Int) := of_decide_eq_true (by with_reducible assumption)
            have q665 : x9_2 < (s0_1.length : Int) := of_decide_eq_true (by with_reducible assumption)
            obtain ⟨ad665, A665_2, c665_2, e665, hx665_0, hx665_1, hx665_2, hl665_2, hi665_2⟩ := at_T56 HSz34_1 x9_2 p665 q665
            obtain rfl : ad658 = ad665 := (by injection e665)
            replace hx665_0 := pw_cell_below HB.out hx665_0
            replace hx665_1 := pw_cell_below HB.out hx665_1
            replace hx665_2 := pw_cell_below HB.out hx665_2
            (try (have ea_ := Option.some.inj (hx658_2.symm.trans hx665_2); injection ea_ with ea_ en_ ec_; subst ea_; subst ec_; clear en_))
            have HR665_2 := Aside0.mk hi665_2
            have HC665_2 := Aside0.mk hl665_2
            clear hi665_2 hl665_2
            replace p665 := eq_true p665
            replace q665 := eq_true q665
            have p666 : 0 ≤ (x12_3 : Int) := of_decide_eq_true (by with_reducible assumption)
            have q666 : x12_3 < (((rd_T56 s0_1 x9_2).f2).length : Int) := of_decide_eq_true (by with_reducible assumption)
            obtain ⟨ad666, e666, hx666_0⟩ := Kd.at_int HR665_2.out x12_3 p666 q666
            cases e666
            replace hx666_0 := pw_cell_below HB.out hx666_0
            replace p666 := eq_true p666
            replace q666 := eq_true q666
            obtain ⟨Ao35, co35, eo35⟩ := Kd.R_slice HO_7.out
            subst eo35
            have p667 : 0 ≤ ((rd ((rd_T56 s0_1 x9_2).f2) x12_3) : Int) := of_decide_eq_true (by with_reducible assumption)
            have q667 : (rd ((rd_T56 s0_1 x9_2).f2) x12_3) < (x7_2.length : Int) := of_decide_eq_true (by with_reducible assumption)
            obtain ⟨ad667, e667, hx667_0⟩ := Kd.at_int (Kd.R_reads' HO_7.out).2.2 (rd ((rd_T56 s0_1 x9_2).f2) x12_3) p667 q667
            cases e667
            replace p667 := eq_true p667
            replace q667 := eq_true q667
            obtain ⟨Ao36, co36, eo36⟩ := Kd.R_slice HO_6.out
            subst eo36
            have p668 : 0 ≤ ((rd ((rd_T56 s0_1 x9_2).f2) x12_3) : Int) := of_decide_eq_true (by with_reducible assumption)
            have q668 : (rd ((rd_T56 s0_1 x9_2).f2) x12_3) < (x6_2.length : Int) := of_decide_eq_true (by with_reducible assumption)
            obtain ⟨ad668, e668, hx668_0⟩ := Kd.at_int (Kd.R_reads' HO_6.out).2.2 (rd ((rd_T56 s0_1 x9_2).f2) x12_3) p668 q668
            cases e668
            replace p668 := eq_true p668
            replace q668 := eq_true q668
            have p669 : 0 ≤ (x9_2 : Int) := of_decide_eq_true (by with_reducible assumption)
            have q669 : x9_2 < (s0_1.length : Int) := of_decide_eq_true (by with_reducible assumption)
            obtain ⟨ad669, A669_2, c669_2, e669, hx669_0, hx669_1, hx669_2, hl669_2, hi669_2⟩ := at_T56 HSz34_1 x9_2 p669 q669
            obtain rfl : ad658 = ad669 := (by injection e669)
            replace hx669_0 := pw_cell_below HB.out hx669_0
            replace hx669_1 := pw_cell_below HB.out hx669_1
            replace hx669_2 := pw_cell_below HB.out hx669_2
            (try (have ea_ := Option.some.inj (hx658_2.symm.trans hx669_2); injection ea_ with ea_ en_ ec_; subst ea_; subst ec_; clear en_))
            have HR669_2 := Aside0.mk hi669_2
            have HC669_2 := Aside0.mk hl669_2
            clear hi669_2 hl669_2
            replace p669 := eq_true p669
            replace q669 := eq_true q669
            have p670 : 0 ≤ ((rd ((rd_T56 s0_1 x9_2).f2) x12_3) : Int) := of_decide_eq_true (by with_reducible assumption)
            have q670 : (rd ((rd_T56 s0_1 x9_2).f2) x12_3) < (x7_2.length : Int) := of_decide_eq_true (by with_reducible assumption)
            obtain ⟨ad670, e670, hx670_0⟩ := Kd.at_int (Kd.R_reads' HO_7.out).2.2 (rd ((rd_T56 s0_1 x9_2).f2) x12_3) p670 q670
            obtain rfl : ad667 = ad670 := (by injection e670)
            replace p670 := eq_true p670
            replace q670 := eq_true q670
            have p671 : 0 ≤ (x9_2 : Int) := of_decide_eq_true (by with_reducible assumption)
            have q671 : x9_2 < (s0_1.length : Int) := of_decide_eq_true (by with_reducible assumption)
            obtain ⟨ad671, A671_2, c671_2, e671, hx671_0, hx671_1, hx671_2, hl671_2, hi671_2⟩ := at_T56 HSz34_1 x9_2 p671 q671
            obtain rfl : ad658 = ad671 := (by injection e671)
            replace hx671_0 := pw_cell_below HB.out hx671_0
            replace hx671_1 := pw_cell_below HB.out hx671_1
            replace hx671_2 := pw_cell_below HB.out hx671_2
            (try (have ea_ := Option.some.inj (hx658_2.symm.trans hx671_2); injection ea_ with ea_ en_ ec_; subst ea_; subst ec_; clear en_))
            have HR671_2 := Aside0.mk hi671_2
            have HC671_2 := Aside0.mk hl671_2
            clear hi671_2 hl671_2
            replace p671 := eq_true p671
            replace q671 := eq_true q671
            go_wp2_with (first | (go_at_call 86; (with_reducible refine (spec_l00Max.calls x11_3 (wrap64 ((rd x7_2 (rd ((rd_T56 s0_1 x9_2).f2) x12_3)) + ((rd_T56 s0_1 x9_2).f1))) t672 _ A33.out).mono ?_); rintro e w' ⟨rfl, ⟨nd, rfl⟩⟩; (try first | exact ⟨rfl, _, World.drewN_drewN _ _ _⟩ | exact ⟨rfl, _, Eq.trans (World.drewN_drewN _ _ _) (congrArg (World.drewN _) (Nat.add_assoc _ _ _))⟩)))
            repeat (go_quiet ((go_at_call 86; (with_reducible refine (spec_l00Max.calls x11_3 (wrap64 ((rd x7_2 (rd ((rd_T56 s0_1 x9_2).f2) x12_3)) + ((rd_T56 s0_1 x9_2).f1))) t672 _ A33.out).mono ?_); rintro e w' ⟨rfl, ⟨nd, rfl⟩⟩; (try first | exact ⟨rfl, _, World.drewN_drewN _ _ _⟩ | exact ⟨rfl, _, Eq.trans (World.drewN_drewN _ _ _) (congrArg (World.drewN _) (Nat.add_assoc _ _ _))⟩))); try go_wp2_with (first | (go_at_call 86; (with_reducible refine (spec_l00Max.calls x11_3 (wrap64 ((rd x7_2 (rd ((rd_T56 s0_1 x9_2).f2) x12_3)) + ((rd_T56 s0_1 x9_2).f1))) t672 _ A33.out).mono ?_); rintro e w' ⟨rfl, ⟨nd, rfl⟩⟩; (try first | exact ⟨rfl, _, World.drewN_drewN _ _ _⟩ | exact ⟨rfl, _, Eq.trans (World.drewN_drewN _ _ _) (congrArg (World.drewN _) (Nat.add_assoc _ _ _))⟩))))
            go_roundg k3
            case measure => have := HK1.out; have := HK2.out; have := HK3.out; omega
            case rel => exact ⟨(wrap64 ((rd x6_2 (rd ((rd_T56 s0_1 x9_2).f2) x12_3)) + ((rd_T56 s0_1 x9_2).f0))), (t672), (wrap64 (x12_3 + 1)), (by first | rfl | (simp; done) | (simp [*]; done)), (by first | rfl | (simp; done) | (simp [*]; done)), (by first | rfl | (simp; done) | (simp [*]; done)), H', ⟨by have := HK1.out; have := HK2.out; have := HK3.out; omega⟩, ⟨by (with_reducible repeat (first | apply Kd.R_alloc | apply Kd.R_drewN | apply Kd.R_drew)); exact HO_6.out⟩, ⟨by (with_reducible repeat (first | apply Kd.R_alloc | apply Kd.R_drewN | apply Kd.R_drew)); exact HO_7.out⟩, ⟨by with_reducible repeat (first | exact HI0.out | apply IsS45.alloc | apply IsS45.drewN | apply IsS45.drew | apply IsS45.set_0 | apply IsS45.set_3 | apply IsS45.set_4 | apply IsS45.set_5 | apply IsS45.set_6)⟩, ⟨by with_reducible repeat (first | exact HK.out | apply KeepBut.set_ | apply keep_drewN | apply keep_drew | apply keep_alloc)⟩, ⟨by with_reducible repeat (first | exact HB.out | apply below_alloc | apply pw_below_drewN | apply below_drew1 | refine below_set ?_ (IsS45.ge HI0.out))⟩⟩
           ·rw [if_neg c31] at H
            have c31b0 : decide (x10_3 < 0) = false := decide_eq_false c31
            clear c31
            by_cases c37 : (rd ((rd_T56 s0_1 x9_2).f2) x12_3) < (x6_2.length : Int)
            case neg => rw [if_neg c37] at H; exact absurd H (by simp)
            rw [if_pos c37] at H
            have c37b0 : decide ((rd ((rd_T56 s0_1 x9_2).f2) x12_3) < (x6_2.length : Int)) = true := decide_eq_true c37
            clear c37
            by_cases c38 : (wrap64 ((rd x6_2 (rd ((rd_T56 s0_1 x9_2).f2) x12_3)) + ((rd_T56 s0_1 x9_2).f0))) < x10_3
            ·rw [if_pos c38] at H
             have c38b0 : decide ((wrap64 ((rd x6_2 (rd ((rd_T56 s0_1 x9_2).f2) x12_3)) + ((rd_T56 s0_1 x9_2).f0))) < x10_3) = true := decide_eq_true c38
             clear c38
             replace H := Option.bind_eq_some_iff.mp H
             obtain ⟨t679, A390, H⟩ := H
             replace H : (spec_l06From.l2 k3 x6_2 x7_2 x9_2 (wrap64 ((rd x6_2 (rd ((rd_T56 s0_1 x9_2).f2) x12_3)) + ((rd_T56 s0_1 x9_2).f0))) t679 (wrap64 (x12_3 + 1)) s0_0 s0_1 s0_2 s0_3 s0_4 s0_5 s0_6) = some (r1, r2, r3, r4, r5, r6, r7) := H
             have A39 := Aside0.mk A390
             clear A390
             have H' := Aside0.mk H
             clear H
             obtain ⟨ASz40_1, cSz40_1, ASz40_2, cSz40_2, HGz40, hgz40, HSz40_1, HSz40_2⟩ := HI0.out
             have hcz40_0 := cellS45_0 HGz40
             have hcz40_1 := cellS45_1 HGz40
             have hcz40_2 := cellS45_2 HGz40
             have hcz40_3 := cellS45_3 HGz40
             have hcz40_4 := cellS45_4 HGz40
             have hcz40_5 := cellS45_5 HGz40
             have hcz40_6 := cellS45_6 HGz40
             have hfz40_0 := blk_frozen HGz40 0
             have hfz40_3 := blk_frozen HGz40 3
             have hfz40_4 := blk_frozen HGz40 4
             have hfz40_5 := blk_frozen HGz40 5
             have hfz40_6 := blk_frozen HGz40 6
             clear HGz40 hgz40
             have p658 : 0 ≤ (x9_2 : Int) := of_decide_eq_true (by with_reducible assumption)
             have q658 : x9_2 < (s0_1.length : Int) := of_decide_eq_true (by with_reducible assumption)
             obtain ⟨ad658, A658_2, c658_2, e658, hx658_0, hx658_1, hx658_2, hl658_2, hi658_2⟩ := at_T56 HSz40_1 x9_2 p658 q658
             cases e658
             replace hx658_0 := pw_cell_below HB.out hx658_0
             replace hx658_1 := pw_cell_below HB.out hx658_1
             replace hx658_2 := pw_cell_below HB.out hx658_2
             have HR658_2 := Aside0.mk hi658_2
             have HC658_2 := Aside0.mk hl658_2
             clear hi658_2 hl658_2
             replace p658 := eq_true p658
             replace q658 := eq_true q658
             have p665 : 0 ≤ (x9_2 : Int) := of_decide_eq_true (by with_reducible assumption)
             have q665 : x9_2 < (s0_1.length : Int) := of_decide_eq_true (by with_reducible assumption)
             obtain ⟨ad665, A665_2, c665_2, e665, hx665_0, hx665_1, hx665_2, hl665_2, hi665_2⟩ := at_T56 HSz40_1 x9_2 p665 q665
             obtain rfl : ad658 = ad665 := (by injection e665)
             replace hx665_0 := pw_cell_below HB.out hx665_0
             replace hx665_1 := pw_cell_below HB.out hx665_1
             replace hx665_2 := pw_cell_below HB.out hx665_2
             (try (have ea_ := Option.some.inj (hx658_2.symm.trans hx665_2); injection ea_ with ea_ en_ ec_; subst ea_; subst ec_; clear en_))
             have HR665_2 := Aside0.mk hi665_2
             have HC665_2 := Aside0.mk hl665_2
             clear hi665_2 hl665_2
             replace p665 := eq_true p665
             replace q665 := eq_true q665
             have p666 : 0 ≤ (x12_3 : Int) := of_decide_eq_true (by with_reducible assumption)
             have q666 : x12_3 < (((rd_T56 s0_1 x9_2).f2).length : Int) := of_decide_eq_true (by with_reducible assumption)
             obtain ⟨ad666, e666, hx666_0⟩ := Kd.at_int HR665_2.out x12_3 p666 q666
             cases e666
             replace hx666_0 := pw_cell_below HB.out hx666_0
             replace p666 := eq_true p666
             replace q666 := eq_true q666
             obtain ⟨Ao41, co41, eo41⟩ := Kd.R_slice HO_7.out
             subst eo41
             have p667 : 0 ≤ ((rd ((rd_T56 s0_1 x9_2).f2) x12_3) : Int) := of_decide_eq_true (by with_reducible assumption)
             have q667 : (rd ((rd_T56 s0_1 x9_2).f2) x12_3) < (x7_2.length : Int) := of_decide_eq_true (by with_reducible assumption)
             obtain ⟨ad667, e667, hx667_0⟩ := Kd.at_int (Kd.R_reads' HO_7.out).2.2 (rd ((rd_T56 s0_1 x9_2).f2) x12_3) p667 q667
             cases e667
             replace p667 := eq_true p667
             replace q667 := eq_true q667
             obtain ⟨Ao42, co42, eo42⟩ := Kd.R_slice HO_6.out
             subst eo42
             have p673 : 0 ≤ ((rd ((rd_T56 s0_1 x9_2).f2) x12_3) : Int) := of_decide_eq_true (by with_reducible assumption)
             have q673 : (rd ((rd_T56 s0_1 x9_2).f2) x12_3) < (x6_2.length : Int) := of_decide_eq_true (by with_reducible assumption)
             obtain ⟨ad673, e673, hx673_0⟩ := Kd.at_int (Kd.R_reads' HO_6.out).2.2 (rd ((rd_T56 s0_1 x9_2).f2) x12_3) p673 q673
             cases e673
             replace p673 := eq_true p673
             replace q673 := eq_true q673
             have p674 : 0 ≤ (x9_2 : Int) := of_decide_eq_true (by with_reducible assumption)
             have q674 : x9_2 < (s0_1.length : Int) := of_decide_eq_true (by with_reducible assumption)
             obtain ⟨ad674, A674_2, c674_2, e674, hx674_0, hx674_1, hx674_2, hl674_2, hi674_2⟩ := at_T56 HSz40_1 x9_2 p674 q674
             obtain rfl : ad658 = ad674 := (by injection e674)
             replace hx674_0 := pw_cell_below HB.out hx674_0
             replace hx674_1 := pw_cell_below HB.out hx674_1
             replace hx674_2 := pw_cell_below HB.out hx674_2
             (try (have ea_ := Option.some.inj (hx658_2.symm.trans hx674_2); injection ea_ with ea_ en_ ec_; subst ea_; subst ec_; clear en_))
             have HR674_2 := Aside0.mk hi674_2
             have HC674_2 := Aside0.mk hl674_2
             clear hi674_2 hl674_2
             replace p674 := eq_true p674
             replace q674 := eq_true q674
             have p675 : 0 ≤ ((rd ((rd_T56 s0_1 x9_2).f2) x12_3) : Int) := of_decide_eq_true (by with_reducible assumption)
             have q675 : (rd ((rd_T56 s0_1 x9_2).f2) x12_3) < (x6_2.length : Int) := of_decide_eq_true (by with_reducible assumption)
             obtain ⟨ad675, e675, hx675_0⟩ := Kd.at_int (Kd.R_reads' HO_6.out).2.2 (rd ((rd_T56 s0_1 x9_2).f2) x12_3) p675 q675
             obtain rfl : ad673 = ad675 := (by injection e675)
             replace p675 := eq_true p675
             replace q675 := eq_true q675
             have p676 : 0 ≤ (x9_2 : Int) := of_decide_eq_true (by with_reducible assumption)
             have q676 : x9_2 < (s0_1.length : Int) := of_decide_eq_true (by with_reducible assumption)
             obtain ⟨ad676, A676_2, c676_2, e676, hx676_0, hx676_1, hx676_2, hl676_2, hi676_2⟩ := at_T56 HSz40_1 x9_2 p676 q676
             obtain rfl : ad658 = ad676 := (by injection e676)
             replace hx676_0 := pw_cell_below HB.out hx676_0
             replace hx676_1 := pw_cell_below HB.out hx676_1
             replace hx676_2 := pw_cell_below HB.out hx676_2
             (try (have ea_ := Option.some.inj (hx658_2.symm.trans hx676_2); injection ea_ with ea_ en_ ec_; subst ea_; subst ec_; clear en_))
             have HR676_2 := Aside0.mk hi676_2
             have HC676_2 := Aside0.mk hl676_2
             clear hi676_2 hl676_2
             replace p676 := eq_true p676
             replace q676 := eq_true q676
             have p677 : 0 ≤ ((rd ((rd_T56 s0_1 x9_2).f2) x12_3) : Int) := of_decide_eq_true (by with_reducible assumption)
             have q677 : (rd ((rd_T56 s0_1 x9_2).f2) x12_3) < (x7_2.length : Int) := of_decide_eq_true (by with_reducible assumption)
             obtain ⟨ad677, e677, hx677_0⟩ := Kd.at_int (Kd.R_reads' HO_7.out).2.2 (rd ((rd_T56 s0_1 x9_2).f2) x12_3) p677 q677
             obtain rfl : ad667 = ad677 := (by injection e677)
             replace p677 := eq_true p677
             replace q677 := eq_true q677
             have p678 : 0 ≤ (x9_2 : Int) := of_decide_eq_true (by with_reducible assumption)
             have q678 : x9_2 < (s0_1.length : Int) := of_decide_eq_true (by with_reducible assumption)
             obtain ⟨ad678, A678_2, c678_2, e678, hx678_0, hx678_1, hx678_2, hl678_2, hi678_2⟩ := at_T56 HSz40_1 x9_2 p678 q678
             obtain rfl : ad658 = ad678 := (by injection e678)
             replace hx678_0 := pw_cell_below HB.out hx678_0
             replace hx678_1 := pw_cell_below HB.out hx678_1
             replace hx678_2 := pw_cell_below HB.out hx678_2
             (try (have ea_ := Option.some.inj (hx658_2.symm.trans hx678_2); injection ea_ with ea_ en_ ec_; subst ea_; subst ec_; clear en_))
             have HR678_2 := Aside0.mk hi678_2
             have HC678_2 := Aside0.mk hl678_2
             clear hi678_2 hl678_2
             replace p678 := eq_true p678
             replace q678 := eq_true q678
             go_wp2_with (first | (go_at_call 86; (with_reducible refine (spec_l00Max.calls x11_3 (wrap64 ((rd x7_2 (rd ((rd_T56 s0_1 x9_2).f2) x12_3)) + ((rd_T56 s0_1 x9_2).f1))) t679 _ A39.out).mono ?_); rintro e w' ⟨rfl, ⟨nd, rfl⟩⟩; (try first | exact ⟨rfl, _, World.drewN_drewN _ _ _⟩ | exact ⟨rfl, _, Eq.trans (World.drewN_drewN _ _ _) (congrArg (World.drewN _) (Nat.add_assoc _ _ _))⟩)))
             repeat (go_quiet ((go_at_call 86; (with_reducible refine (spec_l00Max.calls x11_3 (wrap64 ((rd x7_2 (rd ((rd_T56 s0_1 x9_2).f2) x12_3)) + ((rd_T56 s0_1 x9_2).f1))) t679 _ A39.out).mono ?_); rintro e w' ⟨rfl, ⟨nd, rfl⟩⟩; (try first | exact ⟨rfl, _, World.drewN_drewN _ _ _⟩ | exact ⟨rfl, _, Eq.trans (World.drewN_drewN _ _ _) (congrArg (World.drewN _) (Nat.add_assoc _ _ _))⟩))); try go_wp2_with (first | (go_at_call 86; (with_reducible refine (spec_l00Max.calls x11_3 (wrap64 ((rd x7_2 (rd ((rd_T56 s0_1 x9_2).f2) x12_3)) + ((rd_T56 s0_1 x9_2).f1))) t679 _ A39.out).mono ?_); rintro e w' ⟨rfl, ⟨nd, rfl⟩⟩; (try first | exact ⟨rfl, _, World.drewN_drewN _ _ _⟩ | exact ⟨rfl, _, Eq.trans (World.drewN_drewN _ _ _) (congrArg (World.drewN _) (Nat.add_assoc _ _ _))⟩))))
             go_roundg k3
             case measure => have := HK1.out; have := HK2.out; have := HK3.out; omega
             case rel => exact ⟨(wrap64 ((rd x6_2 (rd ((rd_T56 s0_1 x9_2).f2) x12_3)) + ((rd_T56 s0_1 x9_2).f0))), (t679), (wrap64 (x12_3 + 1)), (by first | rfl | (simp; done) | (simp [*]; done)), (by first | rfl | (simp; done) | (simp [*]; done)), (by first | rfl | (simp; done) | (simp [*]; done)), H', ⟨by have := HK1.out; have := HK2.out; have := HK3.out; omega⟩, ⟨by (with_reducible repeat (first | apply Kd.R_alloc | apply Kd.R_drewN | apply Kd.R_drew)); exact HO_6.out⟩, ⟨by (with_reducible repeat (first | apply Kd.R_alloc | apply Kd.R_drewN | apply Kd.R_drew)); exact HO_7.out⟩, ⟨by with_reducible repeat (first | exact HI0.out | apply IsS45.alloc | apply IsS45.drewN | apply IsS45.drew | apply IsS45.set_0 | apply IsS45.set_3 | apply IsS45.set_4 | apply IsS45.set_5 | apply IsS45.set_6)⟩, ⟨by with_reducible repeat (first | exact HK.out | apply KeepBut.set_ | apply keep_drewN | apply keep_drew | apply keep_alloc)⟩, ⟨by with_reducible repeat (first | exact HB.out | apply below_alloc | apply pw_below_drewN | apply below_drew1 | refine below_set ?_ (IsS45.ge HI0.out))⟩⟩
            ·rw [if_neg c38] at H
             have c38b0 : decide ((wrap64 ((rd x6_2 (rd ((rd_T56 s0_1 x9_2).f2) x12_3)) + ((rd_T56 s0_1 x9_2).f0))) < x10_3) = false := decide_eq_false c38
             clear c38
             replace H := Option.bind_eq_some_iff.mp H
             obtain ⟨t682, A430, H⟩ := H
             replace H : (spec_l06From.l2 k3 x6_2 x7_2 x9_2 x10_3 t682 (wrap64 (x12_3 + 1)) s0_0 s0_1 s0_2 s0_3 s0_4 s0_5 s0_6) = some (r1, r2, r3, r4, r5, r6, r7) := H
             have A43 := Aside0.mk A430
             clear A430
             have H' := Aside0.mk H
             clear H
             obtain ⟨ASz44_1, cSz44_1, ASz44_2, cSz44_2, HGz44, hgz44, HSz44_1, HSz44_2⟩ := HI0.out
             have hcz44_0 := cellS45_0 HGz44
             have hcz44_1 := cellS45_1 HGz44
             have hcz44_2 := cellS45_2 HGz44
             have hcz44_3 := cellS45_3 HGz44
             have hcz44_4 := cellS45_4 HGz44
             have hcz44_5 := cellS45_5 HGz44
             have hcz44_6 := cellS45_6 HGz44
             have hfz44_0 := blk_frozen HGz44 0
             have hfz44_3 := blk_frozen HGz44 3
             have hfz44_4 := blk_frozen HGz44 4
             have hfz44_5 := blk_frozen HGz44 5
             have hfz44_6 := blk_frozen HGz44 6
             clear HGz44 hgz44
             have p658 : 0 ≤ (x9_2 : Int) := of_decide_eq_true (by with_reducible assumption)
             have q658 : x9_2 < (s0_1.length : Int) := of_decide_eq_true (by with_reducible assumption)
             obtain ⟨ad658, A658_2, c658_2, e658, hx658_0, hx658_1, hx658_2, hl658_2, hi658_2⟩ := at_T56 HSz44_1 x9_2 p658 q658
             cases e658
             replace hx658_0 := pw_cell_below HB.out hx658_0
             replace hx658_1 := pw_cell_below HB.out hx658_1
             replace hx658_2 := pw_cell_below HB.out hx658_2
             have HR658_2 := Aside0.mk hi658_2
             have HC658_2 := Aside0.mk hl658_2
             clear hi658_2 hl658_2
             replace p658 := eq_true p658
             replace q658 := eq_true q658
             have p665 : 0 ≤ (x9_2 : Int) := of_decide_eq_true (by with_reducible assumption)
             have q665 : x9_2 < (s0_1.length : Int) := of_decide_eq_true (by with_reducible assumption)
             obtain ⟨ad665, A665_2, c665_2, e665, hx665_0, hx665_1, hx665_2, hl665_2, hi665_2⟩ := at_T56 HSz44_1 x9_2 p665 q665
             obtain rfl : ad658 = ad665 := (by injection e665)
             replace hx665_0 := pw_cell_below HB.out hx665_0
             replace hx665_1 := pw_cell_below HB.out hx665_1
             replace hx665_2 := pw_cell_below HB.out hx665_2
             (try (have ea_ := Option.some.inj (hx658_2.symm.trans hx665_2); injection ea_ with ea_ en_ ec_; subst ea_; subst ec_; clear en_))
             have HR665_2 := Aside0.mk hi665_2
             have HC665_2 := Aside0.mk hl665_2
             clear hi665_2 hl665_2
             replace p665 := eq_true p665
             replace q665 := eq_true q665
             have p666 : 0 ≤ (x12_3 : Int) := of_decide_eq_true (by with_reducible assumption)
             have q666 : x12_3 < (((rd_T56 s0_1 x9_2).f2).length : Int) := of_decide_eq_true (by with_reducible assumption)
             obtain ⟨ad666, e666, hx666_0⟩ := Kd.at_int HR665_2.out x12_3 p666 q666
             cases e666
             replace hx666_0 := pw_cell_below HB.out hx666_0
             replace p666 := eq_true p666
             replace q666 := eq_true q666
             obtain ⟨Ao45, co45, eo45⟩ := Kd.R_slice HO_7.out
             subst eo45
             have p667 : 0 ≤ ((rd ((rd_T56 s0_1 x9_2).f2) x12_3) : Int) := of_decide_eq_true (by with_reducible assumption)
             have q667 : (rd ((rd_T56 s0_1 x9_2).f2) x12_3) < (x7_2.length : Int) := of_decide_eq_true (by with_reducible assumption)
             obtain ⟨ad667, e667, hx667_0⟩ := Kd.at_int (Kd.R_reads' HO_7.out).2.2 (rd ((rd_T56 s0_1 x9_2).f2) x12_3) p667 q667
             cases e667
             replace p667 := eq_true p667
             replace q667 := eq_true q667
             obtain ⟨Ao46, co46, eo46⟩ := Kd.R_slice HO_6.out
             subst eo46
             have p673 : 0 ≤ ((rd ((rd_T56 s0_1 x9_2).f2) x12_3) : Int) := of_decide_eq_true (by with_reducible assumption)
             have q673 : (rd ((rd_T56 s0_1 x9_2).f2) x12_3) < (x6_2.length : Int) := of_decide_eq_true (by with_reducible assumption)
             obtain ⟨ad673, e673, hx673_0⟩ := Kd.at_int (Kd.R_reads' HO_6.out).2.2 (rd ((rd_T56 s0_1 x9_2).f2) x12_3) p673 q673
             cases e673
             replace p673 := eq_true p673
             replace q673 := eq_true q673
             have p674 : 0 ≤ (x9_2 : Int) := of_decide_eq_true (by with_reducible assumption)
             have q674 : x9_2 < (s0_1.length : Int) := of_decide_eq_true (by with_reducible assumption)
             obtain ⟨ad674, A674_2, c674_2, e674, hx674_0, hx674_1, hx674_2, hl674_2, hi674_2⟩ := at_T56 HSz44_1 x9_2 p674 q674
             obtain rfl : ad658 = ad674 := (by injection e674)
             replace hx674_0 := pw_cell_below HB.out hx674_0
             replace hx674_1 := pw_cell_below HB.out hx674_1
             replace hx674_2 := pw_cell_below HB.out hx674_2
             (try (have ea_ := Option.some.inj (hx658_2.symm.trans hx674_2); injection ea_ with ea_ en_ ec_; subst ea_; subst ec_; clear en_))
             have HR674_2 := Aside0.mk hi674_2
             have HC674_2 := Aside0.mk hl674_2
             clear hi674_2 hl674_2
             replace p674 := eq_true p674
             replace q674 := eq_true q674
             have p680 : 0 ≤ ((rd ((rd_T56 s0_1 x9_2).f2) x12_3) : Int) := of_decide_eq_true (by with_reducible assumption)
             have q680 : (rd ((rd_T56 s0_1 x9_2).f2) x12_3) < (x7_2.length : Int) := of_decide_eq_true (by with_reducible assumption)
             obtain ⟨ad680, e680, hx680_0⟩ := Kd.at_int (Kd.R_reads' HO_7.out).2.2 (rd ((rd_T56 s0_1 x9_2).f2) x12_3) p680 q680
             obtain rfl : ad667 = ad680 := (by injection e680)
             replace p680 := eq_true p680
             replace q680 := eq_true q680
             have p681 : 0 ≤ (x9_2 : Int) := of_decide_eq_true (by with_reducible assumption)
             have q681 : x9_2 < (s0_1.length : Int) := of_decide_eq_true (by with_reducible assumption)
             obtain ⟨ad681, A681_2, c681_2, e681, hx681_0, hx681_1, hx681_2, hl681_2, hi681_2⟩ := at_T56 HSz44_1 x9_2 p681 q681
             obtain rfl : ad658 = ad681 := (by injection e681)
             replace hx681_0 := pw_cell_below HB.out hx681_0
             replace hx681_1 := pw_cell_below HB.out hx681_1
             replace hx681_2 := pw_cell_below HB.out hx681_2
             (try (have ea_ := Option.some.inj (hx658_2.symm.trans hx681_2); injection ea_ with ea_ en_ ec_; subst ea_; subst ec_; clear en_))
             have HR681_2 := Aside0.mk hi681_2
             have HC681_2 := Aside0.mk hl681_2
             clear hi681_2 hl681_2
             replace p681 := eq_true p681
             replace q681 := eq_true q681
             go_wp2_with (first | (go_at_call 86; (with_reducible refine (spec_l00Max.calls x11_3 (wrap64 ((rd x7_2 (rd ((rd_T56 s0_1 x9_2).f2) x12_3)) + ((rd_T56 s0_1 x9_2).f1))) t682 _ A43.out).mono ?_); rintro e w' ⟨rfl, ⟨nd, rfl⟩⟩; (try first | exact ⟨rfl, _, World.drewN_drewN _ _ _⟩ | exact ⟨rfl, _, Eq.trans (World.drewN_drewN _ _ _) (congrArg (World.drewN _) (Nat.add_assoc _ _ _))⟩)))
             repeat (go_quiet ((go_at_call 86; (with_reducible refine (spec_l00Max.calls x11_3 (wrap64 ((rd x7_2 (rd ((rd_T56 s0_1 x9_2).f2) x12_3)) + ((rd_T56 s0_1 x9_2).f1))) t682 _ A43.out).mono ?_); rintro e w' ⟨rfl, ⟨nd, rfl⟩⟩; (try first | exact ⟨rfl, _, World.drewN_drewN _ _ _⟩ | exact ⟨rfl, _, Eq.trans (World.drewN_drewN _ _ _) (congrArg (World.drewN _) (Nat.add_assoc _ _ _))⟩))); try go_wp2_with (first | (go_at_call 86; (with_reducible refine (spec_l00Max.calls x11_3 (wrap64 ((rd x7_2 (rd ((rd_T56 s0_1 x9_2).f2) x12_3)) + ((rd_T56 s0_1 x9_2).f1))) t682 _ A43.out).mono ?_); rintro e w' ⟨rfl, ⟨nd, rfl⟩⟩; (try first | exact ⟨rfl, _, World.drewN_drewN _ _ _⟩ | exact ⟨rfl, _, Eq.trans (World.drewN_drewN _ _ _) (congrArg (World.drewN _) (Nat.add_assoc _ _ _))⟩))))
             go_roundg k3
             case measure => have := HK1.out; have := HK2.out; have := HK3.out; omega
             case rel => exact ⟨(x10_3), (t682), (wrap64 (x12_3 + 1)), (by first | rfl | (simp; done) | (simp [*]; done)), (by first | rfl | (simp; done) | (simp [*]; done)), (by first | rfl | (simp; done) | (simp [*]; done)), H', ⟨by have := HK1.out; have := HK2.out; have := HK3.out; omega⟩, ⟨by (with_reducible repeat (first | apply Kd.R_alloc | apply Kd.R_drewN | apply Kd.R_drew)); exact HO_6.out⟩, ⟨by (with_reducible repeat (first | apply Kd.R_alloc | apply Kd.R_drewN | apply Kd.R_drew)); exact HO_7.out⟩, ⟨by with_reducible repeat (first | exact HI0.out | apply IsS45.alloc | apply IsS45.drewN | apply IsS45.drew | apply IsS45.set_0 | apply IsS45.set_3 | apply IsS45.set_4 | apply IsS45.set_5 | apply IsS45.set_6)⟩, ⟨by with_reducible repeat (first | exact HK.out | apply KeepBut.set_ | apply keep_drewN | apply keep_drew | apply keep_alloc)⟩, ⟨by with_reducible repeat (first | exact HB.out | apply below_alloc | apply pw_below_drewN | apply below_drew1 | refine below_set ?_ (IsS45.ge HI0.out))⟩⟩
         ·rw [if_neg c24] at H
          have c24b0 : decide (x12_3 < (((rd_T56 s0_1 x9_2).f2).length : Int)) = false := decide_eq_false c24
          clear c24
          by_cases c47 : x6_2.length < 17592186044416
          case neg => rw [if_neg c47] at H; exact absurd H (by simp)
          rw [if_pos c47] at H
          have LMc47 := Aside0.mk c47
          clear c47
          obtain ⟨y659, hy659⟩ : ∃ y_ : List Int, y_ = (x6_2 ++ [x10_3]) := ⟨_, rfl⟩
          replace H : (if x7_2.length < 17592186044416 then (spec_l06From.l1 k3 y659 (x7_2 ++ [x11_3]) (wrap64 (x9_2 + 1)) s0_0 s0_1 s0_2 s0_3 s0_4 s0_5 s0_6) else (none)) = some (r1, r2, r3, r4, r5, r6, r7) := by first | (rw [hy659]; with_reducible exact H) | (have H2_ := (Option.bind_some _ _).symm.trans H; rw [hy659]; with_reducible exact H2_) | (have H2_ := (Option.bind_some _ _).symm.trans H; with_reducible exact H2_) | with_reducible exact H | (rw [hy659]; exact H) | exact H
          have Ny659 := Aside0.mk hy659
          clear hy659
          by_cases c48 : x7_2.length < 17592186044416
          case neg => rw [if_neg c48] at H; exact absurd H (by simp)
          rw [if_pos c48] at H
          have LMc48 := Aside0.mk c48
          clear c48
          obtain ⟨y662, hy662⟩ : ∃ y_ : List Int, y_ = (x7_2 ++ [x11_3]) := ⟨_, rfl⟩
          replace H : (spec_l06From.l1 k3 y659 y662 (wrap64 (x9_2 + 1)) s0_0 s0_1 s0_2 s0_3 s0_4 s0_5 s0_6) = some (r1, r2, r3, r4, r5, r6, r7) := by first | (rw [hy662]; with_reducible exact H) | (have H2_ := (Option.bind_some _ _).symm.trans H; rw [hy662]; with_reducible exact H2_) | (have H2_ := (Option.bind_some _ _).symm.trans H; with_reducible exact H2_) | with_reducible exact H | (rw [hy662]; exact H) | exact H
          have Ny662 := Aside0.mk hy662
          clear hy662
          have H' := Aside0.mk H
          clear H
          obtain ⟨ASz49_1, cSz49_1, ASz49_2, cSz49_2, HGz49, hgz49, HSz49_1, HSz49_2⟩ := HI0.out
          have hcz49_0 := cellS45_0 HGz49
          have hcz49_1 := cellS45_1 HGz49
          have hcz49_2 := cellS45_2 HGz49
          have hcz49_3 := cellS45_3 HGz49
          have hcz49_4 := cellS45_4 HGz49
          have hcz49_5 := cellS45_5 HGz49
          have hcz49_6 := cellS45_6 HGz49
          have hfz49_0 := blk_frozen HGz49 0
          have hfz49_3 := blk_frozen HGz49 3
          have hfz49_4 := blk_frozen HGz49 4
          have hfz49_5 := blk_frozen HGz49 5
          have hfz49_6 := blk_frozen HGz49 6
          clear HGz49 hgz49
          have p658 : 0 ≤ (x9_2 : Int) := of_decide_eq_true (by with_reducible assumption)
          have q658 : x9_2 < (s0_1.length : Int) := of_decide_eq_true (by with_reducible assumption)
          obtain ⟨ad658, A658_2, c658_2, e658, hx658_0, hx658_1, hx658_2, hl658_2, hi658_2⟩ := at_T56 HSz49_1 x9_2 p658 q658
          cases e658
          replace hx658_0 := pw_cell_below HB.out hx658_0
          replace hx658_1 := pw_cell_below HB.out hx658_1
          replace hx658_2 := pw_cell_below HB.out hx658_2
          have HR658_2 := Aside0.mk hi658_2
          have HC658_2 := Aside0.mk hl658_2
          clear hi658_2 hl658_2
          replace p658 := eq_true p658
          replace q658 := eq_true q658
          go_wp2_with (first | ((with_reducible refine gate_builtin (b := .append) (xs := #[.tmp 124, .tmp 126]) rfl ?_); at_builtin; refine Kd.R_append (Kd.int .i64) w.heap.size rfl (.tmp 124) (.tmp 126) 28 2 (.int .i64 0) 8 rfl Try.underlying28 info2 rfl (by decide) (by omega) u6 x6_2 x10_3 [.int .i64 x10_3] (fun k_ => some k_ ≠ (u7 : Value).ownBlock) (fun _ => False) rfl rfl ?aP (fun _ hk => hk.elim) ?aF ?aO (Below.refl _ _) ?aS ?aL ?_; (case aP => exact rfl); (case aF => exact (fun k_ hk => Kd.fresh' (Kd.R_lt (by (with_reducible repeat (first | apply Kd.R_alloc | apply Kd.R_drewN | apply Kd.R_drew)); exact HO_7.out)) k_ hk)); (case aO => exact (by (with_reducible repeat (first | apply Kd.R_alloc | apply Kd.R_drewN | apply Kd.R_drew)); exact HO_6.out)); (case aS => exact (keep_size (w := w) (g := g) (row := none) (by with_reducible repeat (first | exact HK.out | apply KeepBut.set_ | apply keep_drewN | apply keep_drew | apply keep_alloc)))); (case aL => have := LMc47.out; omega); intro v660 w50 ho hb hg hat; rw [← Ny659.out] at ho; have n0_ := Aside0.mk (Kd.R_after (ok := (fun _ => True)) (by (with_reducible repeat (first | apply Kd.R_alloc | apply Kd.R_drewN | apply Kd.R_drew)); exact Kd.R_mono HO_7.out (fun _ hk => ⟨trivial, hk⟩)) hg hat); have n1_ := Aside0.mk (IsS45.grown (by with_reducible repeat (first | exact HI0.out | apply IsS45.alloc | apply IsS45.drewN | apply IsS45.drew | apply IsS45.set_0 | apply IsS45.set_3 | apply IsS45.set_4 | apply IsS45.set_5 | apply IsS45.set_6)) hg (IsS45.own_ne HI0.out HO_6.out (by decide))); have n2_ := Aside0.mk (below_weaken (by with_reducible repeat (first | exact HB.out | apply below_alloc | apply pw_below_drewN | apply below_drew1 | refine below_set ?_ (IsS45.ge HI0.out))) HL.out hb); have n3_ := Aside0.mk (KeepBut.trans (by with_reducible repeat (first | exact HK.out | apply KeepBut.set_ | apply keep_drewN | apply keep_drew | apply keep_alloc)) (KeepBut.of_grown hg g) (Kd.R_base2 HO_6.out)); have n4_ := Aside0.mk (ho); clear HO_7; clear HI0; clear HB; clear HK; clear HO_6; have HO_7 := n0_; have HI0 := n1_; have HB := n2_; have HK := n3_; have HO661 := n4_; clear n0_ n1_ n2_ n3_ n4_; clear ho hb hg hat) | ((with_reducible refine gate_builtin (b := .append) (xs := #[.tmp 128, .tmp 130]) rfl ?_); at_builtin; refine Kd.R_append (Kd.int .i64) w.heap.size rfl (.tmp 128) (.tmp 130) 28 2 (.int .i64 0) 8 rfl Try.underlying28 info2 rfl (by decide) (by omega) u7 x7_2 x11_3 [.int .i64 x11_3] (fun k_ => some k_ ≠ (v660 : Value).ownBlock) (fun _ => False) rfl rfl ?aP (fun _ hk => hk.elim) ?aF ?aO (Below.refl _ _) ?aS ?aL ?_; (case aP => exact rfl); (case aF => exact (fun k_ hk => Kd.fresh' (Kd.R_lt (by (with_reducible repeat (first | apply Kd.R_alloc | apply Kd.R_drewN | apply Kd.R_drew)); exact HO661.out)) k_ hk)); (case aO => exact (by (with_reducible repeat (first | apply Kd.R_alloc | apply Kd.R_drewN | apply Kd.R_drew)); exact Kd.R_mono HO_7.out (fun _ hk => hk.2))); (case aS => exact (keep_size (w := w) (g := g) (row := none) (by with_reducible repeat (first | exact HK.out | apply KeepBut.set_ | apply keep_drewN | apply keep_drew | apply keep_alloc)))); (case aL => have := LMc48.out; omega); intro v663 w51 ho hb hg hat; rw [← Ny662.out] at ho; have n0_ := Aside0.mk (IsS45.grown (by with_reducible repeat (first | exact HI0.out | apply IsS45.alloc | apply IsS45.drewN | apply IsS45.drew | apply IsS45.set_0 | apply IsS45.set_3 | apply IsS45.set_4 | apply IsS45.set_5 | apply IsS45.set_6)) hg (IsS45.own_ne HI0.out HO_7.out (by decide))); have n1_ := Aside0.mk (Kd.R_after (ok := (fun _ => True)) (by (with_reducible repeat (first | apply Kd.R_alloc | apply Kd.R_drewN | apply Kd.R_drew)); exact Kd.R_mono HO661.out (fun _ hk => ⟨trivial, hk⟩)) hg hat); have n2_ := Aside0.mk (below_weaken (by with_reducible repeat (first | exact HB.out | apply below_alloc | apply pw_below_drewN | apply below_drew1 | refine below_set ?_ (IsS45.ge HI0.out))) HL.out hb); have n3_ := Aside0.mk (KeepBut.trans (by with_reducible repeat (first | exact HK.out | apply KeepBut.set_ | apply keep_drewN | apply keep_drew | apply keep_alloc)) (KeepBut.of_grown hg g) (Kd.R_base2 HO_7.out)); have n4_ := Aside0.mk (ho); clear HI0; clear HO661; clear HB; clear HK; clear HO_7; have HI0 := n0_; have HO661 := n1_; have HB := n2_; have HK := n3_; have HO664 := n4_; clear n0_ n1_ n2_ n3_ n4_; clear ho hb hg hat))
          repeat (go_quiet (fail); try go_wp2_with (fail))
          go_roundg k3
          case measure => have := HK1.out; have := HK2.out; have := HK3.out; omega
          case rel => exact ⟨(y659), (y662), (wrap64 (x9_2 + 1)), (by first | rfl | (simp; done) | (simp [*]; done)), H', ⟨by have := HK1.out; have := HK2.out; have := HK3.out; omega⟩, ⟨by (with_reducible repeat (first | apply Kd.R_alloc | apply Kd.R_drewN | apply Kd.R_drew)); exact Kd.R_mono HO661.out (fun _ hk => hk.2)⟩, ⟨by (with_reducible repeat (first | apply Kd.R_alloc | apply Kd.R_drewN | apply Kd.R_drew)); exact HO664.out⟩, ⟨by with_reducible repeat (first | exact HI0.out | apply IsS45.alloc | apply IsS45.drewN | apply IsS45.drew | apply IsS45.set_0 | apply IsS45.set_3 | apply IsS45.set_4 | apply IsS45.set_5 | apply IsS45.set_6)⟩, ⟨by with_reducible repeat (first | exact HK.out | apply KeepBut.set_ | apply keep_drewN | apply keep_drew | apply keep_alloc)⟩, ⟨by with_reducible repeat (first | exact HB.out | apply below_alloc | apply pw_below_drewN | apply below_drew1 | refine below_set ?_ (IsS45.ge HI0.out))⟩⟩
      ·rw [if_neg c20] at H
       have c20b0 : decide (x9_2 < (s0_1.length : Int)) = false := decide_eq_false c20
       clear c20
       simp only [Option.some.injEq, Prod.mk.injEq] at H
       obtain ⟨rfl, rfl, rfl, rfl, rfl, rfl, rfl⟩ := H
       obtain ⟨ASz52_1, cSz52_1, ASz52_2, cSz52_2, HGz52, hgz52, HSz52_1, HSz52_2⟩ := HI0.out
       have hcz52_0 := cellS45_0 HGz52
       have hcz52_1 := cellS45_1 HGz52
       have hcz52_2 := cellS45_2 HGz52
       have hcz52_3 := cellS45_3 HGz52
       have hcz52_4 := cellS45_4 HGz52
       have hcz52_5 := cellS45_5 HGz52
       have hcz52_6 := cellS45_6 HGz52
       have hfz52_0 := blk_frozen HGz52 0
       have hfz52_3 := blk_frozen HGz52 3
       have hfz52_4 := blk_frozen HGz52 4
       have hfz52_5 := blk_frozen HGz52 5
       have hfz52_6 := blk_frozen HGz52 6
       clear HGz52 hgz52
       go_wp2
       repeat (go_quiet (fail); try go_wp2)
       go_ret2
       exact ⟨_, _, by first | rfl | (simp [errW_none, errW_some] <;> rfl) | (simp [*, errW_none, errW_some] <;> rfl), by (with_reducible repeat (first | apply Kd.R_alloc | apply Kd.R_drewN | apply Kd.R_drew)); exact HO_6.out, by (with_reducible repeat (first | apply Kd.R_alloc | apply Kd.R_drewN | apply Kd.R_drew)); exact HO_7.out, by with_reducible repeat (first | exact HI0.out | apply IsS45.alloc | apply IsS45.drewN | apply IsS45.drew | apply IsS45.set_0 | apply IsS45.set_3 | apply IsS45.set_4 | apply IsS45.set_5 | apply IsS45.set_6), by with_reducible repeat (first | exact HB.out | apply below_alloc | apply pw_below_drewN | apply below_drew1 | refine below_set ?_ (IsS45.ge HI0.out)), by with_reducible repeat (first | exact HK.out | apply KeepBut.set_ | apply keep_drewN | apply keep_drew | apply keep_alloc)⟩

end Go.Proofs.Ytahjcmmgdcedpaa.Pa

