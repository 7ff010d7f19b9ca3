-- Written for this claim by a program of this session.
import Derived.Test.YtbgokpobaemibaaDoorPax0
import Derived.Test.YtbgokpobaemibaaDoorCore2
import Derived.Test.YtbgokpobaemibaaDoorKPaxf17
import Derived.Test.YtbgokpobaemibaaDoorKPaxf18
import Derived.Test.YtbgokpobaemibaaDoorKPaxf19
namespace Go.Proofs.YtbgokpobaemibaaDoor.Pa
open Go.RowKit Go.Proofs.YtbgokpobaemibaaDoorW.PrintWords Go.Proofs.YtbgokpobaemibaaDoorW.PrintLast Go.Proofs.YtbgokpobaemibaaDoorW.PrintMore
attribute [local go_sem] max2_int min2_int max_two min_two max_three min_three max_four min_four   -- for this text's walks alone
set_option linter.unusedVariables false
set_option linter.unusedSimpArgs false

/-! ### laws_FnExactReadDiagram: function 4 -/
mutual
def laws_FnExactReadDiagram.j0 : Nat → ByteArray → Bool → Bool → Int → List (S39) → Int → List (S39) → Option (Bool)
 | 0, _, _, _, _, _, _, _ => none
 | k + 1, x0, x4, x32, x433000, x433001, x439000, x439001 => if x32 = true then (some false) else ((laws_markDiagram.f k x439000 x439001 1).bind fun bt440 => ((laws_heldDiagram.f k x439000 bt440.2 1).bind fun t442 => (if t442 < 0 then (some false) else (if t442 = bt440.1 then ((impl_ReadDiagram.f x0).bind fun bt443 => ((laws_eqDiagram.f k bt443.1 bt443.2.1 x433000 x433001).bind fun t449 => (if t449 = true then (laws_FnExactReadDiagram.j1 k bt440.1 (bt443.2.2 != x4) x439000 bt440.2) else (laws_FnExactReadDiagram.j1 k bt440.1 true x439000 bt440.2)))) else (some false)))))
def laws_FnExactReadDiagram.j1 : Nat → Int → Bool → Int → List (S39) → Option (Bool)
 | 0, _, _, _, _ => none
 | k + 1, x7, x57, x439000, x439001 => if x57 = true then (some false) else ((laws_heldDiagram.f k x439000 x439001 1).bind fun t450 => (if t450 < 0 then (some false) else (if t450 = x7 then (some true) else (some false))))
end
def laws_FnExactReadDiagram.f (k : Nat) (a0 : ByteArray) : Option (Bool) := if (a0.size : Int) > 1048576 then (some true) else ((spec_ReadDiagram.f a0).bind fun bt427 => ((impl_ReadDiagram.f a0).bind fun bt433 => ((laws_eqDiagram.f k bt433.1 bt433.2.1 bt427.1 bt427.2.1).bind fun t439 => (if t439 = true then (laws_FnExactReadDiagram.j0 k a0 bt427.2.2 (bt433.2.2 != bt427.2.2) bt427.1 bt427.2.1 bt433.1 bt433.2.1) else (laws_FnExactReadDiagram.j0 k a0 bt427.2.2 true bt427.1 bt427.2.1 bt433.1 bt433.2.1)))))
theorem laws_FnExactReadDiagram.mono_l : ∀ k, (∀ y0 y1 y2 y3 y4 y5 y6, LeO (laws_FnExactReadDiagram.j0 k y0 y1 y2 y3 y4 y5 y6) (laws_FnExactReadDiagram.j0 (k + 1) y0 y1 y2 y3 y4 y5 y6)) ∧ (∀ y0 y1 y2 y3, LeO (laws_FnExactReadDiagram.j1 k y0 y1 y2 y3) (laws_FnExactReadDiagram.j1 (k + 1) y0 y1 y2 y3))
 | 0 => ⟨fun _ _ _ _ _ _ _ r h => by simp [laws_FnExactReadDiagram.j0] at h, fun _ _ _ _ r h => by simp [laws_FnExactReadDiagram.j1] at h⟩
 | k + 1 => by
  obtain ⟨ih0, ih1⟩ := laws_FnExactReadDiagram.mono_l k
  refine ⟨?_, ?_⟩
  ·intro y0 y1 y2 y3 y4 y5 y6
   unfold laws_FnExactReadDiagram.j0
   repeat' first
   | (with_reducible exact ih0 _ _ _ _ _ _ _)
   | (with_reducible exact ih1 _ _ _ _)
   | (with_reducible exact laws_eqDiagram.mono _ _ _ _ _)
   | (with_reducible exact laws_heldDiagram.mono _ _ _ _)
   | (with_reducible exact laws_markDiagram.mono _ _ _ _)
   | (with_reducible exact LeO.refl _)
   | (with_reducible exact LeO.none _)
   | (with_reducible refine LeO.ite ?_ ?_)
   | (with_reducible refine LeO.bind ?_ (fun _ => ?_))
   | exact ih0 _ _ _ _ _ _ _
   | exact ih1 _ _ _ _
   | exact laws_eqDiagram.mono _ _ _ _ _
   | exact laws_heldDiagram.mono _ _ _ _
   | exact laws_markDiagram.mono _ _ _ _
   | exact LeO.none _
   | refine LeO.ite ?_ ?_
   | refine LeO.bind ?_ (fun _ => ?_)
  ·intro y0 y1 y2 y3
   unfold laws_FnExactReadDiagram.j1
   repeat' first
   | (with_reducible exact ih0 _ _ _ _ _ _ _)
   | (with_reducible exact ih1 _ _ _ _)
   | (with_reducible exact laws_eqDiagram.mono _ _ _ _ _)
   | (with_reducible exact laws_heldDiagram.mono _ _ _ _)
   | (with_reducible exact laws_markDiagram.mono _ _ _ _)
   | (with_reducible exact LeO.refl _)
   | (with_reducible exact LeO.none _)
   | (with_reducible refine LeO.ite ?_ ?_)
   | (with_reducible refine LeO.bind ?_ (fun _ => ?_))
   | exact ih0 _ _ _ _ _ _ _
   | exact ih1 _ _ _ _
   | exact laws_eqDiagram.mono _ _ _ _ _
   | exact laws_heldDiagram.mono _ _ _ _
   | exact laws_markDiagram.mono _ _ _ _
   | exact LeO.none _
   | refine LeO.ite ?_ ?_
   | refine LeO.bind ?_ (fun _ => ?_)
theorem laws_FnExactReadDiagram.mono : ∀ a0 k, LeO (laws_FnExactReadDiagram.f k a0) (laws_FnExactReadDiagram.f (k + 1) a0) := by
 intro a0 k
 obtain ⟨ih0, ih1⟩ := laws_FnExactReadDiagram.mono_l k
 unfold laws_FnExactReadDiagram.f
 repeat' first
   | (with_reducible exact ih0 _ _ _ _ _ _ _)
   | (with_reducible exact ih1 _ _ _ _)
   | (with_reducible exact laws_eqDiagram.mono _ _ _ _ _)
   | (with_reducible exact laws_heldDiagram.mono _ _ _ _)
   | (with_reducible exact laws_markDiagram.mono _ _ _ _)
   | (with_reducible exact LeO.refl _)
   | (with_reducible exact LeO.none _)
   | (with_reducible refine LeO.ite ?_ ?_)
   | (with_reducible refine LeO.bind ?_ (fun _ => ?_))
   | exact ih0 _ _ _ _ _ _ _
   | exact ih1 _ _ _ _
   | exact laws_eqDiagram.mono _ _ _ _ _
   | exact laws_heldDiagram.mono _ _ _ _
   | exact laws_markDiagram.mono _ _ _ _
   | exact LeO.none _
   | refine LeO.ite ?_ ?_
   | refine LeO.bind ?_ (fun _ => ?_)
set_option maxHeartbeats 8000000 in
set_option maxRecDepth 100000 in
theorem laws_FnExactReadDiagram.calls (k : Nat) (a0 : ByteArray) (r : Bool) (w : World) (ht_ : EnvOk w) (h : laws_FnExactReadDiagram.f k a0 = some r) :
  Calls Tryd.prog 4 #[.string a0] w fun e w' => e = .returned (.bool r) ∧ Below w.heap.size w w' := by
 have hu26 := Tryd.underlying26
 have HB := Aside0.mk (Below.refl w.heap.size w)
 have HEnv_ := Aside0.mk ht_
 clear ht_
 have H : (if (a0.size : Int) > 1048576 then (some true) else ((spec_ReadDiagram.f a0).bind fun bt427 => ((impl_ReadDiagram.f a0).bind fun bt433 => ((laws_eqDiagram.f k bt433.1 bt433.2.1 bt427.1 bt427.2.1).bind fun t439 => (if t439 = true then (laws_FnExactReadDiagram.j0 k a0 bt427.2.2 (bt433.2.2 != bt427.2.2) bt427.1 bt427.2.1 bt433.1 bt433.2.1) else (laws_FnExactReadDiagram.j0 k a0 bt427.2.2 true bt427.1 bt427.2.1 bt433.1 bt433.2.1)))))) = some r := h
 clear h
 by_cases c2 : (a0.size : Int) > 1048576
 ·rw [if_pos c2] at H
  have c2b0 : decide (1048576 < (a0.size : Int)) = true := decide_eq_true c2
  have c2b1 : decide (1048576 < a0.size) = true := decide_eq_true (by omega)
  clear c2
  obtain rfl := Option.some.inj H
  go_enter Tryd.func4, Tryd.ntmps4
  go_wp2
  go_ret
  exact ⟨by first | rfl | (simp [errW_none, errW_some] <;> rfl) | (simp [*, errW_none, errW_some] <;> rfl), by repeat (first | (with_reducible first | exact HB.out | apply below_alloc | apply pw_below_drewN | apply below_drew1) | exact HB.out)⟩
 ·rw [if_neg c2] at H
  have c2b0 : decide (1048576 < (a0.size : Int)) = false := decide_eq_false c2
  have c2b1 : decide (1048576 < a0.size) = false := decide_eq_false (by omega)
  clear c2
  replace H := Option.bind_eq_some_iff.mp H
  obtain ⟨⟨t427, t428, t431⟩, A30, H⟩ := H
  replace H : ((impl_ReadDiagram.f a0).bind fun bt433 => ((laws_eqDiagram.f k bt433.1 bt433.2.1 t427 t428).bind fun t439 => (if t439 = true then (laws_FnExactReadDiagram.j0 k a0 t431 (bt433.2.2 != t431) t427 t428 bt433.1 bt433.2.1) else (laws_FnExactReadDiagram.j0 k a0 t431 true t427 t428 bt433.1 bt433.2.1)))) = some r := H
  have A3 := Aside0.mk A30
  clear A30
  replace H := Option.bind_eq_some_iff.mp H
  obtain ⟨⟨t433, t434, t437⟩, A40, H⟩ := H
  replace H : ((laws_eqDiagram.f k t433 t434 t427 t428).bind fun t439 => (if t439 = true then (laws_FnExactReadDiagram.j0 k a0 t431 (t437 != t431) t427 t428 t433 t434) else (laws_FnExactReadDiagram.j0 k a0 t431 true t427 t428 t433 t434))) = some r := H
  have A4 := Aside0.mk A40
  clear A40
  have HC5 := Aside0.mk H
  clear H
  go_enter Tryd.func4, Tryd.ntmps4
  go_upto_region 5 with (first | ((with_reducible refine gate_callee (f := 16) rfl ?_); refine goesL_ (some 16) rfl rfl Tryd.func16 (by kernel_rfl) rfl #[.string a0] rfl (by (try simp only [List.map_toArray, List.map_cons, List.map_nil]); first | done | rfl | (simp only [List.length_drop, List.length_take]; rfl)) ?_; (with_reducible refine (spec_ReadDiagram.calls a0 t427 t428 t431 _ A3.out).mono ?_); rintro e w6 ⟨v429, rfl, ho0, hb⟩; refine ⟨_, rfl, ?_⟩; have n0_ := Aside0.mk (Kd.R_lower ho0 (below_size (by repeat (first | (with_reducible first | exact HB.out | apply below_alloc | apply pw_below_drewN | apply below_drew1) | exact HB.out)))); have n1_ := Aside0.mk (below_step (by repeat (first | (with_reducible first | exact HB.out | apply below_alloc | apply pw_below_drewN | apply below_drew1) | exact HB.out)) hb); clear HB; have HO430 := n0_; have HB := n1_; clear n0_ n1_; (try clear hb); (try clear hb2); (try clear hk); (try clear hi); (try clear ho0)) | ((with_reducible refine gate_dst (N := 3) rfl ?_); refine box_event ?hg (N := 3) ?hd (cs := #[.int .i64 0, .slice none 0 0]) (t := 26) ?hr ?_; (case hd => rfl); (case hg => rfl); (case hr => first | (go_simp; done) | (go_simp; rfl)); intro gb432 hg w7 hbox hb; have n0_ := Aside0.mk (Kd.R_below (by (with_reducible repeat (first | apply Kd.R_alloc | apply Kd.R_drewN | apply Kd.R_drew)); exact HO430.out) hb); have n1_ := Aside0.mk (below_step (by repeat (first | (with_reducible first | exact HB.out | apply below_alloc | apply pw_below_drewN | apply below_drew1) | exact HB.out)) hb); have n2_ := Aside0.mk (hbox); have n3_ := Aside0.mk ((by rw [hg]; exact (below_size (by repeat (first | (with_reducible first | exact HB.out | apply below_alloc | apply pw_below_drewN | apply below_drew1) | exact HB.out))) : w.heap.size ≤ gb432)); have n4_ := Aside0.mk ((by rw [hg]; exact (below_size (by repeat (first | (with_reducible first | exact HB.out | apply below_alloc | apply pw_below_drewN | apply below_drew1) | exact HB.out))) : w.heap.size ≤ gb432)); clear HO430; clear HB; have HO430 := n0_; have HB := n1_; have BK432 := n2_; have GW432 := n3_; have GE432 := n4_; clear n0_ n1_ n2_ n3_ n4_; clear hb hbox hg; have hcz8_0 : w7.cell? ⟨gb432, 0, none⟩ = some (.int .i64 0) := (blk_cell BK432.out 0).trans rfl; have hcz8_1 : w7.cell? ⟨gb432, 1, none⟩ = some (.slice none 0 0) := (blk_cell BK432.out 1).trans rfl; have hfz8_0 := blk_frozen BK432.out 0; have hfz8_1 := blk_frozen BK432.out 1; obtain ⟨Ao9, co9, eo9⟩ := Kd.R_slice HO430.out; subst eo9) | ((with_reducible refine gate_callee (f := 10) rfl ?_); refine goesL_ (some 21) rfl rfl Tryd.func10 (by kernel_rfl) rfl #[.string a0] rfl (by (try simp only [List.map_toArray, List.map_cons, List.map_nil]); first | done | rfl | (simp only [List.length_drop, List.length_take]; rfl)) ?_; (with_reducible refine (impl_ReadDiagram.calls a0 t433 t434 t437 _ (HEnv_.out.below (by repeat (first | (with_reducible first | exact HB.out | apply below_alloc | apply pw_below_drewN | apply below_drew1 | refine below_set ?_ GE432.out | refine below_set ?_ GE438.out | refine below_set ?_ GE448.out) | exact HB.out))) A4.out).mono ?_); rintro e w10 ⟨v435, rfl, ho0, hb⟩; refine ⟨_, rfl, ?_⟩; have n0_ := Aside0.mk (Kd.R_elder' (by (with_reducible repeat (first | apply Kd.R_alloc | apply Kd.R_drewN | apply Kd.R_drew)); exact (Kd.R_mono (Kd.R_far (p := ⟨gb432, 1, none⟩) (Kd.R_far (p := ⟨gb432, 0, none⟩) (Kd.R_types HO430.out BK432.out (by decide)) (fun _ hk => hk.2) (.int .i64 t427)) (fun _ hk => hk.2) (.slice Ao9 t428.length co9)) (fun _ h_ => h_.1))) (Kd.R_base ho0) hb); have n1_ := Aside0.mk (Kd.R_lower (Kd.R_new' ho0 (Kd.R_lt (by (with_reducible repeat (first | apply Kd.R_alloc | apply Kd.R_drewN | apply Kd.R_drew)); exact (Kd.R_mono (Kd.R_far (p := ⟨gb432, 1, none⟩) (Kd.R_far (p := ⟨gb432, 0, none⟩) (Kd.R_types HO430.out BK432.out (by decide)) (fun _ hk => hk.2) (.int .i64 t427)) (fun _ hk => hk.2) (.slice Ao9 t428.length co9)) (fun _ h_ => h_.1))))) (below_size (by repeat (first | (with_reducible first | exact HB.out | apply below_alloc | apply pw_below_drewN | apply below_drew1 | refine below_set ?_ GE432.out) | exact HB.out)))); have n2_ := Aside0.mk (blk_below (g := gb432) (o := .cells #[.int .i64 t427, .slice Ao9 t428.length co9] 26 (0, 0)) (by (with_reducible repeat (first | refine blk_drewN ?_ _ | refine blk_drew ?_ | refine blk_alloc ?_ _)); refine blk_put (cs := #[.int .i64 t427, .slice none 0 0]) ?_ 1 _ rfl; (with_reducible repeat (first | refine blk_drewN ?_ _ | refine blk_drew ?_ | refine blk_alloc ?_ _)); refine blk_put (cs := #[.int .i64 0, .slice none 0 0]) ?_ 0 _ rfl; (with_reducible repeat (first | refine blk_drewN ?_ _ | refine blk_drew ?_ | refine blk_alloc ?_ _)); exact BK432.out) hb); have n3_ := Aside0.mk (below_step (by repeat (first | (with_reducible first | exact HB.out | apply below_alloc | apply pw_below_drewN | apply below_drew1 | refine below_set ?_ GE432.out) | exact HB.out)) hb); clear HO430; clear BK432; clear HB; have HO430 := n0_; have HO436 := n1_; have BK432 := n2_; have HB := n3_; clear n0_ n1_ n2_ n3_; (try clear hb); (try clear hb2); (try clear hk); (try clear hi); (try clear ho0)) | ((with_reducible refine gate_dst (N := 5) rfl ?_); refine box_event ?hg (N := 5) ?hd (cs := #[.int .i64 0, .slice none 0 0]) (t := 26) ?hr ?_; (case hd => rfl); (case hg => rfl); (case hr => first | (go_simp; done) | (go_simp; rfl)); intro gb438 hg w11 hbox hb; have n0_ := Aside0.mk (Kd.R_below (by (with_reducible repeat (first | apply Kd.R_alloc | apply Kd.R_drewN | apply Kd.R_drew)); exact HO430.out) hb); have n1_ := Aside0.mk (Kd.R_below (by (with_reducible repeat (first | apply Kd.R_alloc | apply Kd.R_drewN | apply Kd.R_drew)); exact HO436.out) hb); have n2_ := Aside0.mk (blk_below (g := gb432) (o := .cells #[.int .i64 t427, .slice Ao9 t428.length co9] 26 (0, 0)) (by (with_reducible repeat (first | refine blk_drewN ?_ _ | refine blk_drew ?_ | refine blk_alloc ?_ _)); exact BK432.out) hb); have n3_ := Aside0.mk (below_step (by repeat (first | (with_reducible first | exact HB.out | apply below_alloc | apply pw_below_drewN | apply below_drew1 | refine below_set ?_ GE432.out) | exact HB.out)) hb); have n4_ := Aside0.mk (hbox); have n5_ := Aside0.mk ((by rw [hg]; exact (below_size (by repeat (first | (with_reducible first | exact HB.out | apply below_alloc | apply pw_below_drewN | apply below_drew1 | refine below_set ?_ GE432.out) | exact HB.out))) : w.heap.size ≤ gb438)); have n6_ := Aside0.mk ((by rw [hg]; exact (below_size (by repeat (first | (with_reducible first | exact HB.out | apply below_alloc | apply pw_below_drewN | apply below_drew1 | refine below_set ?_ GE432.out) | exact HB.out))) : w.heap.size ≤ gb438)); have n7_ := Aside0.mk ((by rw [hg]; exact Nat.ne_of_lt (blk_lt (g := gb432) (o := .cells #[.int .i64 t427, .slice Ao9 t428.length co9] 26 (0, 0)) (by (with_reducible repeat (first | refine blk_drewN ?_ _ | refine blk_drew ?_ | refine blk_alloc ?_ _)); exact BK432.out)) : gb432 ≠ gb438)); have n8_ := Aside0.mk ((by rw [hg]; exact Nat.ne_of_gt (blk_lt (g := gb432) (o := .cells #[.int .i64 t427, .slice Ao9 t428.length co9] 26 (0, 0)) (by (with_reducible repeat (first | refine blk_drewN ?_ _ | refine blk_drew ?_ | refine blk_alloc ?_ _)); exact BK432.out)) : gb438 ≠ gb432)); clear HO430; clear HO436; clear BK432; clear HB; have HO430 := n0_; have HO436 := n1_; have BK432 := n2_; have HB := n3_; have BK438 := n4_; have GW438 := n5_; have GE438 := n6_; have NB432_438 := n7_; have NB438_432 := n8_; clear n0_ n1_ n2_ n3_ n4_ n5_ n6_ n7_ n8_; clear hb hbox hg; have hnb12 := NB438_432.out; have hnc12 := NB432_438.out; have hcz13_0 : w11.cell? ⟨gb438, 0, none⟩ = some (.int .i64 0) := (blk_cell BK438.out 0).trans rfl; have hcz13_1 : w11.cell? ⟨gb438, 1, none⟩ = some (.slice none 0 0) := (blk_cell BK438.out 1).trans rfl; have hfz13_0 := blk_frozen BK438.out 0; have hfz13_1 := blk_frozen BK438.out 1; obtain ⟨Ao14, co14, eo14⟩ := Kd.R_slice HO436.out; subst eo14))
  (try simp only [Act.put, List.setIfInBounds_toArray, List.set_cons_zero, List.set_cons_succ])
  go_cut [32] (fun v32 wc => ∃ (kq : Nat) (x32_4 : Bool), v32 = .bool x32_4 ∧ Aside0 (laws_FnExactReadDiagram.j0 kq a0 t431 x32_4 t427 t428 t433 t434 = some r) ∧ Aside0 (kq ≤ k) ∧ Aside0 (Kd.R k39 39 wc w.heap.size (fun k_ => some k_ ≠ ((.slice Ao14 t434.length co14) : Value).ownBlock) (.slice Ao9 t428.length co9) t428) ∧ Aside0 (Kd.R k39 39 wc w.heap.size (fun k_ => some k_ ≠ ((.slice Ao9 t428.length co9) : Value).ownBlock) (.slice Ao14 t434.length co14) t434) ∧ Aside0 (wc.heap[gb432]? = some (.cells #[.int .i64 t427, (.slice Ao9 t428.length co9)] 26 (0, 0))) ∧ Aside0 (wc.heap[gb438]? = some (.cells #[.int .i64 t433, (.slice Ao14 t434.length co14)] 26 (0, 0))) ∧ Aside0 (Below w.heap.size w wc))
  case first =>
   have H := HC5.out
   clear HC5
   replace H := Option.bind_eq_some_iff.mp H
   obtain ⟨t439, A150, H⟩ := H
   replace H : (if t439 = true then (laws_FnExactReadDiagram.j0 k a0 t431 (t437 != t431) t427 t428 t433 t434) else (laws_FnExactReadDiagram.j0 k a0 t431 true t427 t428 t433 t434)) = some r := H
   have A15 := Aside0.mk A150
   clear A150
   by_cases c16 : t439 = true
   ·subst c16
    have H1 : (laws_FnExactReadDiagram.j0 k a0 t431 (t437 != t431) t427 t428 t433 t434) = some r := by rw [if_pos rfl] at H; exact H
    clear H
    have H := H1
    clear H1
    have H' := Aside0.mk H
    clear H
    have hnb17 := NB438_432.out
    have hnc17 := NB432_438.out
    have hcz18_0 : w11.cell? ⟨gb438, 0, none⟩ = some (.int .i64 0) := (blk_cell BK438.out 0).trans rfl
    have hcz18_1 : w11.cell? ⟨gb438, 1, none⟩ = some (.slice none 0 0) := (blk_cell BK438.out 1).trans rfl
    have hfz18_0 := blk_frozen BK438.out 0
    have hfz18_1 := blk_frozen BK438.out 1
    have hcz19_0 : w11.cell? ⟨gb432, 0, none⟩ = some (.int .i64 t427) := (blk_cell BK432.out 0).trans rfl
    have hcz19_1 : w11.cell? ⟨gb432, 1, none⟩ = some (.slice Ao9 t428.length co9) := (blk_cell BK432.out 1).trans rfl
    have hfz19_0 := blk_frozen BK432.out 0
    have hfz19_1 := blk_frozen BK432.out 1
    go_wp2_with (first | ((with_reducible refine gate_callee (f := 17) rfl ?_); refine goesL_ (some 26) rfl rfl Tryd.func17 (by kernel_rfl) rfl #[.agg #[.int .i64 t433, .slice Ao14 t434.length co14], .agg #[.int .i64 t427, .slice Ao9 t428.length co9]] rfl (by (try simp only [List.map_toArray, List.map_cons, List.map_nil]); first | done | rfl | (simp only [List.length_drop, List.length_take]; rfl)) ?_; (with_reducible refine (laws_eqDiagram.calls k t433 _ _ t434 t427 _ _ t428 true _ ?side1 ?side2 ?side3 ?side4 A15.out).mono ?_); (case side1 => refine (Kd.R_reads' (e := 39) (base := w.heap.size) (ok := fun k_ => (True ∧ some k_ ≠ (.slice Ao9 t428.length co9 : Value).ownBlock)) (n := t434.length) (c := co14) ?_).2.2; exact (by (with_reducible repeat (first | apply Kd.R_alloc | apply Kd.R_drewN | apply Kd.R_drew)); exact (Kd.R_mono (Kd.R_far (p := ⟨gb438, 1, none⟩) (Kd.R_far (p := ⟨gb438, 0, none⟩) (Kd.R_types HO436.out BK438.out (by decide)) (fun _ hk => hk.2) (.int .i64 t433)) (fun _ hk => hk.2) (.slice Ao14 t434.length co14)) (fun _ h_ => h_.1)))); (case side2 => exact (Kd.R_reads' HO436.out).2.1); (case side3 => refine (Kd.R_reads' (e := 39) (base := w.heap.size) (ok := fun k_ => (True ∧ some k_ ≠ (.slice Ao14 t434.length co14 : Value).ownBlock)) (n := t428.length) (c := co9) ?_).2.2; exact (by (with_reducible repeat (first | apply Kd.R_alloc | apply Kd.R_drewN | apply Kd.R_drew)); exact (Kd.R_mono (Kd.R_far (p := ⟨gb438, 1, none⟩) (Kd.R_far (p := ⟨gb438, 0, none⟩) (Kd.R_types HO430.out BK438.out (by decide)) (fun _ hk => hk.2) (.int .i64 t433)) (fun _ hk => hk.2) (.slice Ao14 t434.length co14)) (fun _ h_ => h_.1)))); (case side4 => exact (Kd.R_reads' HO430.out).2.1); rintro e w20 ⟨rfl, hb⟩; refine ⟨_, rfl, ?_⟩; have n0_ := Aside0.mk (Kd.R_below (by (with_reducible repeat (first | apply Kd.R_alloc | apply Kd.R_drewN | apply Kd.R_drew)); exact (Kd.R_mono (Kd.R_far (p := ⟨gb438, 1, none⟩) (Kd.R_far (p := ⟨gb438, 0, none⟩) (Kd.R_types HO430.out BK438.out (by decide)) (fun _ hk => hk.2) (.int .i64 t433)) (fun _ hk => hk.2) (.slice Ao14 t434.length co14)) (fun _ h_ => h_.1))) hb); have n1_ := Aside0.mk (Kd.R_below (by (with_reducible repeat (first | apply Kd.R_alloc | apply Kd.R_drewN | apply Kd.R_drew)); exact (Kd.R_mono (Kd.R_far (p := ⟨gb438, 1, none⟩) (Kd.R_far (p := ⟨gb438, 0, none⟩) (Kd.R_types HO436.out BK438.out (by decide)) (fun _ hk => hk.2) (.int .i64 t433)) (fun _ hk => hk.2) (.slice Ao14 t434.length co14)) (fun _ h_ => h_.1))) hb); have n2_ := Aside0.mk (blk_below (g := gb432) (o := .cells #[.int .i64 t427, .slice Ao9 t428.length co9] 26 (0, 0)) (by (with_reducible repeat (first | refine blk_drewN ?_ _ | refine blk_drew ?_ | refine blk_alloc ?_ _)); refine blk_far ?_ NB432_438.out _; (with_reducible repeat (first | refine blk_drewN ?_ _ | refine blk_drew ?_ | refine blk_alloc ?_ _)); refine blk_far ?_ NB432_438.out _; (with_reducible repeat (first | refine blk_drewN ?_ _ | refine blk_drew ?_ | refine blk_alloc ?_ _)); exact BK432.out) hb); have n3_ := Aside0.mk (blk_below (g := gb438) (o := .cells #[.int .i64 t433, .slice Ao14 t434.length co14] 26 (0, 0)) (by (with_reducible repeat (first | refine blk_drewN ?_ _ | refine blk_drew ?_ | refine blk_alloc ?_ _)); refine blk_put (cs := #[.int .i64 t433, .slice none 0 0]) ?_ 1 _ rfl; (with_reducible repeat (first | refine blk_drewN ?_ _ | refine blk_drew ?_ | refine blk_alloc ?_ _)); refine blk_put (cs := #[.int .i64 0, .slice none 0 0]) ?_ 0 _ rfl; (with_reducible repeat (first | refine blk_drewN ?_ _ | refine blk_drew ?_ | refine blk_alloc ?_ _)); exact BK438.out) hb); have n4_ := Aside0.mk (below_step (by repeat (first | (with_reducible first | exact HB.out | apply below_alloc | apply pw_below_drewN | apply below_drew1 | refine below_set ?_ GE432.out | refine below_set ?_ GE438.out) | exact HB.out)) hb); clear HO430; clear HO436; clear BK432; clear BK438; clear HB; have HO430 := n0_; have HO436 := n1_; have BK432 := n2_; have BK438 := n3_; have HB := n4_; clear n0_ n1_ n2_ n3_ n4_; (try clear hb); (try clear hb2); (try clear hk); (try clear hi)))
    go_meet
    case rel => exact ⟨_, ((t437 != t431)), (by first | rfl | (simp; done) | (simp [*]; done)), H', ⟨by first | omega | exact Nat.le_refl _⟩, ⟨by (with_reducible repeat (first | apply Kd.R_alloc | apply Kd.R_drewN | apply Kd.R_drew)); exact Kd.R_mono HO430.out (fun _ hk => hk.2)⟩, ⟨by (with_reducible repeat (first | apply Kd.R_alloc | apply Kd.R_drewN | apply Kd.R_drew)); exact Kd.R_mono HO436.out (fun _ hk => hk.2)⟩, ⟨by (with_reducible repeat (first | refine blk_drewN ?_ _ | refine blk_drew ?_ | refine blk_alloc ?_ _)); exact BK432.out⟩, ⟨by (with_reducible repeat (first | refine blk_drewN ?_ _ | refine blk_drew ?_ | refine blk_alloc ?_ _)); exact BK438.out⟩, ⟨by repeat (first | (with_reducible first | exact HB.out | apply below_alloc | apply pw_below_drewN | apply below_drew1 | refine below_set ?_ GE432.out | refine below_set ?_ GE438.out) | exact HB.out)⟩⟩
   ·replace c16 := Bool.eq_false_iff.mpr c16
    subst c16
    have H1 : (laws_FnExactReadDiagram.j0 k a0 t431 true t427 t428 t433 t434) = some r := by rw [if_neg (show ¬ (false = true) by decide)] at H; exact H
    clear H
    have H := H1
    clear H1
    have H' := Aside0.mk H
    clear H
    have hnb21 := NB438_432.out
    have hnc21 := NB432_438.out
    have hcz22_0 : w11.cell? ⟨gb438, 0, none⟩ = some (.int .i64 0) := (blk_cell BK438.out 0).trans rfl
    have hcz22_1 : w11.cell? ⟨gb438, 1, none⟩ = some (.slice none 0 0) := (blk_cell BK438.out 1).trans rfl
    have hfz22_0 := blk_frozen BK438.out 0
    have hfz22_1 := blk_frozen BK438.out 1
    have hcz23_0 : w11.cell? ⟨gb432, 0, none⟩ = some (.int .i64 t427) := (blk_cell BK432.out 0).trans rfl
    have hcz23_1 : w11.cell? ⟨gb432, 1, none⟩ = some (.slice Ao9 t428.length co9) := (blk_cell BK432.out 1).trans rfl
    have hfz23_0 := blk_frozen BK432.out 0
    have hfz23_1 := blk_frozen BK432.out 1
    go_wp2_with (first | ((with_reducible refine gate_callee (f := 17) rfl ?_); refine goesL_ (some 26) rfl rfl Tryd.func17 (by kernel_rfl) rfl #[.agg #[.int .i64 t433, .slice Ao14 t434.length co14], .agg #[.int .i64 t427, .slice Ao9 t428.length co9]] rfl (by (try simp only [List.map_toArray, List.map_cons, List.map_nil]); first | done | rfl | (simp only [List.length_drop, List.length_take]; rfl)) ?_; (with_reducible refine (laws_eqDiagram.calls k t433 _ _ t434 t427 _ _ t428 false _ ?side1 ?side2 ?side3 ?side4 A15.out).mono ?_); (case side1 => refine (Kd.R_reads' (e := 39) (base := w.heap.size) (ok := fun k_ => (True ∧ some k_ ≠ (.slice Ao9 t428.length co9 : Value).ownBlock)) (n := t434.length) (c := co14) ?_).2.2; exact (by (with_reducible repeat (first | apply Kd.R_alloc | apply Kd.R_drewN | apply Kd.R_drew)); exact (Kd.R_mono (Kd.R_far (p := ⟨gb438, 1, none⟩) (Kd.R_far (p := ⟨gb438, 0, none⟩) (Kd.R_types HO436.out BK438.out (by decide)) (fun _ hk => hk.2) (.int .i64 t433)) (fun _ hk => hk.2) (.slice Ao14 t434.length co14)) (fun _ h_ => h_.1)))); (case side2 => exact (Kd.R_reads' HO436.out).2.1); (case side3 => refine (Kd.R_reads' (e := 39) (base := w.heap.size) (ok := fun k_ => (True ∧ some k_ ≠ (.slice Ao14 t434.length co14 : Value).ownBlock)) (n := t428.length) (c := co9) ?_).2.2; exact (by (with_reducible repeat (first | apply Kd.R_alloc | apply Kd.R_drewN | apply Kd.R_drew)); exact (Kd.R_mono (Kd.R_far (p := ⟨gb438, 1, none⟩) (Kd.R_far (p := ⟨gb438, 0, none⟩) (Kd.R_types HO430.out BK438.out (by decide)) (fun _ hk => hk.2) (.int .i64 t433)) (fun _ hk => hk.2) (.slice Ao14 t434.length co14)) (fun _ h_ => h_.1)))); (case side4 => exact (Kd.R_reads' HO430.out).2.1); rintro e w24 ⟨rfl, hb⟩; refine ⟨_, rfl, ?_⟩; have n0_ := Aside0.mk (Kd.R_below (by (with_reducible repeat (first | apply Kd.R_alloc | apply Kd.R_drewN | apply Kd.R_drew)); exact (Kd.R_mono (Kd.R_far (p := ⟨gb438, 1, none⟩) (Kd.R_far (p := ⟨gb438, 0, none⟩) (Kd.R_types HO430.out BK438.out (by decide)) (fun _ hk => hk.2) (.int .i64 t433)) (fun _ hk => hk.2) (.slice Ao14 t434.length co14)) (fun _ h_ => h_.1))) hb); have n1_ := Aside0.mk (Kd.R_below (by (with_reducible repeat (first | apply Kd.R_alloc | apply Kd.R_drewN | apply Kd.R_drew)); exact (Kd.R_mono (Kd.R_far (p := ⟨gb438, 1, none⟩) (Kd.R_far (p := ⟨gb438, 0, none⟩) (Kd.R_types HO436.out BK438.out (by decide)) (fun _ hk => hk.2) (.int .i64 t433)) (fun _ hk => hk.2) (.slice Ao14 t434.length co14)) (fun _ h_ => h_.1))) hb); have n2_ := Aside0.mk (blk_below (g := gb432) (o := .cells #[.int .i64 t427, .slice Ao9 t428.length co9] 26 (0, 0)) (by (with_reducible repeat (first | refine blk_drewN ?_ _ | refine blk_drew ?_ | refine blk_alloc ?_ _)); refine blk_far ?_ NB432_438.out _; (with_reducible repeat (first | refine blk_drewN ?_ _ | refine blk_drew ?_ | refine blk_alloc ?_ _)); refine blk_far ?_ NB432_438.out _; (with_reducible repeat (first | refine blk_drewN ?_ _ | refine blk_drew ?_ | refine blk_alloc ?_ _)); exact BK432.out) hb); have n3_ := Aside0.mk (blk_below (g := gb438) (o := .cells #[.int .i64 t433, .slice Ao14 t434.length co14] 26 (0, 0)) (by (with_reducible repeat (first | refine blk_drewN ?_ _ | refine blk_drew ?_ | refine blk_alloc ?_ _)); refine blk_put (cs := #[.int .i64 t433, .slice none 0 0]) ?_ 1 _ rfl; (with_reducible repeat (first | refine blk_drewN ?_ _ | refine blk_drew ?_ | refine blk_alloc ?_ _)); refine blk_put (cs := #[.int .i64 0, .slice none 0 0]) ?_ 0 _ rfl; (with_reducible repeat (first | refine blk_drewN ?_ _ | refine blk_drew ?_ | refine blk_alloc ?_ _)); exact BK438.out) hb); have n4_ := Aside0.mk (below_step (by repeat (first | (with_reducible first | exact HB.out | apply below_alloc | apply pw_below_drewN | apply below_drew1 | refine below_set ?_ GE432.out | refine below_set ?_ GE438.out) | exact HB.out)) hb); clear HO430; clear HO436; clear BK432; clear BK438; clear HB; have HO430 := n0_; have HO436 := n1_; have BK432 := n2_; have BK438 := n3_; have HB := n4_; clear n0_ n1_ n2_ n3_ n4_; (try clear hb); (try clear hb2); (try clear hk); (try clear hi)))
    go_meet
    case rel => exact ⟨_, (true), (by first | rfl | (simp; done) | (simp [*]; done)), H', ⟨by first | omega | exact Nat.le_refl _⟩, ⟨by (with_reducible repeat (first | apply Kd.R_alloc | apply Kd.R_drewN | apply Kd.R_drew)); exact Kd.R_mono HO430.out (fun _ hk => hk.2)⟩, ⟨by (with_reducible repeat (first | apply Kd.R_alloc | apply Kd.R_drewN | apply Kd.R_drew)); exact Kd.R_mono HO436.out (fun _ hk => hk.2)⟩, ⟨by (with_reducible repeat (first | refine blk_drewN ?_ _ | refine blk_drew ?_ | refine blk_alloc ?_ _)); exact BK432.out⟩, ⟨by (with_reducible repeat (first | refine blk_drewN ?_ _ | refine blk_drew ?_ | refine blk_alloc ?_ _)); exact BK438.out⟩, ⟨by repeat (first | (with_reducible first | exact HB.out | apply below_alloc | apply pw_below_drewN | apply below_drew1 | refine below_set ?_ GE432.out | refine below_set ?_ GE438.out) | exact HB.out)⟩⟩
  case rest =>
   clear HC5
   try clear c1
   try clear c2
   try clear c2b0
   try clear c2b1
   try clear p2
   try clear c4
   try clear c10
   try clear c12
   try clear c16
   try clear c17
   try clear c21
   try clear hcz13_0
   try clear hcz13_1
   try clear hcz18_0
   try clear hcz18_1
   try clear hcz19_0
   try clear hcz19_1
   try clear hcz22_0
   try clear hcz22_1
   try clear hcz23_0
   try clear hcz23_1
   try clear hcz8_0
   try clear hcz8_1
   try clear hfz13_0
   try clear hfz13_1
   try clear hfz18_0
   try clear hfz18_1
   try clear hfz19_0
   try clear hfz19_1
   try clear hfz22_0
   try clear hfz22_1
   try clear hfz23_0
   try clear hfz23_1
   try clear hfz8_0
   try clear hfz8_1
   obtain ⟨kq, x32_4, rfl, HA, HJ4, HO_433001, HO_439001, BK432, BK438, HB⟩ := hcut
   cases kq with
   | zero => exact absurd HA.out (by simp [laws_FnExactReadDiagram.j0])
   | succ kj4 =>
    have H := HA.out
    clear HA
    simp only [laws_FnExactReadDiagram.j0] at H
    by_cases c25 : x32_4 = true
    ·subst c25
     have H1 : (some false) = some r := by rw [if_pos rfl] at H; exact H
     clear H
     have H := H1
     clear H1
     obtain rfl := Option.some.inj H
     go_wp2
     go_ret
     exact ⟨by first | rfl | (simp [errW_none, errW_some] <;> rfl) | (simp [*, errW_none, errW_some] <;> rfl), by repeat (first | (with_reducible first | exact HB.out | apply below_alloc | apply pw_below_drewN | apply below_drew1 | refine below_set ?_ GE432.out | refine below_set ?_ GE438.out) | exact HB.out)⟩
    ·replace c25 := Bool.eq_false_iff.mpr c25
     subst c25
     have H1 : ((laws_markDiagram.f kj4 t433 t434 1).bind fun bt440 => ((laws_heldDiagram.f kj4 t433 bt440.2 1).bind fun t442 => (if t442 < 0 then (some false) else (if t442 = bt440.1 then ((impl_ReadDiagram.f a0).bind fun bt443 => ((laws_eqDiagram.f kj4 bt443.1 bt443.2.1 t427 t428).bind fun t449 => (if t449 = true then (laws_FnExactReadDiagram.j1 kj4 bt440.1 (bt443.2.2 != t431) t433 bt440.2) else (laws_FnExactReadDiagram.j1 kj4 bt440.1 true t433 bt440.2)))) else (some false))))) = some r := by rw [if_neg (show ¬ (false = true) by decide)] at H; exact H
     clear H
     have H := H1
     clear H1
     replace H := Option.bind_eq_some_iff.mp H
     obtain ⟨⟨t440, t441⟩, A260, H⟩ := H
     replace H : ((laws_heldDiagram.f kj4 t433 t441 1).bind fun t442 => (if t442 < 0 then (some false) else (if t442 = t440 then ((impl_ReadDiagram.f a0).bind fun bt443 => ((laws_eqDiagram.f kj4 bt443.1 bt443.2.1 t427 t428).bind fun t449 => (if t449 = true then (laws_FnExactReadDiagram.j1 kj4 t440 (bt443.2.2 != t431) t433 t441) else (laws_FnExactReadDiagram.j1 kj4 t440 true t433 t441)))) else (some false)))) = some r := H
     have A26 := Aside0.mk A260
     clear A260
     replace H := Option.bind_eq_some_iff.mp H
     obtain ⟨t442, A270, H⟩ := H
     replace H : (if t442 < 0 then (some false) else (if t442 = t440 then ((impl_ReadDiagram.f a0).bind fun bt443 => ((laws_eqDiagram.f kj4 bt443.1 bt443.2.1 t427 t428).bind fun t449 => (if t449 = true then (laws_FnExactReadDiagram.j1 kj4 t440 (bt443.2.2 != t431) t433 t441) else (laws_FnExactReadDiagram.j1 kj4 t440 true t433 t441)))) else (some false))) = some r := H
     have A27 := Aside0.mk A270
     clear A270
     by_cases c28 : t442 < 0
     ·rw [if_pos c28] at H
      have c28b0 : decide (t442 < 0) = true := decide_eq_true c28
      clear c28
      obtain rfl := Option.some.inj H
      have hnb29 := NB438_432.out
      have hnc29 := NB432_438.out
      have hcz30_0 : wc.cell? ⟨gb438, 0, none⟩ = some (.int .i64 t433) := (blk_cell BK438.out 0).trans rfl
      have hcz30_1 : wc.cell? ⟨gb438, 1, none⟩ = some (.slice Ao14 t434.length co14) := (blk_cell BK438.out 1).trans rfl
      have hfz30_0 := blk_frozen BK438.out 0
      have hfz30_1 := blk_frozen BK438.out 1
      go_wp2_with (first | ((with_reducible refine gate_callee (f := 18) rfl ?_); refine goesL_ (some 35) rfl rfl Tryd.func18 (by kernel_rfl) rfl #[.agg #[.int .i64 t433, .slice Ao14 t434.length co14], .int .i64 1] rfl (by (try simp only [List.map_toArray, List.map_cons, List.map_nil]); first | done | rfl | (simp only [List.length_drop, List.length_take]; rfl)) ?_; (with_reducible refine (laws_markDiagram.calls kj4 t433 (fun k_ => some k_ = (.slice Ao14 t434.length co14 : Value).ownBlock) (.slice Ao14 t434.length co14) t434 1 t440 t441 w _ ?side1 ?side2 A26.out).mono ?_); (case side1 => repeat (first | (with_reducible first | exact HB.out | apply below_alloc | apply pw_below_drewN | apply below_drew1 | refine below_set ?_ GE432.out | refine below_set ?_ GE438.out) | exact HB.out)); (case side2 => exact Kd.R_tight rfl HO_439001.out); rintro e w31 ⟨rfl, hy0, hb, hkp⟩; refine ⟨_, rfl, ?_⟩; have n0_ := Aside0.mk (Kd.R_mono (ok' := fun k_ => some k_ ≠ (.slice Ao14 t434.length co14 : Value).ownBlock) (Kd.R_keptB (HO_433001.out) hkp (fun k_ hk_ hs_ => (hk_) hs_)) (fun k_ hk_ => hk_.1)); have n1_ := Aside0.mk (Kd.R_reok rfl hy0 (fun k_ e_ => HO_439001.out.1 k_ e_)); have n2_ := Aside0.mk (blk_kept (by (with_reducible repeat (first | refine blk_drewN ?_ _ | refine blk_drew ?_ | refine blk_alloc ?_ _)); exact BK432.out) hkp (fun hs_ => (fun e_ => (Kd.R_ne HO_439001.out BK432.out (by decide)) e_) hs_)); have n3_ := Aside0.mk (blk_kept (by (with_reducible repeat (first | refine blk_drewN ?_ _ | refine blk_drew ?_ | refine blk_alloc ?_ _)); exact BK438.out) hkp (fun hs_ => (fun e_ => (Kd.R_ne HO_439001.out BK438.out (by decide)) e_) hs_)); have n4_ := Aside0.mk (hb); clear HO_433001; clear HO_439001; clear BK432; clear BK438; clear HB; have HO_433001 := n0_; have HO_439001 := n1_; have BK432 := n2_; have BK438 := n3_; have HB := n4_; clear n0_ n1_ n2_ n3_ n4_; (try clear hb); (try clear hkp); (try clear hy0); have hcz32_0 : w31.cell? ⟨gb438, 0, none⟩ = some (.int .i64 t433) := (blk_cell BK438.out 0).trans rfl; have hcz32_1 : w31.cell? ⟨gb438, 1, none⟩ = some (.slice Ao14 t434.length co14) := (blk_cell BK438.out 1).trans rfl; have hfz32_0 := blk_frozen BK438.out 0; have hfz32_1 := blk_frozen BK438.out 1) | ((with_reducible refine gate_callee (f := 19) rfl ?_); refine goesL_ (some 38) rfl rfl Tryd.func19 (by kernel_rfl) rfl #[.agg #[.int .i64 t433, .slice Ao14 t441.length co14], .int .i64 1] rfl (by (try simp only [List.map_toArray, List.map_cons, List.map_nil]); first | done | (rw [show t441.length = t434.length from (Kd.R_reads' HO_439001.out).1.symm] <;> rfl) | rfl | (simp only [List.length_drop, List.length_take]; rfl)) ?_; (with_reducible refine (laws_heldDiagram.calls kj4 t433 _ _ t441 1 t442 _ ?side1 ?side2 A27.out).mono ?_); (case side1 => repeat (first | exact (Kd.R_reads' HO_439001.out).2.2 | (with_reducible refine Kd.C_alloc ?_ _) | (with_reducible refine Kd.C_drewN ?_ _) | (with_reducible refine Kd.C_drew ?_))); (case side2 => rw [show t441.length = t434.length from (Kd.R_reads' HO_439001.out).1.symm]; exact (Kd.R_reads' HO_439001.out).2.1); rintro e w33 ⟨rfl, hb⟩; refine ⟨_, rfl, ?_⟩; have n0_ := Aside0.mk (Kd.R_below (by (with_reducible repeat (first | apply Kd.R_alloc | apply Kd.R_drewN | apply Kd.R_drew)); exact HO_433001.out) hb); have n1_ := Aside0.mk (Kd.R_below (by (with_reducible repeat (first | apply Kd.R_alloc | apply Kd.R_drewN | apply Kd.R_drew)); exact HO_439001.out) hb); have n2_ := Aside0.mk (blk_below (g := gb432) (o := .cells #[.int .i64 t427, .slice Ao9 t428.length co9] 26 (0, 0)) (by (with_reducible repeat (first | refine blk_drewN ?_ _ | refine blk_drew ?_ | refine blk_alloc ?_ _)); exact BK432.out) hb); have n3_ := Aside0.mk (blk_below (g := gb438) (o := .cells #[.int .i64 t433, .slice Ao14 t434.length co14] 26 (0, 0)) (by (with_reducible repeat (first | refine blk_drewN ?_ _ | refine blk_drew ?_ | refine blk_alloc ?_ _)); exact BK438.out) hb); have n4_ := Aside0.mk (below_step (by repeat (first | (with_reducible first | exact HB.out | apply below_alloc | apply pw_below_drewN | apply below_drew1 | refine below_set ?_ GE432.out | refine below_set ?_ GE438.out) | exact HB.out)) hb); clear HO_433001; clear HO_439001; clear BK432; clear BK438; clear HB; have HO_433001 := n0_; have HO_439001 := n1_; have BK432 := n2_; have BK438 := n3_; have HB := n4_; clear n0_ n1_ n2_ n3_ n4_; (try clear hb); (try clear hb2); (try clear hk); (try clear hi)))
      go_ret
      exact ⟨by first | rfl | (simp [errW_none, errW_some] <;> rfl) | (simp [*, errW_none, errW_some] <;> rfl), by repeat (first | (with_reducible first | exact HB.out | apply below_alloc | apply pw_below_drewN | apply below_drew1 | refine below_set ?_ GE432.out | refine below_set ?_ GE438.out) | exact HB.out)⟩
     ·rw [if_neg c28] at H
      have c28b0 : decide (t442 < 0) = false := decide_eq_false c28
      clear c28
      by_cases c34 : t442 = t440
      ·rw [if_pos c34] at H
       have c34b0 : (t442 == t440) = true := beq_iff_eq.mpr c34
       have c34b1 : (t442 != t440) = false := bne_eq_false_iff_eq.mpr c34
       clear c34
       replace H := Option.bind_eq_some_iff.mp H
       obtain ⟨⟨t443, t444, t447⟩, A350, H⟩ := H
       replace H : ((laws_eqDiagram.f kj4 t443 t444 t427 t428).bind fun t449 => (if t449 = true then (laws_FnExactReadDiagram.j1 kj4 t440 (t447 != t431) t433 t441) else (laws_FnExactReadDiagram.j1 kj4 t440 true t433 t441))) = some r := H
       have A35 := Aside0.mk A350
       clear A350
       have HC36 := Aside0.mk H
       clear H
       have hnb37 := NB438_432.out
       have hnc37 := NB432_438.out
       have hcz38_0 : wc.cell? ⟨gb438, 0, none⟩ = some (.int .i64 t433) := (blk_cell BK438.out 0).trans rfl
       have hcz38_1 : wc.cell? ⟨gb438, 1, none⟩ = some (.slice Ao14 t434.length co14) := (blk_cell BK438.out 1).trans rfl
       have hfz38_0 := blk_frozen BK438.out 0
       have hfz38_1 := blk_frozen BK438.out 1
       go_upto_region 16 with (first | ((with_reducible refine gate_callee (f := 18) rfl ?_); refine goesL_ (some 35) rfl rfl Tryd.func18 (by kernel_rfl) rfl #[.agg #[.int .i64 t433, .slice Ao14 t434.length co14], .int .i64 1] rfl (by (try simp only [List.map_toArray, List.map_cons, List.map_nil]); first | done | rfl | (simp only [List.length_drop, List.length_take]; rfl)) ?_; (with_reducible refine (laws_markDiagram.calls kj4 t433 (fun k_ => some k_ = (.slice Ao14 t434.length co14 : Value).ownBlock) (.slice Ao14 t434.length co14) t434 1 t440 t441 w _ ?side1 ?side2 A26.out).mono ?_); (case side1 => repeat (first | (with_reducible first | exact HB.out | apply below_alloc | apply pw_below_drewN | apply below_drew1 | refine below_set ?_ GE432.out | refine below_set ?_ GE438.out) | exact HB.out)); (case side2 => exact Kd.R_tight rfl HO_439001.out); rintro e w39 ⟨rfl, hy0, hb, hkp⟩; refine ⟨_, rfl, ?_⟩; have n0_ := Aside0.mk (Kd.R_mono (ok' := fun k_ => some k_ ≠ (.slice Ao14 t434.length co14 : Value).ownBlock) (Kd.R_keptB (HO_433001.out) hkp (fun k_ hk_ hs_ => (hk_) hs_)) (fun k_ hk_ => hk_.1)); have n1_ := Aside0.mk (Kd.R_reok rfl hy0 (fun k_ e_ => HO_439001.out.1 k_ e_)); have n2_ := Aside0.mk (blk_kept (by (with_reducible repeat (first | refine blk_drewN ?_ _ | refine blk_drew ?_ | refine blk_alloc ?_ _)); exact BK432.out) hkp (fun hs_ => (fun e_ => (Kd.R_ne HO_439001.out BK432.out (by decide)) e_) hs_)); have n3_ := Aside0.mk (blk_kept (by (with_reducible repeat (first | refine blk_drewN ?_ _ | refine blk_drew ?_ | refine blk_alloc ?_ _)); exact BK438.out) hkp (fun hs_ => (fun e_ => (Kd.R_ne HO_439001.out BK438.out (by decide)) e_) hs_)); have n4_ := Aside0.mk (hb); clear HO_433001; clear HO_439001; clear BK432; clear BK438; clear HB; have HO_433001 := n0_; have HO_439001 := n1_; have BK432 := n2_; have BK438 := n3_; have HB := n4_; clear n0_ n1_ n2_ n3_ n4_; (try clear hb); (try clear hkp); (try clear hy0); have hcz40_0 : w39.cell? ⟨gb438, 0, none⟩ = some (.int .i64 t433) := (blk_cell BK438.out 0).trans rfl; have hcz40_1 : w39.cell? ⟨gb438, 1, none⟩ = some (.slice Ao14 t434.length co14) := (blk_cell BK438.out 1).trans rfl; have hfz40_0 := blk_frozen BK438.out 0; have hfz40_1 := blk_frozen BK438.out 1) | ((with_reducible refine gate_callee (f := 19) rfl ?_); refine goesL_ (some 38) rfl rfl Tryd.func19 (by kernel_rfl) rfl #[.agg #[.int .i64 t433, .slice Ao14 t441.length co14], .int .i64 1] rfl (by (try simp only [List.map_toArray, List.map_cons, List.map_nil]); first | done | (rw [show t441.length = t434.length from (Kd.R_reads' HO_439001.out).1.symm] <;> rfl) | rfl | (simp only [List.length_drop, List.length_take]; rfl)) ?_; (with_reducible refine (laws_heldDiagram.calls kj4 t433 _ _ t441 1 t442 _ ?side1 ?side2 A27.out).mono ?_); (case side1 => repeat (first | exact (Kd.R_reads' HO_439001.out).2.2 | (with_reducible refine Kd.C_alloc ?_ _) | (with_reducible refine Kd.C_drewN ?_ _) | (with_reducible refine Kd.C_drew ?_))); (case side2 => rw [show t441.length = t434.length from (Kd.R_reads' HO_439001.out).1.symm]; exact (Kd.R_reads' HO_439001.out).2.1); rintro e w41 ⟨rfl, hb⟩; refine ⟨_, rfl, ?_⟩; have n0_ := Aside0.mk (Kd.R_below (by (with_reducible repeat (first | apply Kd.R_alloc | apply Kd.R_drewN | apply Kd.R_drew)); exact HO_433001.out) hb); have n1_ := Aside0.mk (Kd.R_below (by (with_reducible repeat (first | apply Kd.R_alloc | apply Kd.R_drewN | apply Kd.R_drew)); exact HO_439001.out) hb); have n2_ := Aside0.mk (blk_below (g := gb432) (o := .cells #[.int .i64 t427, .slice Ao9 t428.length co9] 26 (0, 0)) (by (with_reducible repeat (first | refine blk_drewN ?_ _ | refine blk_drew ?_ | refine blk_alloc ?_ _)); exact BK432.out) hb); have n3_ := Aside0.mk (blk_below (g := gb438) (o := .cells #[.int .i64 t433, .slice Ao14 t434.length co14] 26 (0, 0)) (by (with_reducible repeat (first | refine blk_drewN ?_ _ | refine blk_drew ?_ | refine blk_alloc ?_ _)); exact BK438.out) hb); have n4_ := Aside0.mk (below_step (by repeat (first | (with_reducible first | exact HB.out | apply below_alloc | apply pw_below_drewN | apply below_drew1 | refine below_set ?_ GE432.out | refine below_set ?_ GE438.out) | exact HB.out)) hb); clear HO_433001; clear HO_439001; clear BK432; clear BK438; clear HB; have HO_433001 := n0_; have HO_439001 := n1_; have BK432 := n2_; have BK438 := n3_; have HB := n4_; clear n0_ n1_ n2_ n3_ n4_; (try clear hb); (try clear hb2); (try clear hk); (try clear hi)) | ((with_reducible refine gate_callee (f := 10) rfl ?_); refine goesL_ (some 46) rfl rfl Tryd.func10 (by kernel_rfl) rfl #[.string a0] rfl (by (try simp only [List.map_toArray, List.map_cons, List.map_nil]); first | done | rfl | (simp only [List.length_drop, List.length_take]; rfl)) ?_; (with_reducible refine (impl_ReadDiagram.calls a0 t443 t444 t447 _ (HEnv_.out.below (by repeat (first | (with_reducible first | exact HB.out | apply below_alloc | apply pw_below_drewN | apply below_drew1 | refine below_set ?_ GE432.out | refine below_set ?_ GE438.out | refine below_set ?_ GE448.out) | exact HB.out))) A35.out).mono ?_); rintro e w42 ⟨v445, rfl, ho0, hb⟩; refine ⟨_, rfl, ?_⟩; have n0_ := Aside0.mk (Kd.R_elder' (by (with_reducible repeat (first | apply Kd.R_alloc | apply Kd.R_drewN | apply Kd.R_drew)); exact HO_433001.out) (Kd.R_base ho0) hb); have n1_ := Aside0.mk (Kd.R_elder' (by (with_reducible repeat (first | apply Kd.R_alloc | apply Kd.R_drewN | apply Kd.R_drew)); exact HO_439001.out) (Kd.R_base ho0) hb); have n2_ := Aside0.mk (Kd.R_lower (Kd.R_new' (Kd.R_new' ho0 (Kd.R_lt (by (with_reducible repeat (first | apply Kd.R_alloc | apply Kd.R_drewN | apply Kd.R_drew)); exact HO_433001.out))) (Kd.R_lt (by (with_reducible repeat (first | apply Kd.R_alloc | apply Kd.R_drewN | apply Kd.R_drew)); exact HO_439001.out))) (below_size (by repeat (first | (with_reducible first | exact HB.out | apply below_alloc | apply pw_below_drewN | apply below_drew1 | refine below_set ?_ GE432.out | refine below_set ?_ GE438.out) | exact HB.out)))); have n3_ := Aside0.mk (blk_below (g := gb432) (o := .cells #[.int .i64 t427, .slice Ao9 t428.length co9] 26 (0, 0)) (by (with_reducible repeat (first | refine blk_drewN ?_ _ | refine blk_drew ?_ | refine blk_alloc ?_ _)); exact BK432.out) hb); have n4_ := Aside0.mk (blk_below (g := gb438) (o := .cells #[.int .i64 t433, .slice Ao14 t434.length co14] 26 (0, 0)) (by (with_reducible repeat (first | refine blk_drewN ?_ _ | refine blk_drew ?_ | refine blk_alloc ?_ _)); exact BK438.out) hb); have n5_ := Aside0.mk (below_step (by repeat (first | (with_reducible first | exact HB.out | apply below_alloc | apply pw_below_drewN | apply below_drew1 | refine below_set ?_ GE432.out | refine below_set ?_ GE438.out) | exact HB.out)) hb); clear HO_433001; clear HO_439001; clear BK432; clear BK438; clear HB; have HO_433001 := n0_; have HO_439001 := n1_; have HO446 := n2_; have BK432 := n3_; have BK438 := n4_; have HB := n5_; clear n0_ n1_ n2_ n3_ n4_ n5_; (try clear hb); (try clear hb2); (try clear hk); (try clear hi); (try clear ho0)) | ((with_reducible refine gate_dst (N := 9) rfl ?_); refine box_event ?hg (N := 9) ?hd (cs := #[.int .i64 0, .slice none 0 0]) (t := 26) ?hr ?_; (case hd => rfl); (case hg => rfl); (case hr => first | (go_simp; done) | (go_simp; rfl)); intro gb448 hg w43 hbox hb; have n0_ := Aside0.mk (Kd.R_below (by (with_reducible repeat (first | apply Kd.R_alloc | apply Kd.R_drewN | apply Kd.R_drew)); exact HO_433001.out) hb); have n1_ := Aside0.mk (Kd.R_below (by (with_reducible repeat (first | apply Kd.R_alloc | apply Kd.R_drewN | apply Kd.R_drew)); exact HO_439001.out) hb); have n2_ := Aside0.mk (Kd.R_below (by (with_reducible repeat (first | apply Kd.R_alloc | apply Kd.R_drewN | apply Kd.R_drew)); exact HO446.out) hb); have n3_ := Aside0.mk (blk_below (g := gb432) (o := .cells #[.int .i64 t427, .slice Ao9 t428.length co9] 26 (0, 0)) (by (with_reducible repeat (first | refine blk_drewN ?_ _ | refine blk_drew ?_ | refine blk_alloc ?_ _)); exact BK432.out) hb); have n4_ := Aside0.mk (blk_below (g := gb438) (o := .cells #[.int .i64 t433, .slice Ao14 t434.length co14] 26 (0, 0)) (by (with_reducible repeat (first | refine blk_drewN ?_ _ | refine blk_drew ?_ | refine blk_alloc ?_ _)); exact BK438.out) hb); have n5_ := Aside0.mk (below_step (by repeat (first | (with_reducible first | exact HB.out | apply below_alloc | apply pw_below_drewN | apply below_drew1 | refine below_set ?_ GE432.out | refine below_set ?_ GE438.out) | exact HB.out)) hb); have n6_ := Aside0.mk (hbox); have n7_ := Aside0.mk ((by rw [hg]; exact (below_size (by repeat (first | (with_reducible first | exact HB.out | apply below_alloc | apply pw_below_drewN | apply below_drew1 | refine below_set ?_ GE432.out | refine below_set ?_ GE438.out) | exact HB.out))) : w.heap.size ≤ gb448)); have n8_ := Aside0.mk ((by rw [hg]; exact (below_size (by repeat (first | (with_reducible first | exact HB.out | apply below_alloc | apply pw_below_drewN | apply below_drew1 | refine below_set ?_ GE432.out | refine below_set ?_ GE438.out) | exact HB.out))) : w.heap.size ≤ gb448)); have n9_ := Aside0.mk ((by rw [hg]; exact Nat.ne_of_lt (blk_lt (g := gb432) (o := .cells #[.int .i64 t427, .slice Ao9 t428.length co9] 26 (0, 0)) (by (with_reducible repeat (first | refine blk_drewN ?_ _ | refine blk_drew ?_ | refine blk_alloc ?_ _)); exact BK432.out)) : gb432 ≠ gb448)); have n10_ := Aside0.mk ((by rw [hg]; exact Nat.ne_of_gt (blk_lt (g := gb432) (o := .cells #[.int .i64 t427, .slice Ao9 t428.length co9] 26 (0, 0)) (by (with_reducible repeat (first | refine blk_drewN ?_ _ | refine blk_drew ?_ | refine blk_alloc ?_ _)); exact BK432.out)) : gb448 ≠ gb432)); have n11_ := Aside0.mk ((by rw [hg]; exact Nat.ne_of_lt (blk_lt (g := gb438) (o := .cells #[.int .i64 t433, .slice Ao14 t434.length co14] 26 (0, 0)) (by (with_reducible repeat (first | refine blk_drewN ?_ _ | refine blk_drew ?_ | refine blk_alloc ?_ _)); exact BK438.out)) : gb438 ≠ gb448)); have n12_ := Aside0.mk ((by rw [hg]; exact Nat.ne_of_gt (blk_lt (g := gb438) (o := .cells #[.int .i64 t433, .slice Ao14 t434.length co14] 26 (0, 0)) (by (with_reducible repeat (first | refine blk_drewN ?_ _ | refine blk_drew ?_ | refine blk_alloc ?_ _)); exact BK438.out)) : gb448 ≠ gb438)); clear HO_433001; clear HO_439001; clear HO446; clear BK432; clear BK438; clear HB; have HO_433001 := n0_; have HO_439001 := n1_; have HO446 := n2_; have BK432 := n3_; have BK438 := n4_; have HB := n5_; have BK448 := n6_; have GW448 := n7_; have GE448 := n8_; have NB432_448 := n9_; have NB448_432 := n10_; have NB438_448 := n11_; have NB448_438 := n12_; clear n0_ n1_ n2_ n3_ n4_ n5_ n6_ n7_ n8_ n9_ n10_ n11_ n12_; clear hb hbox hg; have hnb44 := NB448_432.out; have hnc44 := NB432_448.out; have hnb45 := NB448_438.out; have hnc45 := NB438_448.out; have hcz46_0 : w43.cell? ⟨gb448, 0, none⟩ = some (.int .i64 0) := (blk_cell BK448.out 0).trans rfl; have hcz46_1 : w43.cell? ⟨gb448, 1, none⟩ = some (.slice none 0 0) := (blk_cell BK448.out 1).trans rfl; have hfz46_0 := blk_frozen BK448.out 0; have hfz46_1 := blk_frozen BK448.out 1; obtain ⟨Ao47, co47, eo47⟩ := Kd.R_slice HO446.out; subst eo47))
       (try simp only [Act.put, List.setIfInBounds_toArray, List.set_cons_zero, List.set_cons_succ])
       go_cut [57] (fun v57 wc => ∃ (kq : Nat) (x57_35 : Bool), v57 = .bool x57_35 ∧ Aside0 (laws_FnExactReadDiagram.j1 kq t440 x57_35 t433 t441 = some r) ∧ Aside0 (kq ≤ kj4) ∧ Aside0 (Kd.R k39 39 wc w.heap.size (fun k_ => some k_ ≠ ((.slice Ao14 t434.length co14) : Value).ownBlock ∧ some k_ ≠ ((.slice Ao47 t444.length co47) : Value).ownBlock) (.slice Ao9 t428.length co9) t428) ∧ Aside0 (Kd.R k39 39 wc w.heap.size (fun k_ => some k_ ≠ ((.slice Ao9 t428.length co9) : Value).ownBlock ∧ some k_ ≠ ((.slice Ao47 t444.length co47) : Value).ownBlock) (.slice Ao14 t434.length co14) t441) ∧ Aside0 (Kd.R k39 39 wc w.heap.size (fun k_ => some k_ ≠ ((.slice Ao9 t428.length co9) : Value).ownBlock ∧ some k_ ≠ ((.slice Ao14 t434.length co14) : Value).ownBlock) (.slice Ao47 t444.length co47) t444) ∧ Aside0 (wc.heap[gb432]? = some (.cells #[.int .i64 t427, (.slice Ao9 t428.length co9)] 26 (0, 0))) ∧ Aside0 (wc.heap[gb438]? = some (.cells #[.int .i64 t433, (.slice Ao14 t434.length co14)] 26 (0, 0))) ∧ Aside0 (wc.heap[gb448]? = some (.cells #[.int .i64 t443, (.slice Ao47 t444.length co47)] 26 (0, 0))) ∧ Aside0 (Below w.heap.size w wc))
       case first =>
        have H := HC36.out
        clear HC36
        replace H := Option.bind_eq_some_iff.mp H
        obtain ⟨t449, A480, H⟩ := H
        replace H : (if t449 = true then (laws_FnExactReadDiagram.j1 kj4 t440 (t447 != t431) t433 t441) else (laws_FnExactReadDiagram.j1 kj4 t440 true t433 t441)) = some r := H
        have A48 := Aside0.mk A480
        clear A480
        by_cases c49 : t449 = true
        ·subst c49
         have H1 : (laws_FnExactReadDiagram.j1 kj4 t440 (t447 != t431) t433 t441) = some r := by rw [if_pos rfl] at H; exact H
         clear H
         have H := H1
         clear H1
         have H' := Aside0.mk H
         clear H
         have hnb50 := NB448_432.out
         have hnc50 := NB432_448.out
         have hnb51 := NB448_438.out
         have hnc51 := NB438_448.out
         have hcz52_0 : w43.cell? ⟨gb448, 0, none⟩ = some (.int .i64 0) := (blk_cell BK448.out 0).trans rfl
         have hcz52_1 : w43.cell? ⟨gb448, 1, none⟩ = some (.slice none 0 0) := (blk_cell BK448.out 1).trans rfl
         have hfz52_0 := blk_frozen BK448.out 0
         have hfz52_1 := blk_frozen BK448.out 1
         have hnb53 := NB432_438.out
         have hnc53 := NB438_432.out
         have hcz54_0 : w43.cell? ⟨gb432, 0, none⟩ = some (.int .i64 t427) := (blk_cell BK432.out 0).trans rfl
         have hcz54_1 : w43.cell? ⟨gb432, 1, none⟩ = some (.slice Ao9 t428.length co9) := (blk_cell BK432.out 1).trans rfl
         have hfz54_0 := blk_frozen BK432.out 0
         have hfz54_1 := blk_frozen BK432.out 1
         go_wp2_with (first | ((with_reducible refine gate_callee (f := 17) rfl ?_); refine goesL_ (some 51) rfl rfl Tryd.func17 (by kernel_rfl) rfl #[.agg #[.int .i64 t443, .slice Ao47 t444.length co47], .agg #[.int .i64 t427, .slice Ao9 t428.length co9]] rfl (by (try simp only [List.map_toArray, List.map_cons, List.map_nil]); first | done | rfl | (simp only [List.length_drop, List.length_take]; rfl)) ?_; (with_reducible refine (laws_eqDiagram.calls kj4 t443 _ _ t444 t427 _ _ t428 true _ ?side1 ?side2 ?side3 ?side4 A48.out).mono ?_); (case side1 => refine (Kd.R_reads' (e := 39) (base := w.heap.size) (ok := fun k_ => ((True ∧ some k_ ≠ (.slice Ao9 t428.length co9 : Value).ownBlock) ∧ some k_ ≠ (.slice Ao14 t434.length co14 : Value).ownBlock)) (n := t444.length) (c := co47) ?_).2.2; exact (by (with_reducible repeat (first | apply Kd.R_alloc | apply Kd.R_drewN | apply Kd.R_drew)); exact (Kd.R_mono (Kd.R_far (p := ⟨gb448, 1, none⟩) (Kd.R_far (p := ⟨gb448, 0, none⟩) (Kd.R_types HO446.out BK448.out (by decide)) (fun _ hk => hk.2) (.int .i64 t443)) (fun _ hk => hk.2) (.slice Ao47 t444.length co47)) (fun _ h_ => h_.1)))); (case side2 => exact (Kd.R_reads' HO446.out).2.1); (case side3 => refine (Kd.R_reads' (e := 39) (base := w.heap.size) (ok := fun k_ => (some k_ ≠ (.slice Ao14 t434.length co14 : Value).ownBlock ∧ some k_ ≠ (.slice Ao47 t444.length co47 : Value).ownBlock)) (n := t428.length) (c := co9) ?_).2.2; exact (by (with_reducible repeat (first | apply Kd.R_alloc | apply Kd.R_drewN | apply Kd.R_drew)); exact (Kd.R_mono (Kd.R_far (p := ⟨gb448, 1, none⟩) (Kd.R_far (p := ⟨gb448, 0, none⟩) (Kd.R_types HO_433001.out BK448.out (by decide)) (fun _ hk => hk.2) (.int .i64 t443)) (fun _ hk => hk.2) (.slice Ao47 t444.length co47)) (fun _ h_ => h_.1)))); (case side4 => exact (Kd.R_reads' HO_433001.out).2.1); rintro e w55 ⟨rfl, hb⟩; refine ⟨_, rfl, ?_⟩; have n0_ := Aside0.mk (Kd.R_below (by (with_reducible repeat (first | apply Kd.R_alloc | apply Kd.R_drewN | apply Kd.R_drew)); exact (Kd.R_mono (Kd.R_far (p := ⟨gb448, 1, none⟩) (Kd.R_far (p := ⟨gb448, 0, none⟩) (Kd.R_types HO_433001.out BK448.out (by decide)) (fun _ hk => hk.2) (.int .i64 t443)) (fun _ hk => hk.2) (.slice Ao47 t444.length co47)) (fun _ h_ => h_.1))) hb); have n1_ := Aside0.mk (Kd.R_below (by (with_reducible repeat (first | apply Kd.R_alloc | apply Kd.R_drewN | apply Kd.R_drew)); exact (Kd.R_mono (Kd.R_far (p := ⟨gb448, 1, none⟩) (Kd.R_far (p := ⟨gb448, 0, none⟩) (Kd.R_types HO_439001.out BK448.out (by decide)) (fun _ hk => hk.2) (.int .i64 t443)) (fun _ hk => hk.2) (.slice Ao47 t444.length co47)) (fun _ h_ => h_.1))) hb); have n2_ := Aside0.mk (Kd.R_below (by (with_reducible repeat (first | apply Kd.R_alloc | apply Kd.R_drewN | apply Kd.R_drew)); exact (Kd.R_mono (Kd.R_far (p := ⟨gb448, 1, none⟩) (Kd.R_far (p := ⟨gb448, 0, none⟩) (Kd.R_types HO446.out BK448.out (by decide)) (fun _ hk => hk.2) (.int .i64 t443)) (fun _ hk => hk.2) (.slice Ao47 t444.length co47)) (fun _ h_ => h_.1))) hb); have n3_ := Aside0.mk (blk_below (g := gb432) (o := .cells #[.int .i64 t427, .slice Ao9 t428.length co9] 26 (0, 0)) (by (with_reducible repeat (first | refine blk_drewN ?_ _ | refine blk_drew ?_ | refine blk_alloc ?_ _)); refine blk_far ?_ NB432_448.out _; (with_reducible repeat (first | refine blk_drewN ?_ _ | refine blk_drew ?_ | refine blk_alloc ?_ _)); refine blk_far ?_ NB432_448.out _; (with_reducible repeat (first | refine blk_drewN ?_ _ | refine blk_drew ?_ | refine blk_alloc ?_ _)); exact BK432.out) hb); have n4_ := Aside0.mk (blk_below (g := gb438) (o := .cells #[.int .i64 t433, .slice Ao14 t434.length co14] 26 (0, 0)) (by (with_reducible repeat (first | refine blk_drewN ?_ _ | refine blk_drew ?_ | refine blk_alloc ?_ _)); refine blk_far ?_ NB438_448.out _; (with_reducible repeat (first | refine blk_drewN ?_ _ | refine blk_drew ?_ | refine blk_alloc ?_ _)); refine blk_far ?_ NB438_448.out _; (with_reducible repeat (first | refine blk_drewN ?_ _ | refine blk_drew ?_ | refine blk_alloc ?_ _)); exact BK438.out) hb); have n5_ := Aside0.mk (blk_below (g := gb448) (o := .cells #[.int .i64 t443, .slice Ao47 t444.length co47] 26 (0, 0)) (by (with_reducible repeat (first | refine blk_drewN ?_ _ | refine blk_drew ?_ | refine blk_alloc ?_ _)); refine blk_put (cs := #[.int .i64 t443, .slice none 0 0]) ?_ 1 _ rfl; (with_reducible repeat (first | refine blk_drewN ?_ _ | refine blk_drew ?_ | refine blk_alloc ?_ _)); refine blk_put (cs := #[.int .i64 0, .slice none 0 0]) ?_ 0 _ rfl; (with_reducible repeat (first | refine blk_drewN ?_ _ | refine blk_drew ?_ | refine blk_alloc ?_ _)); exact BK448.out) hb); have n6_ := Aside0.mk (below_step (by repeat (first | (with_reducible first | exact HB.out | apply below_alloc | apply pw_below_drewN | apply below_drew1 | refine below_set ?_ GE432.out | refine below_set ?_ GE438.out | refine below_set ?_ GE448.out) | exact HB.out)) hb); clear HO_433001; clear HO_439001; clear HO446; clear BK432; clear BK438; clear BK448; clear HB; have HO_433001 := n0_; have HO_439001 := n1_; have HO446 := n2_; have BK432 := n3_; have BK438 := n4_; have BK448 := n5_; have HB := n6_; clear n0_ n1_ n2_ n3_ n4_ n5_ n6_; (try clear hb); (try clear hb2); (try clear hk); (try clear hi)))
         go_meet
         case rel => exact ⟨_, ((t447 != t431)), (by first | rfl | (simp; done) | (simp [*]; done)), H', ⟨by have := HJ4.out; first | omega | exact Nat.le_refl _⟩, ⟨by (with_reducible repeat (first | apply Kd.R_alloc | apply Kd.R_drewN | apply Kd.R_drew)); exact HO_433001.out⟩, ⟨by (with_reducible repeat (first | apply Kd.R_alloc | apply Kd.R_drewN | apply Kd.R_drew)); exact HO_439001.out⟩, ⟨by (with_reducible repeat (first | apply Kd.R_alloc | apply Kd.R_drewN | apply Kd.R_drew)); exact Kd.R_mono HO446.out (fun _ hk => ⟨hk.1.2, hk.2⟩)⟩, ⟨by (with_reducible repeat (first | refine blk_drewN ?_ _ | refine blk_drew ?_ | refine blk_alloc ?_ _)); exact BK432.out⟩, ⟨by (with_reducible repeat (first | refine blk_drewN ?_ _ | refine blk_drew ?_ | refine blk_alloc ?_ _)); exact BK438.out⟩, ⟨by (with_reducible repeat (first | refine blk_drewN ?_ _ | refine blk_drew ?_ | refine blk_alloc ?_ _)); exact BK448.out⟩, ⟨by repeat (first | (with_reducible first | exact HB.out | apply below_alloc | apply pw_below_drewN | apply below_drew1 | refine below_set ?_ GE432.out | refine below_set ?_ GE438.out | refine below_set ?_ GE448.out) | exact HB.out)⟩⟩
        ·replace c49 := Bool.eq_false_iff.mpr c49
         subst c49
         have H1 : (laws_FnExactReadDiagram.j1 kj4 t440 true t433 t441) = some r := by rw [if_neg (show ¬ (false = true) by decide)] at H; exact H
         clear H
         have H := H1
         clear H1
         have H' := Aside0.mk H
         clear H
         have hnb56 := NB448_432.out
         have hnc56 := NB432_448.out
         have hnb57 := NB448_438.out
         have hnc57 := NB438_448.out
         have hcz58_0 : w43.cell? ⟨gb448, 0, none⟩ = some (.int .i64 0) := (blk_cell BK448.out 0).trans rfl
         have hcz58_1 : w43.cell? ⟨gb448, 1, none⟩ = some (.slice none 0 0) := (blk_cell BK448.out 1).trans rfl
         have hfz58_0 := blk_frozen BK448.out 0
         have hfz58_1 := blk_frozen BK448.out 1
         have hnb59 := NB432_438.out
         have hnc59 := NB438_432.out
         have hcz60_0 : w43.cell? ⟨gb432, 0, none⟩ = some (.int .i64 t427) := (blk_cell BK432.out 0).trans rfl
         have hcz60_1 : w43.cell? ⟨gb432, 1, none⟩ = some (.slice Ao9 t428.length co9) := (blk_cell BK432.out 1).trans rfl
         have hfz60_0 := blk_frozen BK432.out 0
         have hfz60_1 := blk_frozen BK432.out 1
         go_wp2_with (first | ((with_reducible refine gate_callee (f := 17) rfl ?_); refine goesL_ (some 51) rfl rfl Tryd.func17 (by kernel_rfl) rfl #[.agg #[.int .i64 t443, .slice Ao47 t444.length co47], .agg #[.int .i64 t427, .slice Ao9 t428.length co9]] rfl (by (try simp only [List.map_toArray, List.map_cons, List.map_nil]); first | done | rfl | (simp only [List.length_drop, List.length_take]; rfl)) ?_; (with_reducible refine (laws_eqDiagram.calls kj4 t443 _ _ t444 t427 _ _ t428 false _ ?side1 ?side2 ?side3 ?side4 A48.out).mono ?_); (case side1 => refine (Kd.R_reads' (e := 39) (base := w.heap.size) (ok := fun k_ => ((True ∧ some k_ ≠ (.slice Ao9 t428.length co9 : Value).ownBlock) ∧ some k_ ≠ (.slice Ao14 t434.length co14 : Value).ownBlock)) (n := t444.length) (c := co47) ?_).2.2; exact (by (with_reducible repeat (first | apply Kd.R_alloc | apply Kd.R_drewN | apply Kd.R_drew)); exact (Kd.R_mono (Kd.R_far (p := ⟨gb448, 1, none⟩) (Kd.R_far (p := ⟨gb448, 0, none⟩) (Kd.R_types HO446.out BK448.out (by decide)) (fun _ hk => hk.2) (.int .i64 t443)) (fun _ hk => hk.2) (.slice Ao47 t444.length co47)) (fun _ h_ => h_.1)))); (case side2 => exact (Kd.R_reads' HO446.out).2.1); (case side3 => refine (Kd.R_reads' (e := 39) (base := w.heap.size) (ok := fun k_ => (some k_ ≠ (.slice Ao14 t434.length co14 : Value).ownBlock ∧ some k_ ≠ (.slice Ao47 t444.length co47 : Value).ownBlock)) (n := t428.length) (c := co9) ?_).2.2; exact (by (with_reducible repeat (first | apply Kd.R_alloc | apply Kd.R_drewN | apply Kd.R_drew)); exact (Kd.R_mono (Kd.R_far (p := ⟨gb448, 1, none⟩) (Kd.R_far (p := ⟨gb448, 0, none⟩) (Kd.R_types HO_433001.out BK448.out (by decide)) (fun _ hk => hk.2) (.int .i64 t443)) (fun _ hk => hk.2) (.slice Ao47 t444.length co47)) (fun _ h_ => h_.1)))); (case side4 => exact (Kd.R_reads' HO_433001.out).2.1); rintro e w61 ⟨rfl, hb⟩; refine ⟨_, rfl, ?_⟩; have n0_ := Aside0.mk (Kd.R_below (by (with_reducible repeat (first | apply Kd.R_alloc | apply Kd.R_drewN | apply Kd.R_drew)); exact (Kd.R_mono (Kd.R_far (p := ⟨gb448, 1, none⟩) (Kd.R_far (p := ⟨gb448, 0, none⟩) (Kd.R_types HO_433001.out BK448.out (by decide)) (fun _ hk => hk.2) (.int .i64 t443)) (fun _ hk => hk.2) (.slice Ao47 t444.length co47)) (fun _ h_ => h_.1))) hb); have n1_ := Aside0.mk (Kd.R_below (by (with_reducible repeat (first | apply Kd.R_alloc | apply Kd.R_drewN | apply Kd.R_drew)); exact (Kd.R_mono (Kd.R_far (p := ⟨gb448, 1, none⟩) (Kd.R_far (p := ⟨gb448, 0, none⟩) (Kd.R_types HO_439001.out BK448.out (by decide)) (fun _ hk => hk.2) (.int .i64 t443)) (fun _ hk => hk.2) (.slice Ao47 t444.length co47)) (fun _ h_ => h_.1))) hb); have n2_ := Aside0.mk (Kd.R_below (by (with_reducible repeat (first | apply Kd.R_alloc | apply Kd.R_drewN | apply Kd.R_drew)); exact (Kd.R_mono (Kd.R_far (p := ⟨gb448, 1, none⟩) (Kd.R_far (p := ⟨gb448, 0, none⟩) (Kd.R_types HO446.out BK448.out (by decide)) (fun _ hk => hk.2) (.int .i64 t443)) (fun _ hk => hk.2) (.slice Ao47 t444.length co47)) (fun _ h_ => h_.1))) hb); have n3_ := Aside0.mk (blk_below (g := gb432) (o := .cells #[.int .i64 t427, .slice Ao9 t428.length co9] 26 (0, 0)) (by (with_reducible repeat (first | refine blk_drewN ?_ _ | refine blk_drew ?_ | refine blk_alloc ?_ _)); refine blk_far ?_ NB432_448.out _; (with_reducible repeat (first | refine blk_drewN ?_ _ | refine blk_drew ?_ | refine blk_alloc ?_ _)); refine blk_far ?_ NB432_448.out _; (with_reducible repeat (first | refine blk_drewN ?_ _ | refine blk_drew ?_ | refine blk_alloc ?_ _)); exact BK432.out) hb); have n4_ := Aside0.mk (blk_below (g := gb438) (o := .cells #[.int .i64 t433, .slice Ao14 t434.length co14] 26 (0, 0)) (by (with_reducible repeat (first | refine blk_drewN ?_ _ | refine blk_drew ?_ | refine blk_alloc ?_ _)); refine blk_far ?_ NB438_448.out _; (with_reducible repeat (first | refine blk_drewN ?_ _ | refine blk_drew ?_ | refine blk_alloc ?_ _)); refine blk_far ?_ NB438_448.out _; (with_reducible repeat (first | refine blk_drewN ?_ _ | refine blk_drew ?_ | refine blk_alloc ?_ _)); exact BK438.out) hb); have n5_ := Aside0.mk (blk_below (g := gb448) (o := .cells #[.int .i64 t443, .slice Ao47 t444.length co47] 26 (0, 0)) (by (with_reducible repeat (first | refine blk_drewN ?_ _ | refine blk_drew ?_ | refine blk_alloc ?_ _)); refine blk_put (cs := #[.int .i64 t443, .slice none 0 0]) ?_ 1 _ rfl; (with_reducible repeat (first | refine blk_drewN ?_ _ | refine blk_drew ?_ | refine blk_alloc ?_ _)); refine blk_put (cs := #[.int .i64 0, .slice none 0 0]) ?_ 0 _ rfl; (with_reducible repeat (first | refine blk_drewN ?_ _ | refine blk_drew ?_ | refine blk_alloc ?_ _)); exact BK448.out) hb); have n6_ := Aside0.mk (below_step (by repeat (first | (with_reducible first | exact HB.out | apply below_alloc | apply pw_below_drewN | apply below_drew1 | refine below_set ?_ GE432.out | refine below_set ?_ GE438.out | refine below_set ?_ GE448.out) | exact HB.out)) hb); clear HO_433001; clear HO_439001; clear HO446; clear BK432; clear BK438; clear BK448; clear HB; have HO_433001 := n0_; have HO_439001 := n1_; have HO446 := n2_; have BK432 := n3_; have BK438 := n4_; have BK448 := n5_; have HB := n6_; clear n0_ n1_ n2_ n3_ n4_ n5_ n6_; (try clear hb); (try clear hb2); (try clear hk); (try clear hi)))
         go_meet
         case rel => exact ⟨_, (true), (by first | rfl | (simp; done) | (simp [*]; done)), H', ⟨by have := HJ4.out; first | omega | exact Nat.le_refl _⟩, ⟨by (with_reducible repeat (first | apply Kd.R_alloc | apply Kd.R_drewN | apply Kd.R_drew)); exact HO_433001.out⟩, ⟨by (with_reducible repeat (first | apply Kd.R_alloc | apply Kd.R_drewN | apply Kd.R_drew)); exact HO_439001.out⟩, ⟨by (with_reducible repeat (first | apply Kd.R_alloc | apply Kd.R_drewN | apply Kd.R_drew)); exact Kd.R_mono HO446.out (fun _ hk => ⟨hk.1.2, hk.2⟩)⟩, ⟨by (with_reducible repeat (first | refine blk_drewN ?_ _ | refine blk_drew ?_ | refine blk_alloc ?_ _)); exact BK432.out⟩, ⟨by (with_reducible repeat (first | refine blk_drewN ?_ _ | refine blk_drew ?_ | refine blk_alloc ?_ _)); exact BK438.out⟩, ⟨by (with_reducible repeat (first | refine blk_drewN ?_ _ | refine blk_drew ?_ | refine blk_alloc ?_ _)); exact BK448.out⟩, ⟨by repeat (first | (with_reducible first | exact HB.out | apply below_alloc | apply pw_below_drewN | apply below_drew1 | refine below_set ?_ GE432.out | refine below_set ?_ GE438.out | refine below_set ?_ GE448.out) | exact HB.out)⟩⟩
       case rest =>
        clear HC36
        try clear c1
        try clear c2
        try clear c2b0
        try clear c2b1
        try clear p2
        try clear c3
        try clear c4
        try clear c5
        try clear c10
        try clear c12
        try clear c16
        try clear c17
        try clear c18
        try clear c19
        try clear c21
        try clear c25
        try clear c28
        try clear c28b0
        try clear c29
        try clear c34
        try clear c34b0
        try clear c34b1
        try clear c37
        try clear c44
        try clear c45
        try clear c49
        try clear c50
        try clear c51
        try clear c53
        try clear c56
        try clear c57
        try clear c59
        try clear hcz13_0
        try clear hcz13_1
        try clear hcz18_0
        try clear hcz18_1
        try clear hcz19_0
        try clear hcz19_1
        try clear hcz22_0
        try clear hcz22_1
        try clear hcz23_0
        try clear hcz23_1
        try clear hcz30_0
        try clear hcz30_1
        try clear hcz32_0
        try clear hcz32_1
        try clear hcz38_0
        try clear hcz38_1
        try clear hcz40_0
        try clear hcz40_1
        try clear hcz46_0
        try clear hcz46_1
        try clear hcz52_0
        try clear hcz52_1
        try clear hcz54_0
        try clear hcz54_1
        try clear hcz58_0
        try clear hcz58_1
        try clear hcz60_0
        try clear hcz60_1
        try clear hcz8_0
        try clear hcz8_1
        try clear hfz13_0
        try clear hfz13_1
        try clear hfz18_0
        try clear hfz18_1
        try clear hfz19_0
        try clear hfz19_1
        try clear hfz22_0
        try clear hfz22_1
        try clear hfz23_0
        try clear hfz23_1
        try clear hfz30_0
        try clear hfz30_1
        try clear hfz32_0
        try clear hfz32_1
        try clear hfz38_0
        try clear hfz38_1
        try clear hfz40_0
        try clear hfz40_1
        try clear hfz46_0
        try clear hfz46_1
        try clear hfz52_0
        try clear hfz52_1
        try clear hfz54_0
        try clear hfz54_1
        try clear hfz58_0
        try clear hfz58_1
        try clear hfz60_0
        try clear hfz60_1
        try clear hfz8_0
        try clear hfz8_1
        try clear p2
        obtain ⟨kq, x57_35, rfl, HA, HJ35, HO_433001, HO_439001, HO_449001, BK432, BK438, BK448, HB⟩ := hcut
        have hl439001_35 := (Kd.R_reads' HO_439001.out).1
        rw [hl439001_35] at HO_439001
        (try simp only [hl439001_35])
        (try simp only [hl439001_35] at BK432)
        (try simp only [hl439001_35] at BK438)
        (try simp only [hl439001_35] at BK448)
        (try simp only [hl439001_35] at HO_433001)
        (try simp only [hl439001_35] at HO_449001)
        cases kq with
        | zero => exact absurd HA.out (by simp [laws_FnExactReadDiagram.j1])
        | succ kj35 =>
         have H := HA.out
         clear HA
         simp only [laws_FnExactReadDiagram.j1] at H
         by_cases c62 : x57_35 = true
         ·subst c62
          have H1 : (some false) = some r := by rw [if_pos rfl] at H; exact H
          clear H
          have H := H1
          clear H1
          obtain rfl := Option.some.inj H
          go_wp2
          go_ret
          exact ⟨by first | rfl | (simp [errW_none, errW_some] <;> rfl) | (simp [*, errW_none, errW_some] <;> rfl), by repeat (first | (with_reducible first | exact HB.out | apply below_alloc | apply pw_below_drewN | apply below_drew1 | refine below_set ?_ GE432.out | refine below_set ?_ GE438.out | refine below_set ?_ GE448.out) | exact HB.out)⟩
         ·replace c62 := Bool.eq_false_iff.mpr c62
          subst c62
          have H1 : ((laws_heldDiagram.f kj35 t433 t441 1).bind fun t450 => (if t450 < 0 then (some false) else (if t450 = t440 then (some true) else (some false)))) = some r := by rw [if_neg (show ¬ (false = true) by decide)] at H; exact H
          clear H
          have H := H1
          clear H1
          replace H := Option.bind_eq_some_iff.mp H
          obtain ⟨t450, A630, H⟩ := H
          replace H : (if t450 < 0 then (some false) else (if t450 = t440 then (some true) else (some false))) = some r := H
          have A63 := Aside0.mk A630
          clear A630
          by_cases c64 : t450 < 0
          ·rw [if_pos c64] at H
           have c64b0 : decide (t450 < 0) = true := decide_eq_true c64
           clear c64
           obtain rfl := Option.some.inj H
           have hnb65 := NB438_432.out
           have hnc65 := NB432_438.out
           have hnb66 := NB438_448.out
           have hnc66 := NB448_438.out
           have hcz67_0 : wc.cell? ⟨gb438, 0, none⟩ = some (.int .i64 t433) := (blk_cell BK438.out 0).trans rfl
           have hcz67_1 : wc.cell? ⟨gb438, 1, none⟩ = some (.slice Ao14 t441.length co14) := (blk_cell BK438.out 1).trans rfl
           have hfz67_0 := blk_frozen BK438.out 0
           have hfz67_1 := blk_frozen BK438.out 1
           go_wp2_with (first | ((with_reducible refine gate_callee (f := 19) rfl ?_); refine goesL_ (some 60) rfl rfl Tryd.func19 (by kernel_rfl) rfl #[.agg #[.int .i64 t433, .slice Ao14 t441.length co14], .int .i64 1] rfl (by (try simp only [List.map_toArray, List.map_cons, List.map_nil]); first | done | rfl | (simp only [List.length_drop, List.length_take]; rfl)) ?_; (with_reducible refine (laws_heldDiagram.calls kj35 t433 _ _ t441 1 t450 _ ?side1 ?side2 A63.out).mono ?_); (case side1 => repeat (first | exact (Kd.R_reads' HO_439001.out).2.2 | (with_reducible refine Kd.C_alloc ?_ _) | (with_reducible refine Kd.C_drewN ?_ _) | (with_reducible refine Kd.C_drew ?_))); (case side2 => exact (Kd.R_reads' HO_439001.out).2.1); rintro e w68 ⟨rfl, hb⟩; refine ⟨_, rfl, ?_⟩; have n0_ := Aside0.mk (Kd.R_below (by (with_reducible repeat (first | apply Kd.R_alloc | apply Kd.R_drewN | apply Kd.R_drew)); exact HO_433001.out) hb); have n1_ := Aside0.mk (Kd.R_below (by (with_reducible repeat (first | apply Kd.R_alloc | apply Kd.R_drewN | apply Kd.R_drew)); exact HO_439001.out) hb); have n2_ := Aside0.mk (Kd.R_below (by (with_reducible repeat (first | apply Kd.R_alloc | apply Kd.R_drewN | apply Kd.R_drew)); exact HO_449001.out) hb); have n3_ := Aside0.mk (blk_below (g := gb432) (o := .cells #[.int .i64 t427, .slice Ao9 t428.length co9] 26 (0, 0)) (by (with_reducible repeat (first | refine blk_drewN ?_ _ | refine blk_drew ?_ | refine blk_alloc ?_ _)); exact BK432.out) hb); have n4_ := Aside0.mk (blk_below (g := gb438) (o := .cells #[.int .i64 t433, .slice Ao14 t441.length co14] 26 (0, 0)) (by (with_reducible repeat (first | refine blk_drewN ?_ _ | refine blk_drew ?_ | refine blk_alloc ?_ _)); exact BK438.out) hb); have n5_ := Aside0.mk (blk_below (g := gb448) (o := .cells #[.int .i64 t443, .slice Ao47 t444.length co47] 26 (0, 0)) (by (with_reducible repeat (first | refine blk_drewN ?_ _ | refine blk_drew ?_ | refine blk_alloc ?_ _)); exact BK448.out) hb); have n6_ := Aside0.mk (below_step (by repeat (first | (with_reducible first | exact HB.out | apply below_alloc | apply pw_below_drewN | apply below_drew1 | refine below_set ?_ GE432.out | refine below_set ?_ GE438.out | refine below_set ?_ GE448.out) | exact HB.out)) hb); clear HO_433001; clear HO_439001; clear HO_449001; clear BK432; clear BK438; clear BK448; clear HB; have HO_433001 := n0_; have HO_439001 := n1_; have HO_449001 := n2_; have BK432 := n3_; have BK438 := n4_; have BK448 := n5_; have HB := n6_; clear n0_ n1_ n2_ n3_ n4_ n5_ n6_; (try clear hb); (try clear hb2); (try clear hk); (try clear hi)))
           go_ret
           exact ⟨by first | rfl | (simp [errW_none, errW_some] <;> rfl) | (simp [*, errW_none, errW_some] <;> rfl), by repeat (first | (with_reducible first | exact HB.out | apply below_alloc | apply pw_below_drewN | apply below_drew1 | refine below_set ?_ GE432.out | refine below_set ?_ GE438.out | refine below_set ?_ GE448.out) | exact HB.out)⟩
          ·rw [if_neg c64] at H
           have c64b0 : decide (t450 < 0) = false := decide_eq_false c64
           clear c64
           by_cases c69 : t450 = t440
           ·rw [if_pos c69] at H
            have c69b0 : (t450 == t440) = true := beq_iff_eq.mpr c69
            have c69b1 : (t450 != t440) = false := bne_eq_false_iff_eq.mpr c69
            clear c69
            obtain rfl := Option.some.inj H
            have hnb70 := NB438_432.out
            have hnc70 := NB432_438.out
            have hnb71 := NB438_448.out
            have hnc71 := NB448_438.out
            have hcz72_0 : wc.cell? ⟨gb438, 0, none⟩ = some (.int .i64 t433) := (blk_cell BK438.out 0).trans rfl
            have hcz72_1 : wc.cell? ⟨gb438, 1, none⟩ = some (.slice Ao14 t441.length co14) := (blk_cell BK438.out 1).trans rfl
            have hfz72_0 := blk_frozen BK438.out 0
            have hfz72_1 := blk_frozen BK438.out 1
            go_wp2_with (first | ((with_reducible refine gate_callee (f := 19) rfl ?_); refine goesL_ (some 60) rfl rfl Tryd.func19 (by kernel_rfl) rfl #[.agg #[.int .i64 t433, .slice Ao14 t441.length co14], .int .i64 1] rfl (by (try simp only [List.map_toArray, List.map_cons, List.map_nil]); first | done | rfl | (simp only [List.length_drop, List.length_take]; rfl)) ?_; (with_reducible refine (laws_heldDiagram.calls kj35 t433 _ _ t441 1 t450 _ ?side1 ?side2 A63.out).mono ?_); (case side1 => repeat (first | exact (Kd.R_reads' HO_439001.out).2.2 | (with_reducible refine Kd.C_alloc ?_ _) | (with_reducible refine Kd.C_drewN ?_ _) | (with_reducible refine Kd.C_drew ?_))); (case side2 => exact (Kd.R_reads' HO_439001.out).2.1); rintro e w73 ⟨rfl, hb⟩; refine ⟨_, rfl, ?_⟩; have n0_ := Aside0.mk (Kd.R_below (by (with_reducible repeat (first | apply Kd.R_alloc | apply Kd.R_drewN | apply Kd.R_drew)); exact HO_433001.out) hb); have n1_ := Aside0.mk (Kd.R_below (by (with_reducible repeat (first | apply Kd.R_alloc | apply Kd.R_drewN | apply Kd.R_drew)); exact HO_439001.out) hb); have n2_ := Aside0.mk (Kd.R_below (by (with_reducible repeat (first | apply Kd.R_alloc | apply Kd.R_drewN | apply Kd.R_drew)); exact HO_449001.out) hb); have n3_ := Aside0.mk (blk_below (g := gb432) (o := .cells #[.int .i64 t427, .slice Ao9 t428.length co9] 26 (0, 0)) (by (with_reducible repeat (first | refine blk_drewN ?_ _ | refine blk_drew ?_ | refine blk_alloc ?_ _)); exact BK432.out) hb); have n4_ := Aside0.mk (blk_below (g := gb438) (o := .cells #[.int .i64 t433, .slice Ao14 t441.length co14] 26 (0, 0)) (by (with_reducible repeat (first | refine blk_drewN ?_ _ | refine blk_drew ?_ | refine blk_alloc ?_ _)); exact BK438.out) hb); have n5_ := Aside0.mk (blk_below (g := gb448) (o := .cells #[.int .i64 t443, .slice Ao47 t444.length co47] 26 (0, 0)) (by (with_reducible repeat (first | refine blk_drewN ?_ _ | refine blk_drew ?_ | refine blk_alloc ?_ _)); exact BK448.out) hb); have n6_ := Aside0.mk (below_step (by repeat (first | (with_reducible first | exact HB.out | apply below_alloc | apply pw_below_drewN | apply below_drew1 | refine below_set ?_ GE432.out | refine below_set ?_ GE438.out | refine below_set ?_ GE448.out) | exact HB.out)) hb); clear HO_433001; clear HO_439001; clear HO_449001; clear BK432; clear BK438; clear BK448; clear HB; have HO_433001 := n0_; have HO_439001 := n1_; have HO_449001 := n2_; have BK432 := n3_; have BK438 := n4_; have BK448 := n5_; have HB := n6_; clear n0_ n1_ n2_ n3_ n4_ n5_ n6_; (try clear hb); (try clear hb2); (try clear hk); (try clear hi)))
            go_ret
            exact ⟨by first | rfl | (simp [errW_none, errW_some] <;> rfl) | (simp [*, errW_none, errW_some] <;> rfl), by repeat (first | (with_reducible first | exact HB.out | apply below_alloc | apply pw_below_drewN | apply below_drew1 | refine below_set ?_ GE432.out | refine below_set ?_ GE438.out | refine below_set ?_ GE448.out) | exact HB.out)⟩
           ·rw [if_neg c69] at H
            have c69b0 : (t450 == t440) = false := beq_eq_false_iff_ne.mpr c69
            have c69b1 : (t450 != t440) = true := bne_iff_ne.mpr c69
            obtain rfl := Option.some.inj H
            have hnb74 := NB438_432.out
            have hnc74 := NB432_438.out
            have hnb75 := NB438_448.out
            have hnc75 := NB448_438.out
            have hcz76_0 : wc.cell? ⟨gb438, 0, none⟩ = some (.int .i64 t433) := (blk_cell BK438.out 0).trans rfl
            have hcz76_1 : wc.cell? ⟨gb438, 1, none⟩ = some (.slice Ao14 t441.length co14) := (blk_cell BK438.out 1).trans rfl
            have hfz76_0 := blk_frozen BK438.out 0
            have hfz76_1 := blk_frozen BK438.out 1
            go_wp2_with (first | ((with_reducible refine gate_callee (f := 19) rfl ?_); refine goesL_ (some 60) rfl rfl Tryd.func19 (by kernel_rfl) rfl #[.agg #[.int .i64 t433, .slice Ao14 t441.length co14], .int .i64 1] rfl (by (try simp only [List.map_toArray, List.map_cons, List.map_nil]); first | done | rfl | (simp only [List.length_drop, List.length_take]; rfl)) ?_; (with_reducible refine (laws_heldDiagram.calls kj35 t433 _ _ t441 1 t450 _ ?side1 ?side2 A63.out).mono ?_); (case side1 => repeat (first | exact (Kd.R_reads' HO_439001.out).2.2 | (with_reducible refine Kd.C_alloc ?_ _) | (with_reducible refine Kd.C_drewN ?_ _) | (with_reducible refine Kd.C_drew ?_))); (case side2 => exact (Kd.R_reads' HO_439001.out).2.1); rintro e w77 ⟨rfl, hb⟩; refine ⟨_, rfl, ?_⟩; have n0_ := Aside0.mk (Kd.R_below (by (with_reducible repeat (first | apply Kd.R_alloc | apply Kd.R_drewN | apply Kd.R_drew)); exact HO_433001.out) hb); have n1_ := Aside0.mk (Kd.R_below (by (with_reducible repeat (first | apply Kd.R_alloc | apply Kd.R_drewN | apply Kd.R_drew)); exact HO_439001.out) hb); have n2_ := Aside0.mk (Kd.R_below (by (with_reducible repeat (first | apply Kd.R_alloc | apply Kd.R_drewN | apply Kd.R_drew)); exact HO_449001.out) hb); have n3_ := Aside0.mk (blk_below (g := gb432) (o := .cells #[.int .i64 t427, .slice Ao9 t428.length co9] 26 (0, 0)) (by (with_reducible repeat (first | refine blk_drewN ?_ _ | refine blk_drew ?_ | refine blk_alloc ?_ _)); exact BK432.out) hb); have n4_ := Aside0.mk (blk_below (g := gb438) (o := .cells #[.int .i64 t433, .slice Ao14 t441.length co14] 26 (0, 0)) (by (with_reducible repeat (first | refine blk_drewN ?_ _ | refine blk_drew ?_ | refine blk_alloc ?_ _)); exact BK438.out) hb); have n5_ := Aside0.mk (blk_below (g := gb448) (o := .cells #[.int .i64 t443, .slice Ao47 t444.length co47] 26 (0, 0)) (by (with_reducible repeat (first | refine blk_drewN ?_ _ | refine blk_drew ?_ | refine blk_alloc ?_ _)); exact BK448.out) hb); have n6_ := Aside0.mk (below_step (by repeat (first | (with_reducible first | exact HB.out | apply below_alloc | apply pw_below_drewN | apply below_drew1 | refine below_set ?_ GE432.out | refine below_set ?_ GE438.out | refine below_set ?_ GE448.out) | exact HB.out)) hb); clear HO_433001; clear HO_439001; clear HO_449001; clear BK432; clear BK438; clear BK448; clear HB; have HO_433001 := n0_; have HO_439001 := n1_; have HO_449001 := n2_; have BK432 := n3_; have BK438 := n4_; have BK448 := n5_; have HB := n6_; clear n0_ n1_ n2_ n3_ n4_ n5_ n6_; (try clear hb); (try clear hb2); (try clear hk); (try clear hi)))
            go_ret
            exact ⟨by first | rfl | (simp [errW_none, errW_some] <;> rfl) | (simp [*, errW_none, errW_some] <;> rfl), by repeat (first | (with_reducible first | exact HB.out | apply below_alloc | apply pw_below_drewN | apply below_drew1 | refine below_set ?_ GE432.out | refine below_set ?_ GE438.out | refine below_set ?_ GE448.out) | exact HB.out)⟩
      ·rw [if_neg c34] at H
       have c34b0 : (t442 == t440) = false := beq_eq_false_iff_ne.mpr c34
       have c34b1 : (t442 != t440) = true := bne_iff_ne.mpr c34
       obtain rfl := Option.some.inj H
       have hnb78 := NB438_432.out
       have hnc78 := NB432_438.out
       have hcz79_0 : wc.cell? ⟨gb438, 0, none⟩ = some (.int .i64 t433) := (blk_cell BK438.out 0).trans rfl
       have hcz79_1 : wc.cell? ⟨gb438, 1, none⟩ = some (.slice Ao14 t434.length co14) := (blk_cell BK438.out 1).trans rfl
       have hfz79_0 := blk_frozen BK438.out 0
       have hfz79_1 := blk_frozen BK438.out 1
       go_wp2_with (first | ((with_reducible refine gate_callee (f := 18) rfl ?_); refine goesL_ (some 35) rfl rfl Tryd.func18 (by kernel_rfl) rfl #[.agg #[.int .i64 t433, .slice Ao14 t434.length co14], .int .i64 1] rfl (by (try simp only [List.map_toArray, List.map_cons, List.map_nil]); first | done | rfl | (simp only [List.length_drop, List.length_take]; rfl)) ?_; (with_reducible refine (laws_markDiagram.calls kj4 t433 (fun k_ => some k_ = (.slice Ao14 t434.length co14 : Value).ownBlock) (.slice Ao14 t434.length co14) t434 1 t440 t441 w _ ?side1 ?side2 A26.out).mono ?_); (case side1 => repeat (first | (with_reducible first | exact HB.out | apply below_alloc | apply pw_below_drewN | apply below_drew1 | refine below_set ?_ GE432.out | refine below_set ?_ GE438.out) | exact HB.out)); (case side2 => exact Kd.R_tight rfl HO_439001.out); rintro e w80 ⟨rfl, hy0, hb, hkp⟩; refine ⟨_, rfl, ?_⟩; have n0_ := Aside0.mk (Kd.R_mono (ok' := fun k_ => some k_ ≠ (.slice Ao14 t434.length co14 : Value).ownBlock) (Kd.R_keptB (HO_433001.out) hkp (fun k_ hk_ hs_ => (hk_) hs_)) (fun k_ hk_ => hk_.1)); have n1_ := Aside0.mk (Kd.R_reok rfl hy0 (fun k_ e_ => HO_439001.out.1 k_ e_)); have n2_ := Aside0.mk (blk_kept (by (with_reducible repeat (first | refine blk_drewN ?_ _ | refine blk_drew ?_ | refine blk_alloc ?_ _)); exact BK432.out) hkp (fun hs_ => (fun e_ => (Kd.R_ne HO_439001.out BK432.out (by decide)) e_) hs_)); have n3_ := Aside0.mk (blk_kept (by (with_reducible repeat (first | refine blk_drewN ?_ _ | refine blk_drew ?_ | refine blk_alloc ?_ _)); exact BK438.out) hkp (fun hs_ => (fun e_ => (Kd.R_ne HO_439001.out BK438.out (by decide)) e_) hs_)); have n4_ := Aside0.mk (hb); clear HO_433001; clear HO_439001; clear BK432; clear BK438; clear HB; have HO_433001 := n0_; have HO_439001 := n1_; have BK432 := n2_; have BK438 := n3_; have HB := n4_; clear n0_ n1_ n2_ n3_ n4_; (try clear hb); (try clear hkp); (try clear hy0); have hcz81_0 : w80.cell? ⟨gb438, 0, none⟩ = some (.int .i64 t433) := (blk_cell BK438.out 0).trans rfl; have hcz81_1 : w80.cell? ⟨gb438, 1, none⟩ = some (.slice Ao14 t434.length co14) := (blk_cell BK438.out 1).trans rfl; have hfz81_0 := blk_frozen BK438.out 0; have hfz81_1 := blk_frozen BK438.out 1) | ((with_reducible refine gate_callee (f := 19) rfl ?_); refine goesL_ (some 38) rfl rfl Tryd.func19 (by kernel_rfl) rfl #[.agg #[.int .i64 t433, .slice Ao14 t441.length co14], .int .i64 1] rfl (by (try simp only [List.map_toArray, List.map_cons, List.map_nil]); first | done | (rw [show t441.length = t434.length from (Kd.R_reads' HO_439001.out).1.symm] <;> rfl) | rfl | (simp only [List.length_drop, List.length_take]; rfl)) ?_; (with_reducible refine (laws_heldDiagram.calls kj4 t433 _ _ t441 1 t442 _ ?side1 ?side2 A27.out).mono ?_); (case side1 => repeat (first | exact (Kd.R_reads' HO_439001.out).2.2 | (with_reducible refine Kd.C_alloc ?_ _) | (with_reducible refine Kd.C_drewN ?_ _) | (with_reducible refine Kd.C_drew ?_))); (case side2 => rw [show t441.length = t434.length from (Kd.R_reads' HO_439001.out).1.symm]; exact (Kd.R_reads' HO_439001.out).2.1); rintro e w82 ⟨rfl, hb⟩; refine ⟨_, rfl, ?_⟩; have n0_ := Aside0.mk (Kd.R_below (by (with_reducible repeat (first | apply Kd.R_alloc | apply Kd.R_drewN | apply Kd.R_drew)); exact HO_433001.out) hb); have n1_ := Aside0.mk (Kd.R_below (by (with_reducible repeat (first | apply Kd.R_alloc | apply Kd.R_drewN | apply Kd.R_drew)); exact HO_439001.out) hb); have n2_ := Aside0.mk (blk_below (g := gb432) (o := .cells #[.int .i64 t427, .slice Ao9 t428.length co9] 26 (0, 0)) (by (with_reducible repeat (first | refine blk_drewN ?_ _ | refine blk_drew ?_ | refine blk_alloc ?_ _)); exact BK432.out) hb); have n3_ := Aside0.mk (blk_below (g := gb438) (o := .cells #[.int .i64 t433, .slice Ao14 t434.length co14] 26 (0, 0)) (by (with_reducible repeat (first | refine blk_drewN ?_ _ | refine blk_drew ?_ | refine blk_alloc ?_ _)); exact BK438.out) hb); have n4_ := Aside0.mk (below_step (by repeat (first | (with_reducible first | exact HB.out | apply below_alloc | apply pw_below_drewN | apply below_drew1 | refine below_set ?_ GE432.out | refine below_set ?_ GE438.out) | exact HB.out)) hb); clear HO_433001; clear HO_439001; clear BK432; clear BK438; clear HB; have HO_433001 := n0_; have HO_439001 := n1_; have BK432 := n2_; have BK438 := n3_; have HB := n4_; clear n0_ n1_ n2_ n3_ n4_; (try clear hb); (try clear hb2); (try clear hk); (try clear hi)))
       go_ret
       exact ⟨by first | rfl | (simp [errW_none, errW_some] <;> rfl) | (simp [*, errW_none, errW_some] <;> rfl), by repeat (first | (with_reducible first | exact HB.out | apply below_alloc | apply pw_below_drewN | apply below_drew1 | refine below_set ?_ GE432.out | refine below_set ?_ GE438.out) | exact HB.out)⟩

/-- THE ONE PURE STATEMENT of laws_FnExactReadDiagram: yours. -/
def laws_FnExactReadDiagram.Pure : Prop := ∀ (a0 : ByteArray), a0.size ≤ 140737488351232 → ∃ k, laws_FnExactReadDiagram.f k a0 = some true
theorem laws_FnExactReadDiagram.walk (P : laws_FnExactReadDiagram.Pure) (a0 : ByteArray) (w : World) (ht_ : EnvOk w) (w0 : a0.size ≤ 140737488351232) :
  Calls Tryd.prog 4 #[.string a0] w fun e w' => e = .returned (.bool true) ∧ Below w.heap.size w w' := by
 obtain ⟨k, h⟩ := P a0 w0
 refine (laws_FnExactReadDiagram.calls k a0 true w ht_ h).mono ?_
 rintro e w' ⟨rfl, hd⟩
 exact ⟨rfl, hd⟩

end Go.Proofs.YtbgokpobaemibaaDoor.Pa
