-- Written for this claim by a program of this session.
import Derived.Test.YtkdijegkoajdgaaVPax0
import Derived.Shelf.Abstract
import Derived.Test.YtkdijegkoajdgaaVCoreL1
import Derived.Test.YtkdijegkoajdgaaVCoreL2
import Derived.Test.YtkdijegkoajdgaaVCoreL4
import Derived.Test.YtkdijegkoajdgaaVCoreL3
import Derived.Test.YtkdijegkoajdgaaVShelfG
namespace Go.Proofs.Ytkdijegkoajdgaa.Pa
open Go.RowKit Go.Proofs.YtkdijegkoajdgaaW.PrintWords Go.Proofs.YtkdijegkoajdgaaW.PrintLast Go.Proofs.YtkdijegkoajdgaaW.PrintMore
attribute [local go_sem] max2_int min2_int max_two min_two max_three min_three max_four min_four   -- for this text's walks alone
set_option linter.unusedVariables false
set_option linter.unusedSimpArgs false

/-! ### impl_within: function 33 -/
def impl_within.f (a0 : Int) (a1 : Int) (a2 : Int) : Option (Bool) := if a0 ≥ a1 then (some (decide (a0 ≤ a2))) else (some false)
set_option maxHeartbeats 8000000 in
set_option maxRecDepth 100000 in
theorem impl_within.calls (a0 : Int) (a1 : Int) (a2 : Int) (r : Bool) (w : World) (h : impl_within.f a0 a1 a2 = some r) :
  Calls Try.prog 33 #[.int .i64 a0, .int .i64 a1, .int .i64 a2] w fun e w' => e = .returned (.bool r) ∧ Drawn0 w w' := by
 have H : (if a0 ≥ a1 then (some (decide (a0 ≤ a2))) else (some false)) = some r := h
 clear h
 by_cases c4 : a0 ≥ a1
 ·rw [if_pos c4] at H
  have c4b0 : decide (a1 ≤ a0) = true := decide_eq_true c4
  clear c4
  obtain rfl := Option.some.inj H
  go_enter Try.func33, Try.ntmps33
  go_wp2
  go_ret
  exact ⟨by first | rfl | (simp; done) | (simp [*]; done), by repeat (first | exact Drawn0.refl _ | apply Drawn0.step)⟩
 ·rw [if_neg c4] at H
  have c4b0 : decide (a1 ≤ a0) = false := decide_eq_false c4
  clear c4
  obtain rfl := Option.some.inj H
  go_enter Try.func33, Try.ntmps33
  go_wp2
  go_ret
  exact ⟨by first | rfl | (simp; done) | (simp [*]; done), by repeat (first | exact Drawn0.refl _ | apply Drawn0.step)⟩

end Go.Proofs.Ytkdijegkoajdgaa.Pa

namespace Go.Proofs.Ytkdijegkoajdgaa.Pa
open Go.RowKit Go.Proofs.YtkdijegkoajdgaaW.PrintWords Go.Proofs.YtkdijegkoajdgaaW.PrintLast Go.Proofs.YtkdijegkoajdgaaW.PrintMore
attribute [local go_sem] max2_int min2_int max_two min_two max_three min_three max_four min_four   -- for this text's walks alone
set_option linter.unusedVariables false
set_option linter.unusedSimpArgs false

/-! ### impl_isLimit: function 44 -/
def impl_isLimit.f (a0 : Int) : Option (Bool) := (impl_within.f a0 (-1000) 1000).bind fun t166 => (some t166)
set_option maxHeartbeats 8000000 in
set_option maxRecDepth 100000 in
theorem impl_isLimit.calls (a0 : Int) (r : Bool) (w : World) (h : impl_isLimit.f a0 = some r) :
  Calls Try.prog 44 #[.int .i64 a0] w fun e w' => e = .returned (.bool r) ∧ Drawn0 w w' := by
 have H : ((impl_within.f a0 (-1000) 1000).bind fun t166 => (some t166)) = some r := h
 clear h
 replace H := Option.bind_eq_some_iff.mp H
 obtain ⟨t166, A20, H⟩ := H
 replace H : (some t166) = some r := H
 have A2 := Aside0.mk A20
 clear A20
 obtain rfl := Option.some.inj H
 go_enter Try.func44, Try.ntmps44
 go_wp2_with (first | ((with_reducible refine gate_callee (f := 33) rfl ?_); refine goesL_ (some 4) rfl rfl Try.func33 (by kernel_rfl) rfl #[.int .i64 a0, .int .i64 (-1000), .int .i64 1000] rfl (by (try simp only [List.map_toArray, List.map_cons, List.map_nil]); first | done | rfl | (simp only [List.length_drop, List.length_take]; rfl)) ?_; (with_reducible refine (impl_within.calls a0 (-1000) 1000 t166 _ A2.out).mono ?_); rintro e w' ⟨rfl, ⟨nd, rfl⟩⟩; refine ⟨_, rfl, ?_⟩))
 go_ret
 exact ⟨by first | rfl | (simp; done) | (simp [*]; done), by repeat (first | exact Drawn0.refl _ | apply Drawn0.step)⟩

end Go.Proofs.Ytkdijegkoajdgaa.Pa

namespace Go.Proofs.Ytkdijegkoajdgaa.Pa
open Go.RowKit Go.Proofs.YtkdijegkoajdgaaW.PrintWords Go.Proofs.YtkdijegkoajdgaaW.PrintLast Go.Proofs.YtkdijegkoajdgaaW.PrintMore
attribute [local go_sem] max2_int min2_int max_two min_two max_three min_three max_four min_four   -- for this text's walks alone
set_option linter.unusedVariables false
set_option linter.unusedSimpArgs false

/-! ### impl_isBound: function 36 -/
def impl_isBound.f (a0_0 : Int) (a0_1 : Int) (a0_2 : Int) (a1 : Int) : Option (Bool) := (impl_within.f a0_0 0 (wrap64 (a1 - 1))).bind fun t168 => (if t168 = true then ((impl_within.f a0_1 0 (wrap64 (a1 - 1))).bind fun t169 => (if t169 = true then (if a0_0 = a0_1 then (some false) else ((impl_isLimit.f a0_2).bind fun t170 => (some t170))) else (some false))) else (some false))
set_option maxHeartbeats 8000000 in
set_option maxRecDepth 100000 in
theorem impl_isBound.calls (a0_0 : Int) (a0_1 : Int) (a0_2 : Int) (a1 : Int) (r : Bool) (w : World) (h : impl_isBound.f a0_0 a0_1 a0_2 a1 = some r) :
  Calls Try.prog 36 #[.agg #[.int .i64 a0_0, .int .i64 a0_1, .int .i64 a0_2], .int .i64 a1] w fun e w' => e = .returned (.bool r) ∧ Below w.heap.size w w' := by
 have hu53 := Try.underlying53
 have HB := Aside0.mk (Below.refl w.heap.size w)
 have H : ((impl_within.f a0_0 0 (wrap64 (a1 - 1))).bind fun t168 => (if t168 = true then ((impl_within.f a0_1 0 (wrap64 (a1 - 1))).bind fun t169 => (if t169 = true then (if a0_0 = a0_1 then (some false) else ((impl_isLimit.f a0_2).bind fun t170 => (some t170))) else (some false))) else (some false))) = some r := h
 clear h
 replace H := Option.bind_eq_some_iff.mp H
 obtain ⟨t168, A30, H⟩ := H
 replace H : (if t168 = true then ((impl_within.f a0_1 0 (wrap64 (a1 - 1))).bind fun t169 => (if t169 = true then (if a0_0 = a0_1 then (some false) else ((impl_isLimit.f a0_2).bind fun t170 => (some t170))) else (some false))) else (some false)) = some r := H
 have A3 := Aside0.mk A30
 clear A30
 by_cases c4 : t168 = true
 ·subst c4
  have H1 : ((impl_within.f a0_1 0 (wrap64 (a1 - 1))).bind fun t169 => (if t169 = true then (if a0_0 = a0_1 then (some false) else ((impl_isLimit.f a0_2).bind fun t170 => (some t170))) else (some false))) = some r := by rw [if_pos rfl] at H; exact H
  clear H
  have H := H1
  clear H1
  replace H := Option.bind_eq_some_iff.mp H
  obtain ⟨t169, A50, H⟩ := H
  replace H : (if t169 = true then (if a0_0 = a0_1 then (some false) else ((impl_isLimit.f a0_2).bind fun t170 => (some t170))) else (some false)) = some r := H
  have A5 := Aside0.mk A50
  clear A50
  by_cases c6 : t169 = true
  ·subst c6
   have H1 : (if a0_0 = a0_1 then (some false) else ((impl_isLimit.f a0_2).bind fun t170 => (some t170))) = some r := by rw [if_pos rfl] at H; exact H
   clear H
   have H := H1
   clear H1
   by_cases c7 : a0_0 = a0_1
   ·rw [if_pos c7] at H
    have c7b0 : (a0_0 == a0_1) = true := beq_iff_eq.mpr c7
    have c7b1 : (a0_0 != a0_1) = false := bne_eq_false_iff_eq.mpr c7
    clear c7
    obtain rfl := Option.some.inj H
    go_enter Try.func36, Try.ntmps36
    go_wp2_with (first | ((with_reducible refine gate_dst (N := 2) rfl ?_); refine box_event ?hg (N := 2) ?hd (cs := #[.int .i64 a0_0, .int .i64 a0_1, .int .i64 a0_2]) (t := 53) ?hr ?_; (case hd => rfl); (case hg => rfl); (case hr => first | (go_simp; done) | (go_simp; rfl)); intro gb167 hg w8 hbox hb; have n0_ := Aside0.mk (below_step (by repeat (first | (with_reducible first | exact HB.out | apply below_alloc | apply pw_below_drewN | apply below_drew1) | exact HB.out)) hb); have n1_ := Aside0.mk (hbox); have n2_ := Aside0.mk ((by rw [hg]; exact (below_size (by repeat (first | (with_reducible first | exact HB.out | apply below_alloc | apply pw_below_drewN | apply below_drew1) | exact HB.out))) : w.heap.size ≤ gb167)); have n3_ := Aside0.mk ((by rw [hg]; exact (below_size (by repeat (first | (with_reducible first | exact HB.out | apply below_alloc | apply pw_below_drewN | apply below_drew1) | exact HB.out))) : w.heap.size ≤ gb167)); clear HB; have HB := n0_; have BK167 := n1_; have GW167 := n2_; have GE167 := n3_; clear n0_ n1_ n2_ n3_; clear hb hbox hg; have hcz9_0 : w8.cell? ⟨gb167, 0, none⟩ = some (.int .i64 a0_0) := (blk_cell BK167.out 0).trans rfl; have hcz9_1 : w8.cell? ⟨gb167, 1, none⟩ = some (.int .i64 a0_1) := (blk_cell BK167.out 1).trans rfl; have hcz9_2 : w8.cell? ⟨gb167, 2, none⟩ = some (.int .i64 a0_2) := (blk_cell BK167.out 2).trans rfl; have hfz9_0 := blk_frozen BK167.out 0; have hfz9_1 := blk_frozen BK167.out 1; have hfz9_2 := blk_frozen BK167.out 2) | ((with_reducible refine gate_callee (f := 33) rfl ?_); refine goesL_ (some 9) rfl rfl Try.func33 (by kernel_rfl) rfl #[.int .i64 a0_0, .int .i64 0, .int .i64 (wrap64 (a1 - 1))] rfl (by (try simp only [List.map_toArray, List.map_cons, List.map_nil]); first | done | rfl | (simp only [List.length_drop, List.length_take]; rfl)) ?_; (with_reducible refine (impl_within.calls a0_0 0 (wrap64 (a1 - 1)) true _ A3.out).mono ?_); rintro e w' ⟨rfl, ⟨nd, rfl⟩⟩; refine ⟨_, rfl, ?_⟩) | (go_at_call 33; (with_reducible refine (impl_within.calls a0_1 0 (wrap64 (a1 - 1)) true _ A5.out).mono ?_); rintro e w' ⟨rfl, ⟨nd, rfl⟩⟩))
    go_ret
    exact ⟨by first | rfl | (simp [errW_none, errW_some] <;> rfl) | (simp [*, errW_none, errW_some] <;> rfl), by repeat (first | (with_reducible first | exact HB.out | apply below_alloc | apply pw_below_drewN | apply below_drew1 | refine below_set ?_ GE167.out) | exact HB.out)⟩
   ·rw [if_neg c7] at H
    have c7b0 : (a0_0 == a0_1) = false := beq_eq_false_iff_ne.mpr c7
    have c7b1 : (a0_0 != a0_1) = true := bne_iff_ne.mpr c7
    replace H := Option.bind_eq_some_iff.mp H
    obtain ⟨t170, A100, H⟩ := H
    replace H : (some t170) = some r := H
    have A10 := Aside0.mk A100
    clear A100
    obtain rfl := Option.some.inj H
    go_enter Try.func36, Try.ntmps36
    go_wp2_with (first | ((with_reducible refine gate_dst (N := 2) rfl ?_); refine box_event ?hg (N := 2) ?hd (cs := #[.int .i64 a0_0, .int .i64 a0_1, .int .i64 a0_2]) (t := 53) ?hr ?_; (case hd => rfl); (case hg => rfl); (case hr => first | (go_simp; done) | (go_simp; rfl)); intro gb167 hg w11 hbox hb; have n0_ := Aside0.mk (below_step (by repeat (first | (with_reducible first | exact HB.out | apply below_alloc | apply pw_below_drewN | apply below_drew1) | exact HB.out)) hb); have n1_ := Aside0.mk (hbox); have n2_ := Aside0.mk ((by rw [hg]; exact (below_size (by repeat (first | (with_reducible first | exact HB.out | apply below_alloc | apply pw_below_drewN | apply below_drew1) | exact HB.out))) : w.heap.size ≤ gb167)); have n3_ := Aside0.mk ((by rw [hg]; exact (below_size (by repeat (first | (with_reducible first | exact HB.out | apply below_alloc | apply pw_below_drewN | apply below_drew1) | exact HB.out))) : w.heap.size ≤ gb167)); clear HB; have HB := n0_; have BK167 := n1_; have GW167 := n2_; have GE167 := n3_; clear n0_ n1_ n2_ n3_; clear hb hbox hg; have hcz12_0 : w11.cell? ⟨gb167, 0, none⟩ = some (.int .i64 a0_0) := (blk_cell BK167.out 0).trans rfl; have hcz12_1 : w11.cell? ⟨gb167, 1, none⟩ = some (.int .i64 a0_1) := (blk_cell BK167.out 1).trans rfl; have hcz12_2 : w11.cell? ⟨gb167, 2, none⟩ = some (.int .i64 a0_2) := (blk_cell BK167.out 2).trans rfl; have hfz12_0 := blk_frozen BK167.out 0; have hfz12_1 := blk_frozen BK167.out 1; have hfz12_2 := blk_frozen BK167.out 2) | ((with_reducible refine gate_callee (f := 33) rfl ?_); refine goesL_ (some 9) rfl rfl Try.func33 (by kernel_rfl) rfl #[.int .i64 a0_0, .int .i64 0, .int .i64 (wrap64 (a1 - 1))] rfl (by (try simp only [List.map_toArray, List.map_cons, List.map_nil]); first | done | rfl | (simp only [List.length_drop, List.length_take]; rfl)) ?_; (with_reducible refine (impl_within.calls a0_0 0 (wrap64 (a1 - 1)) true _ A3.out).mono ?_); rintro e w' ⟨rfl, ⟨nd, rfl⟩⟩; refine ⟨_, rfl, ?_⟩) | (go_at_call 33; (with_reducible refine (impl_within.calls a0_1 0 (wrap64 (a1 - 1)) true _ A5.out).mono ?_); rintro e w' ⟨rfl, ⟨nd, rfl⟩⟩) | (go_at_call 44; (with_reducible refine (impl_isLimit.calls a0_2 t170 _ A10.out).mono ?_); rintro e w' ⟨rfl, ⟨nd, rfl⟩⟩))
    go_ret
    exact ⟨by first | rfl | (simp [errW_none, errW_some] <;> rfl) | (simp [*, errW_none, errW_some] <;> rfl), by repeat (first | (with_reducible first | exact HB.out | apply below_alloc | apply pw_below_drewN | apply below_drew1 | refine below_set ?_ GE167.out) | exact HB.out)⟩
  ·replace c6 := Bool.eq_false_iff.mpr c6
   subst c6
   have H1 : (some false) = some r := by rw [if_neg (show ¬ (false = true) by decide)] at H; exact H
   clear H
   have H := H1
   clear H1
   obtain rfl := Option.some.inj H
   go_enter Try.func36, Try.ntmps36
   go_wp2_with (first | ((with_reducible refine gate_dst (N := 2) rfl ?_); refine box_event ?hg (N := 2) ?hd (cs := #[.int .i64 a0_0, .int .i64 a0_1, .int .i64 a0_2]) (t := 53) ?hr ?_; (case hd => rfl); (case hg => rfl); (case hr => first | (go_simp; done) | (go_simp; rfl)); intro gb167 hg w13 hbox hb; have n0_ := Aside0.mk (below_step (by repeat (first | (with_reducible first | exact HB.out | apply below_alloc | apply pw_below_drewN | apply below_drew1) | exact HB.out)) hb); have n1_ := Aside0.mk (hbox); have n2_ := Aside0.mk ((by rw [hg]; exact (below_size (by repeat (first | (with_reducible first | exact HB.out | apply below_alloc | apply pw_below_drewN | apply below_drew1) | exact HB.out))) : w.heap.size ≤ gb167)); have n3_ := Aside0.mk ((by rw [hg]; exact (below_size (by repeat (first | (with_reducible first | exact HB.out | apply below_alloc | apply pw_below_drewN | apply below_drew1) | exact HB.out))) : w.heap.size ≤ gb167)); clear HB; have HB := n0_; have BK167 := n1_; have GW167 := n2_; have GE167 := n3_; clear n0_ n1_ n2_ n3_; clear hb hbox hg; have hcz14_0 : w13.cell? ⟨gb167, 0, none⟩ = some (.int .i64 a0_0) := (blk_cell BK167.out 0).trans rfl; have hcz14_1 : w13.cell? ⟨gb167, 1, none⟩ = some (.int .i64 a0_1) := (blk_cell BK167.out 1).trans rfl; have hcz14_2 : w13.cell? ⟨gb167, 2, none⟩ = some (.int .i64 a0_2) := (blk_cell BK167.out 2).trans rfl; have hfz14_0 := blk_frozen BK167.out 0; have hfz14_1 := blk_frozen BK167.out 1; have hfz14_2 := blk_frozen BK167.out 2) | ((with_reducible refine gate_callee (f := 33) rfl ?_); refine goesL_ (some 9) rfl rfl Try.func33 (by kernel_rfl) rfl #[.int .i64 a0_0, .int .i64 0, .int .i64 (wrap64 (a1 - 1))] rfl (by (try simp only [List.map_toArray, List.map_cons, List.map_nil]); first | done | rfl | (simp only [List.length_drop, List.length_take]; rfl)) ?_; (with_reducible refine (impl_within.calls a0_0 0 (wrap64 (a1 - 1)) true _ A3.out).mono ?_); rintro e w' ⟨rfl, ⟨nd, rfl⟩⟩; refine ⟨_, rfl, ?_⟩) | (go_at_call 33; (with_reducible refine (impl_within.calls a0_1 0 (wrap64 (a1 - 1)) false _ A5.out).mono ?_); rintro e w' ⟨rfl, ⟨nd, rfl⟩⟩))
   go_ret
   exact ⟨by first | rfl | (simp [errW_none, errW_some] <;> rfl) | (simp [*, errW_none, errW_some] <;> rfl), by repeat (first | (with_reducible first | exact HB.out | apply below_alloc | apply pw_below_drewN | apply below_drew1 | refine below_set ?_ GE167.out) | exact HB.out)⟩
 ·replace c4 := Bool.eq_false_iff.mpr c4
  subst c4
  have H1 : (some false) = some r := by rw [if_neg (show ¬ (false = true) by decide)] at H; exact H
  clear H
  have H := H1
  clear H1
  obtain rfl := Option.some.inj H
  go_enter Try.func36, Try.ntmps36
  go_wp2_with (first | ((with_reducible refine gate_dst (N := 2) rfl ?_); refine box_event ?hg (N := 2) ?hd (cs := #[.int .i64 a0_0, .int .i64 a0_1, .int .i64 a0_2]) (t := 53) ?hr ?_; (case hd => rfl); (case hg => rfl); (case hr => first | (go_simp; done) | (go_simp; rfl)); intro gb167 hg w15 hbox hb; have n0_ := Aside0.mk (below_step (by repeat (first | (with_reducible first | exact HB.out | apply below_alloc | apply pw_below_drewN | apply below_drew1) | exact HB.out)) hb); have n1_ := Aside0.mk (hbox); have n2_ := Aside0.mk ((by rw [hg]; exact (below_size (by repeat (first | (with_reducible first | exact HB.out | apply below_alloc | apply pw_below_drewN | apply below_drew1) | exact HB.out))) : w.heap.size ≤ gb167)); have n3_ := Aside0.mk ((by rw [hg]; exact (below_size (by repeat (first | (with_reducible first | exact HB.out | apply below_alloc | apply pw_below_drewN | apply below_drew1) | exact HB.out))) : w.heap.size ≤ gb167)); clear HB; have HB := n0_; have BK167 := n1_; have GW167 := n2_; have GE167 := n3_; clear n0_ n1_ n2_ n3_; clear hb hbox hg; have hcz16_0 : w15.cell? ⟨gb167, 0, none⟩ = some (.int .i64 a0_0) := (blk_cell BK167.out 0).trans rfl; have hcz16_1 : w15.cell? ⟨gb167, 1, none⟩ = some (.int .i64 a0_1) := (blk_cell BK167.out 1).trans rfl; have hcz16_2 : w15.cell? ⟨gb167, 2, none⟩ = some (.int .i64 a0_2) := (blk_cell BK167.out 2).trans rfl; have hfz16_0 := blk_frozen BK167.out 0; have hfz16_1 := blk_frozen BK167.out 1; have hfz16_2 := blk_frozen BK167.out 2) | ((with_reducible refine gate_callee (f := 33) rfl ?_); refine goesL_ (some 9) rfl rfl Try.func33 (by kernel_rfl) rfl #[.int .i64 a0_0, .int .i64 0, .int .i64 (wrap64 (a1 - 1))] rfl (by (try simp only [List.map_toArray, List.map_cons, List.map_nil]); first | done | rfl | (simp only [List.length_drop, List.length_take]; rfl)) ?_; (with_reducible refine (impl_within.calls a0_0 0 (wrap64 (a1 - 1)) false _ A3.out).mono ?_); rintro e w' ⟨rfl, ⟨nd, rfl⟩⟩; refine ⟨_, rfl, ?_⟩))
  go_ret
  exact ⟨by first | rfl | (simp [errW_none, errW_some] <;> rfl) | (simp [*, errW_none, errW_some] <;> rfl), by repeat (first | (with_reducible first | exact HB.out | apply below_alloc | apply pw_below_drewN | apply below_drew1 | refine below_set ?_ GE167.out) | exact HB.out)⟩

end Go.Proofs.Ytkdijegkoajdgaa.Pa

namespace Go.Proofs.Ytkdijegkoajdgaa.Pa
open Go.RowKit Go.Proofs.YtkdijegkoajdgaaW.PrintWords Go.Proofs.YtkdijegkoajdgaaW.PrintLast Go.Proofs.YtkdijegkoajdgaaW.PrintMore
attribute [local go_sem] max2_int min2_int max_two min_two max_three min_three max_four min_four   -- for this text's walks alone
set_option linter.unusedVariables false
set_option linter.unusedSimpArgs false

/-! ### AUX firstOf -/
/-- The place of the first element for which a test holds, or -1. -/
def firstOf {α : Type} (p : α → Bool) : List α → Int → Int
 | [], _ => -1
 | x :: l, i => if p x = true then i else firstOf p l (i + 1)
theorem firstOf_step {α : Type} (p : α → Bool) (x : α) (l : List α) (i : Int) : firstOf p (x :: l) i = if p x = true then i else firstOf p l (i + 1) := rfl
theorem firstOf_iff {α : Type} (p : α → Bool) (l : List α) : ∀ i, 0 ≤ i → (0 ≤ firstOf p l i ↔ l.any p = true) := by
 induction l with
 | nil => intro i hi; simp [firstOf]
 | cons x l ih =>
  intro i hi
  rw [firstOf_step, List.any_cons]
  by_cases hx : p x = true
  ·rw [if_pos hx, hx]
   simp [hi]
  ·rw [if_neg hx, Bool.eq_false_iff.mpr hx]
   simpa using ih (i + 1) (by omega)
theorem firstOf_any {α : Type} (p : α → Bool) (l : List α) : decide (0 ≤ firstOf p l 0) = l.any p := by
 rw [Bool.eq_iff_iff, decide_eq_true_iff]
 exact firstOf_iff p l 0 (by omega)
end Go.Proofs.Ytkdijegkoajdgaa.Pa

namespace Go.Proofs.Ytkdijegkoajdgaa.Pa
open Go.RowKit Go.Proofs.YtkdijegkoajdgaaW.PrintWords Go.Proofs.YtkdijegkoajdgaaW.PrintLast Go.Proofs.YtkdijegkoajdgaaW.PrintMore
attribute [local go_sem] max2_int min2_int max_two min_two max_three min_three max_four min_four   -- for this text's walks alone
set_option linter.unusedVariables false
set_option linter.unusedSimpArgs false

/-! ### AUX containsB -/
set_option maxHeartbeats 2000000 in
set_option maxRecDepth 100000 in
theorem indexB.calls (A : Option Addr) (c : Nat) (l : List S53) (g : Nat) (lb : Array Value) (p : S53 → Bool) (w : World) (hr : Kd.C k53 w A l.length l)
  (eg : ∀ args W, (callFunc g args).run Try.prog W = .ok (.enter g args) W)
  (hp : ∀ (W : World) (x : S53), x ∈ l → Below w.heap.size w W → Calls Try.prog g (#[.agg #[.int .i64 x.f0, .int .i64 x.f1, .int .i64 x.f2]] ++ lb) W fun e w' => e = .returned (.bool (p x)) ∧ Below w.heap.size w w') :
  Calls Try.prog 43 #[.slice A l.length c, .func (.func g) #[] lb] w fun e w' => e = .returned (.int .i64 (firstOf p l 0)) ∧ Below w.heap.size w w' := by
 have hu := Try.underlying53
 have HR := Aside0.mk hr
 have hlen : l.length ≤ 9223372036854775807 := hr.2.1
 clear hr
 have HP := Aside0.mk hp
 clear hp
 go_enter Try.func43, Try.ntmps43
 go_wp2
 go_loopg [5, 8] l.length (fun gg _ s8 wr => ∃ x : Int, s8 = .int .i64 x ∧ Aside0 (0 ≤ x ∧ x ≤ l.length ∧ (l.length : Int) - x ≤ gg) ∧ Aside0 (Below w.heap.size w wr) ∧ Aside0 (firstOf p l 0 = firstOf p (l.drop x.toNat) x))
 case atStart => exact ⟨0, rfl, ⟨by omega⟩, ⟨Below.refl _ w⟩, ⟨rfl⟩⟩
 case round =>
  obtain ⟨x, rfl, HX, HB, HF⟩ := hrel
  by_cases hlt : x < (l.length : Int)
  ·have c0 : decide (0 ≤ x) = true := decide_eq_true HX.out.1
   have c1 : decide (x < (l.length : Int)) = true := decide_eq_true hlt
   have HL := Aside0.mk hlt
   clear hlt
   obtain ⟨ad, e, h0, h1, h2⟩ := at_T53 HR.out x HX.out.1 HL.out
   cases e
   replace h0 := (HB.out.cell (World.block_lt_of_cell? w _ h0)).trans h0
   replace h1 := (HB.out.cell (World.block_lt_of_cell? w _ h1)).trans h1
   replace h2 := (HB.out.cell (World.block_lt_of_cell? w _ h2)).trans h2
   have hmem : rd_T53 l x ∈ l := by
    have hx := HX.out
    have hl := HL.out
    unfold rd_T53
    rw [List.getD_eq_getElem?_getD, List.getElem?_eq_getElem (by omega)]
    exact List.getElem_mem _
   have hcall := HP.out wr (rd_T53 l x) hmem HB.out
   clear hmem
   have hd : l.drop x.toNat = rd_T53 l x :: l.drop (x + 1).toNat := by
    have hx := HX.out
    have hl := HL.out
    rw [List.drop_eq_getElem_cons (by omega), show (x + 1).toNat = x.toNat + 1 from by omega]
    unfold rd_T53
    rw [List.getD_eq_getElem?_getD, List.getElem?_eq_getElem (by omega)]
    rfl
   have HD := Aside0.mk hd
   clear hd
   cases hq : p (rd_T53 l x) with
   | true =>
    rw [hq] at hcall
    have HQ := Aside0.mk hq
    clear hq
    have HC := Aside0.mk hcall
    clear hcall
    have p0 := eq_true HX.out.1
    have p1 := eq_true HL.out
    go_wp2_with (go_at_fn g; refine HC.out.mono ?_; rintro e w' ⟨rfl, hb'⟩)
    go_ret
    refine ⟨?_, hb'⟩
    rw [HF.out, HD.out, firstOf_step, if_pos HQ.out]
    rfl
   | false =>
    rw [hq] at hcall
    have HQ := Aside0.mk hq
    clear hq
    have HC := Aside0.mk hcall
    clear hcall
    have p0 := eq_true HX.out.1
    have p1 := eq_true HL.out
    go_wp2_with (go_at_fn g; refine HC.out.mono ?_; rintro e w' ⟨rfl, hb'⟩)
    have hx1 := HX.out
    have hl1 := HL.out
    go_roundg ((l.length : Int) - (x + 1)).toNat
    case measure => omega
    case rel =>
     have hw1 : wrap64 (x + 1) = x + 1 := by unfold wrap64; omega
     refine ⟨x + 1, by rw [hw1], ⟨by omega⟩, ⟨hb'⟩, ⟨?_⟩⟩
     rw [HF.out, HD.out, firstOf_step, if_neg (by rw [HQ.out]; simp)]
  ·have c1 : decide (x < (l.length : Int)) = false := decide_eq_false hlt
   have HL := Aside0.mk hlt
   clear hlt
   go_wp2
   go_ret
   refine ⟨?_, HB.out⟩
   have hx := HX.out
   have hl := HL.out
   rw [HF.out, List.drop_of_length_le (by omega)]
   rfl
set_option maxHeartbeats 1000000 in
theorem containsB.calls (A : Option Addr) (c : Nat) (l : List S53) (g : Nat) (lb : Array Value) (p : S53 → Bool) (w : World) (hr : Kd.C k53 w A l.length l)
  (eg : ∀ args W, (callFunc g args).run Try.prog W = .ok (.enter g args) W)
  (hp : ∀ (W : World) (x : S53), x ∈ l → Below w.heap.size w W → Calls Try.prog g (#[.agg #[.int .i64 x.f0, .int .i64 x.f1, .int .i64 x.f2]] ++ lb) W fun e w' => e = .returned (.bool (p x)) ∧ Below w.heap.size w w') :
  Calls Try.prog 34 #[.slice A l.length c, .func (.func g) #[] lb] w fun e w' => e = .returned (.bool (l.any p)) ∧ Below w.heap.size w w' := by
 have hcall := Aside0.mk (indexB.calls A c l g lb p w hr eg hp)
 clear hp hr eg
 rw [← firstOf_any p l]
 generalize firstOf p l 0 = r at hcall ⊢
 go_enter Try.func34, Try.ntmps34
 go_wp2_with (go_at_call 43; refine hcall.out.mono ?_; rintro e w' ⟨rfl, hb'⟩)
 go_ret
 exact ⟨rfl, hb'⟩

end Go.Proofs.Ytkdijegkoajdgaa.Pa

namespace Go.Proofs.Ytkdijegkoajdgaa.Pa
open Go.RowKit Go.Proofs.YtkdijegkoajdgaaW.PrintWords Go.Proofs.YtkdijegkoajdgaaW.PrintLast Go.Proofs.YtkdijegkoajdgaaW.PrintMore
attribute [local go_sem] max2_int min2_int max_two min_two max_three min_three max_four min_four   -- for this text's walks alone
set_option linter.unusedVariables false
set_option linter.unusedSimpArgs false

/-! ### impl_ValidDiagram: function 20 -/
/-- What a diagram must be. -/
def boundOk (n : Int) (b : S53) : Bool := decide (0 ≤ b.f0) && decide (b.f0 ≤ n - 1) && (decide (0 ≤ b.f1) && decide (b.f1 ≤ n - 1)) && !(b.f0 == b.f1) && (decide (-1000 ≤ b.f2) && decide (b.f2 ≤ 1000))
def diagramOk (n : Int) (l : List S53) : Bool := decide (1 ≤ n) && decide (n ≤ 10) && decide (l.length ≤ 24) && l.all (boundOk n)
theorem isBound_tells (a b c n : Int) (h0 : 1 ≤ n) (h1 : n ≤ 10) : impl_isBound.f a b c n = some (boundOk n ⟨a, b, c⟩) := by
 have hw : wrap64 (n - 1) = n - 1 := by unfold wrap64; omega
 have hin : ∀ x l u : Int, impl_within.f x l u = some (decide (l ≤ x) && decide (x ≤ u)) := by
  intro x l u
  unfold impl_within.f
  by_cases h : l ≤ x <;> simp [h]
 unfold impl_isBound.f impl_isLimit.f boundOk
 simp only [hin, hw, Option.bind_some]
 by_cases h2 : 0 ≤ a <;> by_cases h3 : a ≤ n - 1 <;> by_cases h4 : 0 ≤ b <;> by_cases h5 : b ≤ n - 1 <;> by_cases h6 : a = b <;> simp [h2, h3, h4, h5, h6]
def impl_ValidDiagram.f (a0_0 : Int) (l0_1 : List (S53)) : Option (Bool) := some (diagramOk a0_0 l0_1)
set_option maxHeartbeats 4000000 in
set_option maxRecDepth 100000 in
/-- The test that ValidDiagram hands on. -/
theorem ValidDiagram_test (n : Int) (A : Option Addr) (m c : Nat) (h0 : 1 ≤ n) (h1 : n ≤ 10) (B : Nat) (w : World) (hB : B < w.heap.size) (hc0 : w.cell? ⟨B, 0, none⟩ = some (.int .i64 n)) (W : World) (x : S53) (hb : Below w.heap.size w W) :
  Calls Try.prog 35 (#[.agg #[.int .i64 x.f0, .int .i64 x.f1, .int .i64 x.f2]] ++ #[.pointer (some ⟨B, 0, none⟩)]) W fun e w' => e = .returned (.bool (!boundOk n x)) ∧ Below w.heap.size w w' := by
 have hc : W.cell? ⟨B, 0, none⟩ = some (.int .i64 n) := (hb.cell (p := ⟨B, 0, none⟩) hB).trans hc0
 have hu := Try.underlying53
 have hu2 := Try.underlying31
 have hBW : B < W.heap.size := Nat.lt_of_lt_of_le hB hb.size
 have hne : B ≠ W.heap.size := by omega
 have hq := Aside0.mk (isBound_tells x.f0 x.f1 x.f2 n h0 h1)
 have HB := Aside0.mk hb
 clear hb hc0 h0 h1
 generalize boundOk n x = q at hq ⊢
 show Calls Try.prog 35 #[.agg #[.int .i64 x.f0, .int .i64 x.f1, .int .i64 x.f2], .pointer (some ⟨B, 0, none⟩)] W _
 go_enter Try.func35, Try.ntmps35
 go_wp2_with (go_at_call 36; refine (impl_isBound.calls _ _ _ _ q _ hq.out).mono ?_; rintro e w' ⟨rfl, hb'⟩)
 go_ret
 exact ⟨rfl, HB.out.trans (Below.mono ((below_alloc (Below.refl _ _) _).trans (hb'.mono (by simp))) HB.out.size)⟩
def anyBad (n : Int) (l : List S53) : Bool := l.any fun x => !boundOk n x
theorem anyBad_all (n : Int) (l : List S53) : (!anyBad n l) = l.all (boundOk n) := by
 unfold anyBad
 rw [List.all_eq_not_any_not]
theorem ValidDiagram_contains (n : Int) (A : Option Addr) (c : Nat) (l : List S53) (h0 : 1 ≤ n) (h1 : n ≤ 10) (B : Nat) (w : World) (hB : B < w.heap.size) (hc0 : w.cell? ⟨B, 0, none⟩ = some (.int .i64 n)) (hr : Kd.C k53 w A l.length l) :
  Calls Try.prog 34 #[.slice A l.length c, .func (.func 35) #[] #[.pointer (some ⟨B, 0, none⟩)]] w fun e w' => e = .returned (.bool (anyBad n l)) ∧ Below w.heap.size w w' :=
 containsB.calls A c l 35 #[.pointer (some ⟨B, 0, none⟩)] (fun x => !boundOk n x) w hr (enters_of Try.func35 (by kernel_rfl) rfl) (fun W x _ hb => ValidDiagram_test n A l.length c h0 h1 B w hB hc0 W x hb)
set_option maxHeartbeats 4000000 in
set_option maxRecDepth 100000 in
theorem impl_ValidDiagram.calls (a0_0 : Int) (A0_1 : Option Addr) (c0_1 : Nat) (l0_1 : List (S53)) (r : Bool) (w : World) (hr0_1 : Kd.C k53 w A0_1 l0_1.length l0_1) (hc0_1 : l0_1.length ≤ c0_1) (h : impl_ValidDiagram.f a0_0 l0_1 = some r) :
  Calls Try.prog 20 #[.agg #[.int .i64 a0_0, .slice A0_1 l0_1.length c0_1]] w fun e w' => e = .returned (.bool r) ∧ Below w.heap.size w w' := by
 obtain rfl := Option.some.inj h
 clear h
 have hu := Try.underlying31
 have HR := Aside0.mk hr0_1
 clear hr0_1 hc0_1
 by_cases hn : 1 ≤ a0_0 ∧ a0_0 ≤ 10
 ·obtain ⟨h0, h1⟩ := hn
  have HW : Aside0 (impl_within.f a0_0 1 10 = some true) := ⟨by unfold impl_within.f; rw [if_pos h0, decide_eq_true h1]⟩
  by_cases hl : l0_1.length ≤ 24
  ·have c1 : decide ((24 : Int) < (l0_1.length : Int)) = false := decide_eq_false (by omega)
   have c2 : decide (24 < l0_1.length) = false := decide_eq_false (by omega)
   have HE : Aside0 (diagramOk a0_0 l0_1 = !anyBad a0_0 l0_1) := ⟨by unfold diagramOk; rw [anyBad_all, decide_eq_true h0, decide_eq_true h1, decide_eq_true hl]; simp⟩
   have H0 := Aside0.mk h0
   have H1 := Aside0.mk h1
   clear h0 h1 hl
   generalize diagramOk a0_0 l0_1 = q at HE ⊢
   go_enter Try.func20, Try.ntmps20
   go_wp2_with (first | (go_at_call 33; refine (impl_within.calls _ _ _ true _ HW.out).mono ?_; rintro e w' ⟨rfl, ⟨nd, rfl⟩⟩) | (go_at_call 34; refine (ValidDiagram_contains a0_0 A0_1 c0_1 l0_1 H0.out H1.out w.heap.size _ (by simp) (by simp) (by repeat (first | exact HR.out | (with_reducible refine Kd.C_drewN ?_ _) | (with_reducible refine Kd.C_drew ?_) | (with_reducible refine Kd.C_alloc ?_ _)))).mono ?_; rintro e w' ⟨rfl, hb'⟩))
   go_ret
   exact ⟨by rw [HE.out]; rfl, (below_alloc (Below.refl _ _) _).trans (Below.mono (below_step (pw_below_drewN (Below.refl _ _) nd) hb') (by simp))⟩
  ·have c1 : decide ((24 : Int) < (l0_1.length : Int)) = true := decide_eq_true (by omega)
   have c2 : decide (24 < l0_1.length) = true := decide_eq_true (by omega)
   have HE : Aside0 (diagramOk a0_0 l0_1 = false) := ⟨by unfold diagramOk; rw [decide_eq_false hl]; simp⟩
   clear h0 h1 hl
   generalize diagramOk a0_0 l0_1 = q at HE ⊢
   go_enter Try.func20, Try.ntmps20
   go_wp2_with (go_at_call 33; refine (impl_within.calls _ _ _ true _ HW.out).mono ?_; rintro e w' ⟨rfl, ⟨nd, rfl⟩⟩)
   go_ret
   exact ⟨by rw [HE.out]; rfl, pw_below_drewN (below_alloc (Below.refl _ _) _) nd⟩
 ·have HW : Aside0 (impl_within.f a0_0 1 10 = some false) := ⟨by
   unfold impl_within.f
   split
   ·rw [decide_eq_false (by omega)]
   ·rfl⟩
  have HE : Aside0 (diagramOk a0_0 l0_1 = false) := ⟨by
   unfold diagramOk
   by_cases h0 : 1 ≤ a0_0
   ·rw [decide_eq_false (show ¬ a0_0 ≤ 10 by omega)]; simp
   ·rw [decide_eq_false h0]; simp⟩
  clear hn
  generalize diagramOk a0_0 l0_1 = q at HE ⊢
  go_enter Try.func20, Try.ntmps20
  go_wp2_with (go_at_call 33; refine (impl_within.calls _ _ _ false _ HW.out).mono ?_; rintro e w' ⟨rfl, ⟨nd, rfl⟩⟩)
  go_ret
  exact ⟨by rw [HE.out]; rfl, pw_below_drewN (below_alloc (Below.refl _ _) _) nd⟩

end Go.Proofs.Ytkdijegkoajdgaa.Pa

/- The tightest bounds as a plain function of the rows: one step, the loops, the diagonal. -/
namespace Go.Proofs.Ytkdijegkoajdgaa.Pure
open Go.RowKit Go.Proofs.Ytkdijegkoajdgaa.Pa Go.Proofs.YtkdijegkoajdgaaW.PrintWords Go.Proofs.YtkdijegkoajdgaaW.PrintLast Go.Proofs.YtkdijegkoajdgaaW.PrintMore
set_option linter.unusedVariables false
set_option linter.unusedSimpArgs false

def I64 (x : Int) : Prop := -9223372036854775808 ≤ x ∧ x ≤ 9223372036854775807
theorem I64_wrap (x : Int) : I64 (wrap64 x) := by unfold I64 wrap64; omega
theorem I64_mn {a b : Int} (ha : I64 a) (hb : I64 b) : I64 (mn a b) := by unfold mn; split <;> assumption
theorem min_mn (a b : Int) : spec_l00Min.f a b = some (mn a b) := by
 unfold spec_l00Min.f mn
 by_cases h : a < b
 ·rw [if_pos h, if_neg (by omega)]
 ·rw [if_neg h]
  by_cases h2 : b < a
  ·rw [if_pos h2]
  ·rw [if_neg h2, show a = b by omega]
/-- Square, of int64 numbers. -/
def Sq (n : Nat) (M : List (List Int)) : Prop := M.length = n ∧ ∀ r ∈ M, r.length = n ∧ ∀ y ∈ r, I64 y
theorem row_mem {n : Nat} {M : List (List Int)} (h : Sq n M) {i : Nat} (hi : i < n) : rd_L6 M (i : Int) ∈ M := by
 unfold rd_L6
 rw [List.getD_eq_getElem?_getD, Int.toNat_natCast, List.getElem?_eq_getElem (by rw [h.1]; exact hi)]
 exact List.getElem_mem _
theorem row_len {n : Nat} {M : List (List Int)} (h : Sq n M) {i : Nat} (hi : i < n) : (rd_L6 M (i : Int)).length = n := (h.2 _ (row_mem h hi)).1
theorem cell_in {n : Nat} {M : List (List Int)} (h : Sq n M) {i j : Nat} (hi : i < n) (hj : j < n) : I64 (rd (rd_L6 M (i : Int)) (j : Int)) := by
 have hl := row_len h hi
 rw [rd_get (by omega)]
 exact (h.2 _ (row_mem h hi)).2 _ (List.getElem_mem _)
theorem Sq_put {n : Nat} {M : List (List Int)} (h : Sq n M) {i : Nat} (hi : i < n) (j : Nat) {v : Int} (hv : I64 v) : Sq n (M.set i ((rd_L6 M (i : Int)).set j v)) := by
 refine ⟨by simp [h.1], fun r hr => ?_⟩
 rcases List.mem_or_eq_of_mem_set hr with hr | rfl
 ·exact h.2 r hr
 ·refine ⟨by simp [row_len h hi], fun y hy => ?_⟩
  rcases List.mem_or_eq_of_mem_set hy with hy | rfl
  ·exact (h.2 _ (row_mem h hi)).2 y hy
  ·exact hv

/-- One step: from i to j by way of x. -/
def stepJ (M : List (List Int)) (x i j : Nat) : List (List Int) :=
 if rd (rd_L6 M (i : Int)) (x : Int) < 1000000 then
  (if rd (rd_L6 M (x : Int)) (j : Int) < 1000000 then M.set i ((rd_L6 M (i : Int)).set j (mn (rd (rd_L6 M (i : Int)) (j : Int)) (wrap64 (rd (rd_L6 M (i : Int)) (x : Int) + rd (rd_L6 M (x : Int)) (j : Int))))) else M)
 else M
def foldJ (x i : Nat) : Nat → List (List Int) → Nat → List (List Int)
 | 0, M, _ => M
 | d + 1, M, j => foldJ x i d (stepJ M x i j) (j + 1)
def foldI (n x : Nat) : Nat → List (List Int) → Nat → List (List Int)
 | 0, M, _ => M
 | d + 1, M, i => foldI n x d (foldJ x i n M 0) (i + 1)
def foldX (n : Nat) : Nat → List (List Int) → Nat → List (List Int)
 | 0, M, _ => M
 | d + 1, M, x => foldX n d (foldI n x n M 0) (x + 1)
def diag : Nat → List (List Int) → Nat → Bool
 | 0, _, _ => true
 | d + 1, M, i => if rd (rd_L6 M (i : Int)) (i : Int) < 0 then false else diag d M (i + 1)
theorem Sq_stepJ {n : Nat} {M : List (List Int)} (h : Sq n M) {x i j : Nat} (hi : i < n) (hj : j < n) : Sq n (stepJ M x i j) := by
 unfold stepJ
 split
 ·split
  ·exact Sq_put h hi _ (I64_mn (cell_in h hi hj) (I64_wrap _))
  ·exact h
 ·exact h
theorem Sq_foldJ {n : Nat} {x i : Nat} (hi : i < n) (d : Nat) : ∀ (M : List (List Int)) (j : Nat), Sq n M → j + d ≤ n → Sq n (foldJ x i d M j) := by
 induction d with
 | zero => intro M j h _; exact h
 | succ d ih => intro M j h hj; exact ih _ _ (Sq_stepJ h hi (by omega)) (by omega)
theorem Sq_foldI {n : Nat} {x : Nat} (d : Nat) : ∀ (M : List (List Int)) (i : Nat), Sq n M → i + d ≤ n → Sq n (foldI n x d M i) := by
 induction d with
 | zero => intro M j h _; exact h
 | succ d ih => intro M j h hj; exact ih _ _ (Sq_foldJ (by omega) _ _ _ h (by omega)) (by omega)
theorem Sq_foldX {n : Nat} (d : Nat) : ∀ (M : List (List Int)) (x : Nat), Sq n M → Sq n (foldX n d M x) := by
 induction d with
 | zero => intro M j h; exact h
 | succ d ih => intro M j h; exact ih _ _ (Sq_foldI _ _ _ h (by omega))

theorem impl_j {n : Nat} (hn : n ≤ 10) {x i : Nat} (hx : x < n) (hi : i < n) (d : Nat) : ∀ (k : Nat) (M : List (List Int)) (j : Nat), Sq n M → j + d = n →
  impl_tightest.l4 (k + d + 1) M (x : Int) (i : Int) (n : Int) (x : Int) (n : Int) (i : Int) (n : Int) (j : Int) = impl_tightest.l3 k (foldJ x i d M j) (x : Int) (n : Int) (x : Int) (n : Int) ((i + 1 : Nat) : Int) := by
 induction d with
 | zero =>
  intro k M j h hj
  simp only [Nat.add_zero, impl_tightest.l4, foldJ]
  rw [if_neg (by omega), wrap_id (by omega) (by omega), ← Int.natCast_succ]
 | succ d ih =>
  intro k M j h hj
  have next := ih k (stepJ M x i j) (j + 1) (Sq_stepJ h hi (by omega)) (by omega)
  rw [show k + (d + 1) + 1 = (k + d + 1) + 1 from rfl]
  have hl := h.1
  have hri := row_len h hi
  have hrx := row_len h hx
  simp only [foldJ]
  rw [← next, show ((j + 1 : Nat) : Int) = (j : Int) + 1 from by omega]
  generalize k + d + 1 = m
  simp only [impl_tightest.l4]
  rw [if_pos (by omega), if_pos (by omega), if_pos (by omega), if_pos (by omega), if_pos (by omega)]
  unfold stepJ
  by_cases c1 : rd (rd_L6 M (i : Int)) (x : Int) < 1000000
  ·rw [if_pos c1, if_pos c1, if_pos (show (x : Int) < (M.length : Int) by omega), if_pos (by omega), if_pos (by omega), wrap_id (x := (j : Int) + 1) (by omega) (by omega)]
   by_cases c2 : rd (rd_L6 M (x : Int)) (j : Int) < 1000000
   ·rw [if_pos c2, if_pos c2, if_pos (show (j : Int) < ((rd_L6 M (i : Int)).length : Int) by omega)]
    simp only [Int.toNat_natCast]
   ·rw [if_neg c2, if_neg c2]
  ·rw [if_neg c1, if_neg c1, wrap_id (x := (j : Int) + 1) (by omega) (by omega)]
theorem spec_jend (n : Int) (bs : List S53) (k : Nat) (M : List (List Int)) (x i j : Int) (hj : ¬ j < n) (h0 : 0 ≤ i) (h1 : i ≤ 10) :
  spec_l04Tight.l5 (k + 1) M x i j n bs = spec_l04Tight.l4 k M x (i + 1) n bs := by
 simp only [spec_l04Tight.l5]
 rw [if_neg hj, wrap_id (by omega) (by omega)]
theorem spec_jstep (n : Int) (bs : List S53) (m : Nat) (M : List (List Int)) (x i j : Int) (a0 : j < n) (a1 : 0 ≤ i) (a2 : i < (M.length : Int)) (a3 : 0 ≤ x) (a4 : x < ((rd_L6 M i).length : Int)) (a5 : x < (M.length : Int)) (a6 : 0 ≤ j) (a7 : j < ((rd_L6 M x).length : Int)) (a8 : j < ((rd_L6 M i).length : Int)) (h1 : j ≤ 10) :
  spec_l04Tight.l5 (m + 1) M x i j n bs = spec_l04Tight.l5 m (if rd (rd_L6 M i) x < 1000000 then (if rd (rd_L6 M x) j < 1000000 then M.set i.toNat ((rd_L6 M i).set j.toNat (mn (rd (rd_L6 M i) j) (wrap64 (rd (rd_L6 M i) x + rd (rd_L6 M x) j)))) else M) else M) x i (j + 1) n bs := by
 conv => lhs; unfold spec_l04Tight.l5
 simp only [min_mn, Option.bind_some]
 rw [if_pos a0, if_pos a1, if_pos a2, if_pos a3, if_pos a4, wrap_id (x := j + 1) (by omega) (by omega)]
 by_cases c1 : rd (rd_L6 M i) x < 1000000
 ·rw [if_pos c1, if_pos c1, if_pos a5, if_pos a6, if_pos a7]
  by_cases c2 : rd (rd_L6 M x) j < 1000000
  ·rw [if_pos c2, if_pos c2, if_pos a8]
  ·rw [if_neg c2, if_neg c2]
 ·rw [if_neg c1, if_neg c1]
theorem spec_j {n : Nat} (hn : n ≤ 10) (bs : List S53) {x i : Nat} (hx : x < n) (hi : i < n) (d : Nat) : ∀ (k : Nat) (M : List (List Int)) (j : Nat), Sq n M → j + d = n →
  spec_l04Tight.l5 (k + d + 1) M (x : Int) (i : Int) (j : Int) (n : Int) bs = spec_l04Tight.l4 k (foldJ x i d M j) (x : Int) ((i + 1 : Nat) : Int) (n : Int) bs := by
 induction d with
 | zero =>
  intro k M j h hj
  rw [show ((i + 1 : Nat) : Int) = (i : Int) + 1 from by omega, Nat.add_zero, spec_jend (hj := by omega) (h0 := by omega) (h1 := by omega), foldJ]
 | succ d ih =>
  intro k M j h hj
  have next := ih k (stepJ M x i j) (j + 1) (Sq_stepJ h hi (by omega)) (by omega)
  have hl := h.1
  have hri := row_len h hi
  have hrx := row_len h hx
  rw [foldJ, ← next, show k + (d + 1) + 1 = (k + d + 1) + 1 from rfl, spec_jstep (a0 := by omega) (a1 := by omega) (a2 := by omega) (a3 := by omega) (a4 := by omega) (a5 := by omega) (a6 := by omega) (a7 := by omega) (a8 := by omega) (h1 := by omega), show ((j + 1 : Nat) : Int) = (j : Int) + 1 from by omega]
  simp only [Int.toNat_natCast, stepJ]
theorem impl_i {n : Nat} (hn : n ≤ 10) {x : Nat} (hx : x < n) (d : Nat) : ∀ (k : Nat) (M : List (List Int)) (i : Nat), Sq n M → i + d = n →
  impl_tightest.l3 (k + d * (n + 2) + 1) M (x : Int) (n : Int) (x : Int) (n : Int) (i : Int) = impl_tightest.l2 k (foldI n x d M i) (n : Int) ((x + 1 : Nat) : Int) := by
 induction d with
 | zero =>
  intro k M i h hi
  simp only [Nat.zero_mul, Nat.add_zero, impl_tightest.l3, foldI]
  rw [if_neg (by omega), wrap_id (by omega) (by omega), ← Int.natCast_succ]
 | succ d ih =>
  intro k M i h hi
  have next := ih k (foldJ x i n M 0) (i + 1) (Sq_foldJ (by omega) _ _ _ h (by omega)) (by omega)
  have hj := impl_j hn hx (show i < n by omega) n (k + d * (n + 2) + 1) M 0 h (by omega)
  rw [show k + (d + 1) * (n + 2) + 1 = (k + d * (n + 2) + 1 + n + 1) + 1 by rw [Nat.add_mul]; omega]
  conv => lhs; simp only [impl_tightest.l3]
  rw [if_pos (by omega), h.1]
  rw [show ((0 : Nat) : Int) = 0 from rfl] at hj
  rw [hj, next, foldI]
theorem spec_i {n : Nat} (hn : n ≤ 10) (bs : List S53) {x : Nat} (hx : x < n) (d : Nat) : ∀ (k : Nat) (M : List (List Int)) (i : Nat), Sq n M → i + d = n →
  spec_l04Tight.l4 (k + d * (n + 2) + 1) M (x : Int) (i : Int) (n : Int) bs = spec_l04Tight.l3 k (foldI n x d M i) ((x + 1 : Nat) : Int) (n : Int) bs := by
 induction d with
 | zero =>
  intro k M i h hi
  simp only [Nat.zero_mul, Nat.add_zero, spec_l04Tight.l4, foldI]
  rw [if_neg (by omega), wrap_id (by omega) (by omega), ← Int.natCast_succ]
 | succ d ih =>
  intro k M i h hi
  have next := ih k (foldJ x i n M 0) (i + 1) (Sq_foldJ (by omega) _ _ _ h (by omega)) (by omega)
  have hj := spec_j hn bs hx (show i < n by omega) n (k + d * (n + 2) + 1) M 0 h (by omega)
  rw [show k + (d + 1) * (n + 2) + 1 = (k + d * (n + 2) + 1 + n + 1) + 1 by rw [Nat.add_mul]; omega]
  conv => lhs; simp only [spec_l04Tight.l4]
  rw [if_pos (by omega)]
  rw [show ((0 : Nat) : Int) = 0 from rfl] at hj
  rw [hj, next, foldI]
theorem impl_d {n : Nat} (hn : n ≤ 10) (d : Nat) : ∀ (k : Nat) (M : List (List Int)) (i : Nat), Sq n M → i + d = n →
  impl_tightest.l5 (k + d + 1) M (n : Int) (i : Int) = some (if diag d M i = true then (M, true) else ([], false)) := by
 induction d with
 | zero =>
  intro k M i h hi
  simp only [Nat.add_zero, impl_tightest.l5, diag]
  rw [if_neg (by omega), if_pos trivial]
 | succ d ih =>
  intro k M i h hi
  have hl := h.1
  have hr := row_len h (show i < n by omega)
  have next := ih k M (i + 1) h (by omega)
  rw [show k + (d + 1) + 1 = (k + d + 1) + 1 from rfl]
  push_cast at next
  have ed : diag (d + 1) M i = if rd (rd_L6 M (i : Int)) (i : Int) < 0 then false else diag d M (i + 1) := rfl
  generalize k + d + 1 = m at next ⊢
  simp only [impl_tightest.l5]
  rw [if_pos (by omega), if_pos (by omega), if_pos (by omega), if_pos (by omega), wrap_id (by omega) (by omega)]
  by_cases c : rd (rd_L6 M (i : Int)) (i : Int) < 0
  ·rw [if_pos c] at ed
   rw [if_pos c, ed]; simp
  ·rw [if_neg c] at ed
   rw [if_neg c, ed]
   exact next
theorem spec_d {n : Nat} (hn : n ≤ 10) (bs : List S53) (d : Nat) : ∀ (k : Nat) (M : List (List Int)) (i : Nat), Sq n M → i + d = n →
  spec_l04Tight.l6 (k + d + 1) M (i : Int) (n : Int) bs = some (M, diag d M i, (n : Int)) := by
 induction d with
 | zero =>
  intro k M i h hi
  simp only [Nat.add_zero, spec_l04Tight.l6, diag]
  rw [if_neg (by omega)]
 | succ d ih =>
  intro k M i h hi
  have hl := h.1
  have hr := row_len h (show i < n by omega)
  have next := ih k M (i + 1) h (by omega)
  rw [show k + (d + 1) + 1 = (k + d + 1) + 1 from rfl]
  push_cast at next
  simp only [diag]
  generalize k + d + 1 = m at next ⊢
  simp only [spec_l04Tight.l6]
  rw [if_pos (by omega), if_pos (by omega), if_pos (by omega), if_pos (by omega), wrap_id (by omega) (by omega)]
  by_cases c : rd (rd_L6 M (i : Int)) (i : Int) < 0
  ·rw [if_pos c, if_pos c]
  ·rw [if_neg c, if_neg c]
   exact next
theorem impl_x {n : Nat} (hn : n ≤ 10) (d : Nat) : ∀ (k : Nat) (M : List (List Int)) (x : Nat), Sq n M → x + d = n →
  impl_tightest.l2 (k + d * (n * (n + 2) + 2) + 1) M (n : Int) (x : Int) = impl_tightest.l5 k (foldX n d M x) (n : Int) 0 := by
 induction d with
 | zero =>
  intro k M i h hi
  simp only [Nat.zero_mul, Nat.add_zero, impl_tightest.l2, foldX]
  rw [if_neg (by omega), h.1]
 | succ d ih =>
  intro k M x h hi
  have next := ih k (foldI n x n M 0) (x + 1) (Sq_foldI _ _ _ h (by omega)) (by omega)
  have hj := impl_i hn (show x < n by omega) n (k + d * (n * (n + 2) + 2) + 1) M 0 h (by omega)
  rw [show k + (d + 1) * (n * (n + 2) + 2) + 1 = (k + d * (n * (n + 2) + 2) + 1 + n * (n + 2) + 1) + 1 by rw [Nat.add_mul]; omega]
  conv => lhs; simp only [impl_tightest.l2]
  rw [if_pos (by omega), h.1]
  rw [show ((0 : Nat) : Int) = 0 from rfl] at hj
  rw [hj, next, foldX]
theorem spec_x {n : Nat} (hn : n ≤ 10) (bs : List S53) (d : Nat) : ∀ (k : Nat) (M : List (List Int)) (x : Nat), Sq n M → x + d = n →
  spec_l04Tight.l3 (k + d * (n * (n + 2) + 2) + 1) M (x : Int) (n : Int) bs = spec_l04Tight.l6 k (foldX n d M x) 0 (n : Int) bs := by
 induction d with
 | zero =>
  intro k M i h hi
  simp only [Nat.zero_mul, Nat.add_zero, spec_l04Tight.l3, foldX]
  rw [if_neg (by omega)]
 | succ d ih =>
  intro k M x h hi
  have next := ih k (foldI n x n M 0) (x + 1) (Sq_foldI _ _ _ h (by omega)) (by omega)
  have hj := spec_i hn bs (show x < n by omega) n (k + d * (n * (n + 2) + 2) + 1) M 0 h (by omega)
  rw [show k + (d + 1) * (n * (n + 2) + 2) + 1 = (k + d * (n * (n + 2) + 2) + 1 + n * (n + 2) + 1) + 1 by rw [Nat.add_mul]; omega]
  conv => lhs; simp only [spec_l04Tight.l3]
  rw [if_pos (by omega)]
  rw [show ((0 : Nat) : Int) = 0 from rfl] at hj
  rw [hj, next, foldX]
end Go.Proofs.Ytkdijegkoajdgaa.Pure

/- The tightest bounds: what the program and the reference both compute. -/
namespace Go.Proofs.Ytkdijegkoajdgaa.Pure
open Go.RowKit Go.Proofs.Ytkdijegkoajdgaa.Pa Go.Proofs.YtkdijegkoajdgaaW.PrintWords Go.Proofs.YtkdijegkoajdgaaW.PrintLast Go.Proofs.YtkdijegkoajdgaaW.PrintMore
set_option linter.unusedVariables false
set_option linter.unusedSimpArgs false

/-- The first row i: 0 at i, else no bound. -/
def irow (i n : Nat) : List Int := (List.replicate n (1000000 : Int)).set i 0
def irows (n : Nat) : Nat → Nat → List (List Int)
 | 0, _ => []
 | d + 1, i => irow i n :: irows n d (i + 1)
theorem irows_length (n d : Nat) : ∀ i, (irows n d i).length = d := by
 induction d with
 | zero => intro i; rfl
 | succ d ih => intro i; simp [irows, ih]
theorem irows_mem (n d : Nat) : ∀ i, ∀ r ∈ irows n d i, r.length = n ∧ ∀ y ∈ r, I64 y := by
 induction d with
 | zero => intro i r hr; simp [irows] at hr
 | succ d ih =>
  intro i r hr
  simp only [irows, List.mem_cons] at hr
  rcases hr with rfl | hr
  ·refine ⟨by simp [irow], fun y hy => ?_⟩
   rcases List.mem_or_eq_of_mem_set hy with hy | rfl
   ·have := List.eq_of_mem_replicate hy
    subst this
    unfold I64; omega
   ·unfold I64; omega
  ·exact ih _ r hr
theorem irows_Sq (n : Nat) : Sq n (irows n n 0) := ⟨irows_length n n 0, irows_mem n n 0⟩
theorem impl_rows {n : Nat} (h0 : 1 ≤ n) (hn : n ≤ 10) (bs : List S53) (d : Nat) : ∀ (k : Nat) (acc : List (List Int)) (i : Nat), acc.length = i → i + d = n →
  impl_tightest.l0 (k + d + 1) (n : Int) bs acc (n : Int) (i : Int) = impl_tightest.l1 k (acc ++ irows n d i) bs (bs.length : Int) 0 := by
 induction d with
 | zero =>
  intro k acc i ha hi
  simp only [Nat.add_zero, impl_tightest.l0, irows, List.append_nil]
  rw [if_neg (by omega)]
 | succ d ih =>
  intro k acc i ha hi
  have next := ih k (acc ++ [irow i n]) (i + 1) (by simp [ha]) (by omega)
  rw [irows, show acc ++ irow i n :: irows n d (i + 1) = acc ++ [irow i n] ++ irows n d (i + 1) by simp, ← next, show ((i + 1 : Nat) : Int) = (i : Int) + 1 from by omega]
  rw [show k + (d + 1) + 1 = (k + d + 1) + 1 from rfl]
  generalize k + d + 1 = m
  simp only [impl_tightest.l0]
  have e : slices_Repeat_int64_int64.f [1000000] (n : Int) = some (List.replicate n (1000000 : Int)) := by
   unfold slices_Repeat_int64_int64.f
   rw [if_pos ⟨rfl, by omega, by omega⟩]
   rfl
  rw [if_pos (by omega), e]
  simp only [Option.bind_some, List.length_replicate, Int.toNat_natCast]
  rw [if_pos (by omega), if_pos (by omega), if_pos (by omega), wrap_id (by omega) (by omega)]
  rfl
theorem spec_row {n : Nat} (hn : n ≤ 10) (w : List Int) (bs : List S53) (rows : List (List Int)) (hrows : rows.length ≤ 10) (i : Nat) (hi : i < n) (d : Nat) : ∀ (k : Nat) (acc : List Int) (j : Nat), acc = (irow i n).take j → j + d = n →
  spec_l04Tight.l1 (k + d + 1) w rows (i : Int) acc (j : Int) (n : Int) bs = spec_l04Tight.l0 k w (rows ++ [irow i n]) ((i : Int) + 1) (n : Int) bs := by
 induction d with
 | zero =>
  intro k acc j ha hj
  have hl : (irow i n).length = n := by simp [irow]
  simp only [Nat.add_zero, spec_l04Tight.l1]
  rw [if_neg (by omega), if_pos (by omega), wrap_id (by omega) (by omega), ha, List.take_of_length_le (by omega)]
 | succ d ih =>
  intro k acc j ha hj
  have hl : (irow i n).length = n := by simp [irow]
  have hal : acc.length = j := by rw [ha, List.length_take]; omega
  have ht : (irow i n).take (j + 1) = acc ++ [if (i : Int) = (j : Int) then 0 else 1000000] := by
   rw [List.take_succ_eq_append_getElem (by omega), ← ha]
   congr 2
   unfold irow
   rw [List.getElem_set]
   by_cases e : i = j
   ·rw [if_pos e, if_pos (by omega)]
   ·rw [if_neg e, if_neg (by omega)]
    simp
  have next := ih k _ (j + 1) ht.symm (by omega)
  rw [← next, show ((j + 1 : Nat) : Int) = (j : Int) + 1 from by omega, show k + (d + 1) + 1 = (k + d + 1) + 1 from rfl]
  generalize k + d + 1 = m
  simp only [spec_l04Tight.l1]
  rw [if_pos (by omega), wrap_id (x := (j : Int) + 1) (by omega) (by omega)]
  by_cases e : (i : Int) = (j : Int)
  ·simp only [if_pos e]
   rw [if_pos (by omega)]
  ·simp only [if_neg e]
   rw [if_pos (by omega)]
theorem spec_rows {n : Nat} (hn : n ≤ 10) (w : List Int) (bs : List S53) (d : Nat) : ∀ (k : Nat) (acc : List (List Int)) (i : Nat), acc.length = i → i + d = n →
  spec_l04Tight.l0 (k + d * (n + 2) + 1) w acc (i : Int) (n : Int) bs = spec_l04Tight.l2 k w (acc ++ irows n d i) 0 (n : Int) bs := by
 induction d with
 | zero =>
  intro k acc i ha hi
  simp only [Nat.zero_mul, Nat.add_zero, spec_l04Tight.l0, irows, List.append_nil]
  rw [if_neg (by omega)]
 | succ d ih =>
  intro k acc i ha hi
  have next := ih k (acc ++ [irow i n]) (i + 1) (by simp [ha]) (by omega)
  have hr := spec_row hn w bs acc (by omega) i (by omega) n (k + d * (n + 2) + 1) [] 0 (by simp) (by omega)
  rw [show ((0 : Nat) : Int) = 0 from rfl] at hr
  rw [irows, show acc ++ irow i n :: irows n d (i + 1) = acc ++ [irow i n] ++ irows n d (i + 1) by simp, ← next, show ((i + 1 : Nat) : Int) = (i : Int) + 1 from by omega]
  rw [show k + (d + 1) * (n + 2) + 1 = (k + d * (n + 2) + 1 + n + 1) + 1 by rw [Nat.add_mul]; omega]
  conv => lhs; unfold spec_l04Tight.l0
  rw [if_pos (by omega), hr]

/-- One bound laid into the rows. -/
def bput (M : List (List Int)) (b : S53) : List (List Int) := M.set b.f0.toNat ((rd_L6 M b.f0).set b.f1.toNat (mn (rd (rd_L6 M b.f0) b.f1) b.f2))
/-- The bounds, but for those whose places are listed. -/
def bputs (w : List Int) : List S53 → Nat → List (List Int) → List (List Int)
 | [], _, M => M
 | b :: bs, i, M => bputs w bs (i + 1) (if w.contains (i : Int) then M else bput M b)
theorem bputs_nil_cons (b : S53) (bs : List S53) (i : Nat) (M : List (List Int)) : bputs [] (b :: bs) i M = bputs [] bs (i + 1) (bput M b) := rfl
/-- A bound between events below n. -/
def Bd (n : Nat) (b : S53) : Prop := 0 ≤ b.f0 ∧ b.f0 < (n : Int) ∧ 0 ≤ b.f1 ∧ b.f1 < (n : Int) ∧ I64 b.f2
theorem Sq_bput {n : Nat} {M : List (List Int)} (h : Sq n M) {b : S53} (hb : Bd n b) : Sq n (bput M b) := by
 obtain ⟨h0, h1, h2, h3, h4⟩ := hb
 have e0 : b.f0 = ((b.f0.toNat : Nat) : Int) := by omega
 have e1 : b.f1 = ((b.f1.toNat : Nat) : Int) := by omega
 have c := cell_in h (i := b.f0.toNat) (j := b.f1.toNat) (by omega) (by omega)
 have s := Sq_put h (i := b.f0.toNat) (by omega) b.f1.toNat (I64_mn c h4)
 rw [← e0, ← e1] at s
 exact s
theorem Sq_bputs {n : Nat} (w : List Int) (bs : List S53) : ∀ (i : Nat) (M : List (List Int)), Sq n M → (∀ b ∈ bs, Bd n b) → Sq n (bputs w bs i M) := by
 induction bs with
 | nil => intro i M h _; exact h
 | cons b bs ih =>
  intro i M h hb
  refine ih _ _ ?_ (fun x hx => hb x (List.mem_cons_of_mem _ hx))
  split
  ·exact h
  ·exact Sq_bput h (hb b (List.mem_cons_self ..))
theorem impl_bs {n : Nat} (all : List S53) (hall : all.length ≤ 100) (hb : ∀ b ∈ all, Bd n b) (bs : List S53) : ∀ (k : Nat) (M : List (List Int)) (i : Nat), Sq n M → all.drop i = bs → i + bs.length = all.length →
  impl_tightest.l1 (k + bs.length + 1) M all (all.length : Int) (i : Int) = impl_tightest.l2 k (bputs [] bs i M) (n : Int) 0 := by
 induction bs with
 | nil =>
  intro k M i h hd hl
  simp only [List.length_nil, Nat.add_zero] at hl ⊢
  simp only [impl_tightest.l1, bputs]
  rw [if_neg (by omega), h.1]
 | cons b bs ih =>
  intro k M i h hd hl
  simp only [List.length_cons] at hl ⊢
  have hi : i < all.length := by omega
  have hd' := List.drop_eq_getElem_cons hi
  rw [hd] at hd'
  obtain ⟨e1, e2⟩ := List.cons.inj hd'
  have hB := hb b (by rw [e1]; exact List.getElem_mem _)
  obtain ⟨b0, b1, b2, b3, b4⟩ := hB
  have hrow : (rd_L6 M b.f0).length = n := by
   have := row_len h (i := b.f0.toNat) (by omega)
   rwa [show ((b.f0.toNat : Nat) : Int) = b.f0 by omega] at this
  have hM := h.1
  have next := ih k (bput M b) (i + 1) (Sq_bput h ⟨b0, b1, b2, b3, b4⟩) e2.symm (by omega)
  rw [bputs_nil_cons, ← next, show ((i + 1 : Nat) : Int) = (i : Int) + 1 from by omega, show k + (bs.length + 1) + 1 = (k + bs.length + 1) + 1 from rfl]
  generalize k + bs.length + 1 = m
  simp only [impl_tightest.l1, rdB_get hi, ← e1]
  rw [if_pos (by omega), if_pos (by omega), if_pos (by omega), if_pos b0, if_pos (by omega), if_pos b2, if_pos (by omega), wrap_id (by omega) (by omega)]
  rfl
theorem has_at (w : List Int) (hw : w.length ≤ 1000000) (x : Int) (d : Nat) : ∀ (k i : Nat), i + d = w.length → d < k → spec_l00Has.l0 k w x (i : Int) = some ((w.drop i).contains x) := by
 induction d with
 | zero =>
  intro k i hi hk
  obtain ⟨k, rfl⟩ : ∃ q, k = q + 1 := ⟨k - 1, by omega⟩
  simp only [spec_l00Has.l0]
  rw [if_neg (by omega), List.drop_of_length_le (by omega)]
  rfl
 | succ d ih =>
  intro k i hi hk
  obtain ⟨k, rfl⟩ : ∃ q, k = q + 1 := ⟨k - 1, by omega⟩
  have hlt : i < w.length := by omega
  have next := ih k (i + 1) (by omega) (by omega)
  rw [show ((i + 1 : Nat) : Int) = (i : Int) + 1 from by omega] at next
  simp only [spec_l00Has.l0]
  rw [if_pos (by omega), if_pos (by omega), wrap_id (by omega) (by omega), next, rd_get hlt, List.drop_eq_getElem_cons hlt, List.contains_cons]
  by_cases e : w[i] = x
  ·rw [if_pos e]; simp [e]
  ·rw [if_neg e]
   have : (x == w[i]) = false := by simpa using fun h => e h.symm
   rw [this, Bool.false_or]
theorem has (w : List Int) (hw : w.length ≤ 1000000) (x : Int) (k : Nat) (hk : w.length < k) : spec_l00Has.f k w x = some (w.contains x) := by
 unfold spec_l00Has.f
 have := has_at w hw x w.length k 0 (by omega) hk
 simpa using this
theorem spec_bend (w : List Int) (all : List S53) (k : Nat) (M : List (List Int)) (n i : Int) (h : ¬ i < (all.length : Int)) :
  spec_l04Tight.l2 (k + 1) w M i n all = spec_l04Tight.l3 k M 0 n all := by
 simp only [spec_l04Tight.l2]
 rw [if_neg h]
theorem spec_bskip (w : List Int) (all : List S53) (m : Nat) (M : List (List Int)) (n i : Int) (a0 : i < (all.length : Int)) (a1 : 0 ≤ i) (hh : spec_l00Has.f m w i = some true) (a3 : i ≤ 1000) :
  spec_l04Tight.l2 (m + 1) w M i n all = spec_l04Tight.l2 m w M (i + 1) n all := by
 conv => lhs; unfold spec_l04Tight.l2
 rw [if_pos a0, if_pos a1, hh]
 simp only [Option.bind_some, if_true]
 rw [wrap_id (by omega) (by omega)]
theorem spec_bstep (w : List Int) (all : List S53) (m : Nat) (M : List (List Int)) (n i : Int) (b : S53) (hb : rd_T53 all i = b) (a0 : i < (all.length : Int)) (a1 : 0 ≤ i) (hh : spec_l00Has.f m w i = some false) (a3 : i ≤ 1000)
  (b0 : 0 ≤ b.f0) (b1 : b.f0 < (M.length : Int)) (b2 : 0 ≤ b.f1) (b3 : b.f1 < ((rd_L6 M b.f0).length : Int)) :
  spec_l04Tight.l2 (m + 1) w M i n all = spec_l04Tight.l2 m w (M.set b.f0.toNat ((rd_L6 M b.f0).set b.f1.toNat (mn (rd (rd_L6 M b.f0) b.f1) b.f2))) (i + 1) n all := by
 conv => lhs; unfold spec_l04Tight.l2
 rw [if_pos a0, if_pos a1, hh]
 simp only [Option.bind_some, Bool.false_eq_true, if_false, min_mn, hb]
 rw [if_pos b0, if_pos b1, if_pos b2, if_pos b3, wrap_id (by omega) (by omega)]
theorem spec_bs {n : Nat} (w : List Int) (hw : w.length ≤ 1000000) (all : List S53) (hall : all.length ≤ 100) (hb : ∀ b ∈ all, Bd n b) (bs : List S53) : ∀ (k : Nat) (M : List (List Int)) (i : Nat), w.length < k → Sq n M → all.drop i = bs → i + bs.length = all.length →
  spec_l04Tight.l2 (k + bs.length + 1) w M (i : Int) (n : Int) all = spec_l04Tight.l3 k (bputs w bs i M) 0 (n : Int) all := by
 induction bs with
 | nil =>
  intro k M i hk h hd hl
  simp only [List.length_nil, Nat.add_zero] at hl ⊢
  rw [spec_bend (h := by omega), bputs]
 | cons b bs ih =>
  intro k M i hk h hd hl
  simp only [List.length_cons] at hl ⊢
  have hi : i < all.length := by omega
  have hd' := List.drop_eq_getElem_cons hi
  rw [hd] at hd'
  obtain ⟨e1, e2⟩ := List.cons.inj hd'
  have hB := hb b (by rw [e1]; exact List.getElem_mem _)
  obtain ⟨b0, b1, b2, b3, b4⟩ := hB
  have hrow : (rd_L6 M b.f0).length = n := by
   have := row_len h (i := b.f0.toNat) (by omega)
   rwa [show ((b.f0.toNat : Nat) : Int) = b.f0 by omega] at this
  have hM := h.1
  have hh := has w hw (i : Int) (k + bs.length + 1) (by omega)
  rw [bputs, show k + (bs.length + 1) + 1 = (k + bs.length + 1) + 1 from rfl]
  by_cases c : w.contains (i : Int) = true
  ·have next := ih k M (i + 1) hk h e2.symm (by omega)
   rw [c] at hh
   rw [if_pos c, ← next, spec_bskip (a0 := by omega) (a1 := by omega) (hh := hh) (a3 := by omega), ← Int.natCast_succ]
  ·have next := ih k (bput M b) (i + 1) hk (Sq_bput h ⟨b0, b1, b2, b3, b4⟩) e2.symm (by omega)
   have c' : w.contains (i : Int) = false := by simpa using c
   rw [c'] at hh
   rw [if_neg c, ← next, spec_bstep (b := b) (hb := by rw [rdB_get hi, e1]) (a0 := by omega) (a1 := by omega) (hh := hh) (a3 := by omega) (b0 := b0) (b1 := by omega) (b2 := b2) (b3 := by omega), ← Int.natCast_succ, bput]

/-- The tightest bounds of n events, but for the bounds whose places are listed. -/
def tight (n : Nat) (bs : List S53) (w : List Int) : List (List Int) := foldX n n (bputs w bs 0 (irows n n 0)) 0
def feasible (n : Nat) (bs : List S53) (w : List Int) : Bool := diag n (tight n bs w) 0
theorem tight_Sq {n : Nat} {bs : List S53} (hb : ∀ b ∈ bs, Bd n b) (w : List Int) : Sq n (tight n bs w) := Sq_foldX _ _ _ (Sq_bputs _ _ _ _ (irows_Sq n) hb)
theorem impl_tight {n : Nat} (h0 : 1 ≤ n) (hn : n ≤ 10) (bs : List S53) (hl : bs.length ≤ 24) (hb : ∀ b ∈ bs, Bd n b) : ∃ K, ∀ k, K ≤ k →
  impl_tightest.f k (n : Int) bs = some (if feasible n bs [] = true then (tight n bs [], true) else ([], false)) := by
 refine ⟨n + 1 + n * (n * (n + 2) + 2) + 1 + bs.length + 1 + n + 1, fun k hk => ?_⟩
 obtain ⟨q, rfl⟩ : ∃ q, k = q + n + 1 + n * (n * (n + 2) + 2) + 1 + bs.length + 1 + n + 1 := ⟨k - (n + 1 + n * (n * (n + 2) + 2) + 1 + bs.length + 1 + n + 1), by omega⟩
 unfold impl_tightest.f
 have h1 := impl_rows h0 hn bs n (q + n + 1 + n * (n * (n + 2) + 2) + 1 + bs.length + 1) [] 0 rfl (by omega)
 have h2 := impl_bs bs (by omega) hb bs (q + n + 1 + n * (n * (n + 2) + 2) + 1) (irows n n 0) 0 (irows_Sq n) rfl (by omega)
 have hS := Sq_bputs (n := n) [] bs 0 _ (irows_Sq n) hb
 have h3 := impl_x hn n (q + n + 1) _ 0 hS (by omega)
 have h4 := impl_d hn n q _ 0 (Sq_foldX n _ 0 hS) (by omega)
 rw [show ((0 : Nat) : Int) = 0 from rfl] at h1 h2 h3 h4
 rw [h1, List.nil_append, h2, h3, h4]
 rfl
theorem spec_tight {n : Nat} (hn : n ≤ 10) (bs : List S53) (hl : bs.length ≤ 24) (hb : ∀ b ∈ bs, Bd n b) (w : List Int) (hw : w.length ≤ 1000000) : ∃ K, ∀ k, K ≤ k →
  spec_l04Tight.f k (n : Int) bs w = some (tight n bs w, feasible n bs w, (n : Int)) := by
 refine ⟨w.length + n + 1 + n * (n * (n + 2) + 2) + 1 + bs.length + 1 + n * (n + 2) + 1, fun k hk => ?_⟩
 obtain ⟨q, rfl⟩ : ∃ q, k = (q + w.length) + n + 1 + n * (n * (n + 2) + 2) + 1 + bs.length + 1 + n * (n + 2) + 1 := ⟨k - (w.length + n + 1 + n * (n * (n + 2) + 2) + 1 + bs.length + 1 + n * (n + 2) + 1), by omega⟩
 unfold spec_l04Tight.f
 have h1 := spec_rows hn w bs n ((q + w.length) + n + 1 + n * (n * (n + 2) + 2) + 1 + bs.length + 1) [] 0 rfl (by omega)
 have h2 := spec_bs w hw bs (by omega) hb bs ((q + w.length) + n + 1 + n * (n * (n + 2) + 2) + 1) (irows n n 0) 0 (by omega) (irows_Sq n) rfl (by omega)
 have hS := Sq_bputs (n := n) w bs 0 _ (irows_Sq n) hb
 have h3 := spec_x hn bs n ((q + w.length) + n + 1) _ 0 hS (by omega)
 have h4 := spec_d hn bs n (q + w.length) _ 0 (Sq_foldX n _ 0 hS) (by omega)
 rw [show ((0 : Nat) : Int) = 0 from rfl] at h1 h2 h3 h4
 rw [h1, List.nil_append, h2, h3, h4]
 rfl
/-- What a diagram in bounds says. -/
theorem dia_ok {n : Int} {bs : List S53} (h : diagramOk n bs = true) : ∃ m : Nat, n = (m : Int) ∧ 1 ≤ m ∧ m ≤ 10 ∧ bs.length ≤ 24 ∧ ∀ b ∈ bs, Bd m b := by
 unfold diagramOk at h
 simp only [Bool.and_eq_true, decide_eq_true_eq, List.all_eq_true] at h
 obtain ⟨⟨⟨h0, h1⟩, h2⟩, h3⟩ := h
 refine ⟨n.toNat, by omega, by omega, by omega, h2, fun b hb => ?_⟩
 have := h3 b hb
 unfold boundOk at this
 simp only [Bool.and_eq_true, decide_eq_true_eq] at this
 obtain ⟨⟨⟨⟨a, b'⟩, c, d⟩, _⟩, e, f⟩ := this
 unfold Bd I64
 omega
end Go.Proofs.Ytkdijegkoajdgaa.Pure

namespace Go.Proofs.Ytkdijegkoajdgaa.Pa
open Go.RowKit Go.Proofs.YtkdijegkoajdgaaW.PrintWords Go.Proofs.YtkdijegkoajdgaaW.PrintLast Go.Proofs.YtkdijegkoajdgaaW.PrintMore
attribute [local go_sem] max2_int min2_int max_two min_two max_three min_three max_four min_four   -- for this text's walks alone
set_option linter.unusedVariables false
set_option linter.unusedSimpArgs false

/-! ### impl_TightestBounds: function 27 -/
def impl_TightestBounds.f (k : Nat) (a0_0 : Int) (l0_1 : List (S53)) : Option ((List (List Int)) × Bool) := (impl_ValidDiagram.f a0_0 l0_1).bind fun t325 => (if t325 = true then ((impl_tightest.f k a0_0 l0_1).bind fun bt326 => (some (bt326.1, bt326.2))) else (some (([] : List (List Int)), false)))
set_option maxHeartbeats 8000000 in
set_option maxRecDepth 100000 in
theorem impl_TightestBounds.calls (k : Nat) (a0_0 : Int) (A0_1 : Option Addr) (c0_1 : Nat) (l0_1 : List (S53)) (r1 : List (List Int)) (r2 : Bool) (w : World) (hr0_1 : Kd.C k53 w A0_1 l0_1.length l0_1) (hc0_1 : l0_1.length ≤ c0_1) (h : impl_TightestBounds.f k a0_0 l0_1 = some (r1, r2)) :
  Calls Try.prog 27 #[.agg #[.int .i64 a0_0, .slice A0_1 l0_1.length c0_1]] w fun e w' => ∃ v0_ : Value, e = .returned (.tuple #[v0_, .bool r2]) ∧ Kd.S (Kd.slice 2 (Kd.int .i64)) 26 w' w.heap.size (fun _ => True) v0_ r1 ∧ Below w.heap.size w w' := by
 have hu31 := Try.underlying31
 have HR0_1 := Aside0.mk hr0_1
 have HC0_1 := Aside0.mk hc0_1
 clear hr0_1 hc0_1
 have HB := Aside0.mk (Below.refl w.heap.size w)
 have H : ((impl_ValidDiagram.f a0_0 l0_1).bind fun t325 => (if t325 = true then ((impl_tightest.f k a0_0 l0_1).bind fun bt326 => (some (bt326.1, bt326.2))) else (some (([] : List (List Int)), false)))) = some (r1, r2) := h
 clear h
 replace H := Option.bind_eq_some_iff.mp H
 obtain ⟨t325, A20, H⟩ := H
 replace H : (if t325 = true then ((impl_tightest.f k a0_0 l0_1).bind fun bt326 => (some (bt326.1, bt326.2))) else (some (([] : List (List Int)), false))) = some (r1, r2) := H
 have A2 := Aside0.mk A20
 clear A20
 by_cases c3 : t325 = true
 ·subst c3
  have H1 : ((impl_tightest.f k a0_0 l0_1).bind fun bt326 => (some (bt326.1, bt326.2))) = some (r1, r2) := by rw [if_pos rfl] at H; exact H
  clear H
  have H := H1
  clear H1
  replace H := Option.bind_eq_some_iff.mp H
  obtain ⟨⟨t326, t327⟩, A40, H⟩ := H
  replace H : (some (t326, t327)) = some (r1, r2) := H
  have A4 := Aside0.mk A40
  clear A40
  simp only [Option.some.injEq, Prod.mk.injEq] at H
  obtain ⟨rfl, rfl⟩ := H
  go_enter Try.func27, Try.ntmps27
  go_wp2_with (first | ((with_reducible refine gate_dst (N := 1) rfl ?_); refine box_event ?hg (N := 1) ?hd (cs := #[.int .i64 a0_0, .slice A0_1 l0_1.length c0_1]) (t := 31) ?hr ?_; (case hd => rfl); (case hg => rfl); (case hr => first | (go_simp; done) | (go_simp; rfl)); intro gb324 hg w5 hbox hb; have n0_ := Aside0.mk (below_step (by repeat (first | (with_reducible first | exact HB.out | apply below_alloc | apply pw_below_drewN | apply below_drew1) | exact HB.out)) hb); have n1_ := Aside0.mk (hbox); have n2_ := Aside0.mk ((by rw [hg]; exact (below_size (by repeat (first | (with_reducible first | exact HB.out | apply below_alloc | apply pw_below_drewN | apply below_drew1) | exact HB.out))) : w.heap.size ≤ gb324)); have n3_ := Aside0.mk ((by rw [hg]; exact (below_size (by repeat (first | (with_reducible first | exact HB.out | apply below_alloc | apply pw_below_drewN | apply below_drew1) | exact HB.out))) : w.heap.size ≤ gb324)); clear HB; have HB := n0_; have BK324 := n1_; have GW324 := n2_; have GE324 := n3_; clear n0_ n1_ n2_ n3_; clear hb hbox hg; have hcz6_0 : w5.cell? ⟨gb324, 0, none⟩ = some (.int .i64 a0_0) := (blk_cell BK324.out 0).trans rfl; have hcz6_1 : w5.cell? ⟨gb324, 1, none⟩ = some (.slice A0_1 l0_1.length c0_1) := (blk_cell BK324.out 1).trans rfl; have hfz6_0 := blk_frozen BK324.out 0; have hfz6_1 := blk_frozen BK324.out 1) | ((with_reducible refine gate_callee (f := 20) rfl ?_); refine goesL_ (some 5) rfl rfl Try.func20 (by kernel_rfl) rfl #[.agg #[.int .i64 a0_0, .slice A0_1 l0_1.length c0_1]] rfl (by (try simp only [List.map_toArray, List.map_cons, List.map_nil]); first | done | rfl | (simp only [List.length_drop, List.length_take]; rfl)) ?_; (with_reducible refine (impl_ValidDiagram.calls a0_0 _ _ l0_1 true _ ?side1 ?side2 A2.out).mono ?_); (case side1 => repeat (first | exact (Kd.C_below HR0_1.out HB.out) | (with_reducible refine Kd.C_alloc ?_ _) | (with_reducible refine Kd.C_drewN ?_ _) | (with_reducible refine Kd.C_drew ?_))); (case side2 => exact HC0_1.out); rintro e w7 ⟨rfl, hb⟩; refine ⟨_, rfl, ?_⟩; have n0_ := Aside0.mk (blk_below (g := gb324) (o := .cells #[.int .i64 a0_0, .slice A0_1 l0_1.length c0_1] 31 (0, 0)) (by (with_reducible repeat (first | refine blk_drewN ?_ _ | refine blk_drew ?_ | refine blk_alloc ?_ _)); exact BK324.out) hb); have n1_ := Aside0.mk (below_step (by repeat (first | (with_reducible first | exact HB.out | apply below_alloc | apply pw_below_drewN | apply below_drew1 | refine below_set ?_ GE324.out) | exact HB.out)) hb); clear BK324; clear HB; have BK324 := n0_; have HB := n1_; clear n0_ n1_; (try clear hb); (try clear hb2); (try clear hk); (try clear hi); have hcz8_0 : w7.cell? ⟨gb324, 0, none⟩ = some (.int .i64 a0_0) := (blk_cell BK324.out 0).trans rfl; have hcz8_1 : w7.cell? ⟨gb324, 1, none⟩ = some (.slice A0_1 l0_1.length c0_1) := (blk_cell BK324.out 1).trans rfl; have hfz8_0 := blk_frozen BK324.out 0; have hfz8_1 := blk_frozen BK324.out 1) | ((with_reducible refine gate_callee (f := 41) rfl ?_); refine goesL_ (some 11) rfl rfl Try.func41 (by kernel_rfl) rfl #[.int .i64 a0_0, .slice A0_1 l0_1.length c0_1] rfl (by (try simp only [List.map_toArray, List.map_cons, List.map_nil]); first | done | rfl | (simp only [List.length_drop, List.length_take]; rfl)) ?_; (with_reducible refine (impl_tightest.calls k a0_0 _ _ l0_1 t326 t327 _ ?side1 ?side2 A4.out).mono ?_); (case side1 => repeat (first | exact (Kd.C_below HR0_1.out HB.out) | (with_reducible refine Kd.C_alloc ?_ _) | (with_reducible refine Kd.C_drewN ?_ _) | (with_reducible refine Kd.C_drew ?_))); (case side2 => exact HC0_1.out); rintro e w9 ⟨v328, rfl, ho0, hb⟩; refine ⟨_, rfl, ?_⟩; have n0_ := Aside0.mk (Kd.S_lower ho0 (below_size (by repeat (first | (with_reducible first | exact HB.out | apply below_alloc | apply pw_below_drewN | apply below_drew1 | refine below_set ?_ GE324.out) | exact HB.out)))); have n1_ := Aside0.mk (blk_below (g := gb324) (o := .cells #[.int .i64 a0_0, .slice A0_1 l0_1.length c0_1] 31 (0, 0)) (by (with_reducible repeat (first | refine blk_drewN ?_ _ | refine blk_drew ?_ | refine blk_alloc ?_ _)); exact BK324.out) hb); have n2_ := Aside0.mk (below_step (by repeat (first | (with_reducible first | exact HB.out | apply below_alloc | apply pw_below_drewN | apply below_drew1 | refine below_set ?_ GE324.out) | exact HB.out)) hb); clear BK324; clear HB; have HO329 := n0_; have BK324 := n1_; have HB := n2_; clear n0_ n1_ n2_; (try clear hb); (try clear hb2); (try clear hk); (try clear hi); (try clear ho0)))
  go_ret2
  exact ⟨_, by first | rfl | (simp [errW_none, errW_some] <;> rfl) | (simp [*, errW_none, errW_some] <;> rfl), by (with_reducible repeat (first | apply Kd.S_alloc | apply Kd.S_drewN | apply Kd.S_drew)); exact HO329.out, by repeat (first | (with_reducible first | exact HB.out | apply below_alloc | apply pw_below_drewN | apply below_drew1 | refine below_set ?_ GE324.out) | exact HB.out)⟩
 ·replace c3 := Bool.eq_false_iff.mpr c3
  subst c3
  have H1 : (some (([] : List (List Int)), false)) = some (r1, r2) := by rw [if_neg (show ¬ (false = true) by decide)] at H; exact H
  clear H
  have H := H1
  clear H1
  simp only [Option.some.injEq, Prod.mk.injEq] at H
  obtain ⟨rfl, rfl⟩ := H
  go_enter Try.func27, Try.ntmps27
  go_wp2_with (first | ((with_reducible refine gate_dst (N := 1) rfl ?_); refine box_event ?hg (N := 1) ?hd (cs := #[.int .i64 a0_0, .slice A0_1 l0_1.length c0_1]) (t := 31) ?hr ?_; (case hd => rfl); (case hg => rfl); (case hr => first | (go_simp; done) | (go_simp; rfl)); intro gb324 hg w10 hbox hb; have n0_ := Aside0.mk (below_step (by repeat (first | (with_reducible first | exact HB.out | apply below_alloc | apply pw_below_drewN | apply below_drew1) | exact HB.out)) hb); have n1_ := Aside0.mk (hbox); have n2_ := Aside0.mk ((by rw [hg]; exact (below_size (by repeat (first | (with_reducible first | exact HB.out | apply below_alloc | apply pw_below_drewN | apply below_drew1) | exact HB.out))) : w.heap.size ≤ gb324)); have n3_ := Aside0.mk ((by rw [hg]; exact (below_size (by repeat (first | (with_reducible first | exact HB.out | apply below_alloc | apply pw_below_drewN | apply below_drew1) | exact HB.out))) : w.heap.size ≤ gb324)); clear HB; have HB := n0_; have BK324 := n1_; have GW324 := n2_; have GE324 := n3_; clear n0_ n1_ n2_ n3_; clear hb hbox hg; have hcz11_0 : w10.cell? ⟨gb324, 0, none⟩ = some (.int .i64 a0_0) := (blk_cell BK324.out 0).trans rfl; have hcz11_1 : w10.cell? ⟨gb324, 1, none⟩ = some (.slice A0_1 l0_1.length c0_1) := (blk_cell BK324.out 1).trans rfl; have hfz11_0 := blk_frozen BK324.out 0; have hfz11_1 := blk_frozen BK324.out 1) | ((with_reducible refine gate_callee (f := 20) rfl ?_); refine goesL_ (some 5) rfl rfl Try.func20 (by kernel_rfl) rfl #[.agg #[.int .i64 a0_0, .slice A0_1 l0_1.length c0_1]] rfl (by (try simp only [List.map_toArray, List.map_cons, List.map_nil]); first | done | rfl | (simp only [List.length_drop, List.length_take]; rfl)) ?_; (with_reducible refine (impl_ValidDiagram.calls a0_0 _ _ l0_1 false _ ?side1 ?side2 A2.out).mono ?_); (case side1 => repeat (first | exact (Kd.C_below HR0_1.out HB.out) | (with_reducible refine Kd.C_alloc ?_ _) | (with_reducible refine Kd.C_drewN ?_ _) | (with_reducible refine Kd.C_drew ?_))); (case side2 => exact HC0_1.out); rintro e w12 ⟨rfl, hb⟩; refine ⟨_, rfl, ?_⟩; have n0_ := Aside0.mk (blk_below (g := gb324) (o := .cells #[.int .i64 a0_0, .slice A0_1 l0_1.length c0_1] 31 (0, 0)) (by (with_reducible repeat (first | refine blk_drewN ?_ _ | refine blk_drew ?_ | refine blk_alloc ?_ _)); exact BK324.out) hb); have n1_ := Aside0.mk (below_step (by repeat (first | (with_reducible first | exact HB.out | apply below_alloc | apply pw_below_drewN | apply below_drew1 | refine below_set ?_ GE324.out) | exact HB.out)) hb); clear BK324; clear HB; have BK324 := n0_; have HB := n1_; clear n0_ n1_; (try clear hb); (try clear hb2); (try clear hk); (try clear hi)))
  go_ret2
  exact ⟨_, by first | rfl | (simp [errW_none, errW_some] <;> rfl) | (simp [*, errW_none, errW_some] <;> rfl), by first | exact Kd.S_nil _ _ _ _ _ | exact Kd.N_nil _ _ _ _ _ | exact Kd.V_nil _ _ _ _ _ | exact Kd.Q_nil _ _ _ _ _ | exact Kd.R_nil _ _ _ _ _, by repeat (first | (with_reducible first | exact HB.out | apply below_alloc | apply pw_below_drewN | apply below_drew1 | refine below_set ?_ GE324.out) | exact HB.out)⟩

end Go.Proofs.Ytkdijegkoajdgaa.Pa

namespace Go.Proofs.Ytkdijegkoajdgaa.Pa
open Go.RowKit Go.Proofs.YtkdijegkoajdgaaW.PrintWords Go.Proofs.YtkdijegkoajdgaaW.PrintLast Go.Proofs.YtkdijegkoajdgaaW.PrintMore
attribute [local go_sem] max2_int min2_int max_two min_two max_three min_three max_four min_four   -- for this text's walks alone
set_option linter.unusedVariables false
set_option linter.unusedSimpArgs false

/-! ### impl_FollowsFrom: function 29 -/
def impl_FollowsFrom.f (k : Nat) (a0_0 : Int) (l0_1 : List (S53)) (a1_0 : Int) (a1_1 : Int) (a1_2 : Int) : Option (Bool) := (impl_TightestBounds.f k a0_0 l0_1).bind fun bt333 => (if bt333.2 = true then ((impl_isBound.f a1_0 a1_1 a1_2 a0_0).bind fun t337 => (if t337 = true then (if 0 ≤ a1_0 then (if a1_0 < (bt333.1.length : Int) then (if 0 ≤ a1_1 then (if a1_1 < ((rd_L6 bt333.1 a1_0).length : Int) then (some (decide ((rd (rd_L6 bt333.1 a1_0) a1_1) ≤ a1_2))) else (none)) else (none)) else (none)) else (none)) else (some false))) else (some false))
def impl_FollowsFrom.T2 : Bool × List (List Nat × List Nat) := (true, [([], []), ([0], [0]), ([1], [1]), ([1], [1]), ([3, 1], [1, 3]), ([2, 4, 1, 1], [1, 2, 4]), ([1, 5], [1, 5]), ([6, 5], [6]), ([7], [7]), ([7], [7]), ([9, 7], [7, 9]), ([8, 10, 7], [7, 8, 10]), ([11, 7], [7, 11]), ([7], [7]), ([13, 7], [7, 13]), ([12, 14, 7], [7, 12, 14]), ([15, 7], [7, 15]), ([7], [7]), ([17, 7], [7, 17]), ([16, 18, 7], [7, 16, 18]), ([7, 19], [7, 19]), ([20, 7, 0, 1, 2, 3, 4, 5, 6, 7, 8, 9, 10, 11, 12, 13, 14, 15, 16, 17, 18, 19, 20], [20])])
def impl_FollowsFrom.B2 : List Nat := [0, 1, 3, 3, 11, 31, 63, 127, 255, 255, 767, 2047, 4095, 255, 8447, 32767, 65535, 255, 131327, 524287, 1048575, 2097151]
theorem impl_FollowsFrom.tab2 : rtab .any (opsOf Try.f29 2) = impl_FollowsFrom.T2 := by kernel_rfl
theorem impl_FollowsFrom.bits2 : waitsOk impl_FollowsFrom.T2.2 impl_FollowsFrom.B2 = true := by kernel_rfl
set_option maxHeartbeats 8000000 in
set_option maxRecDepth 100000 in
theorem impl_FollowsFrom.calls (k : Nat) (a0_0 : Int) (A0_1 : Option Addr) (c0_1 : Nat) (l0_1 : List (S53)) (a1_0 : Int) (a1_1 : Int) (a1_2 : Int) (r : Bool) (w : World) (hr0_1 : Kd.C k53 w A0_1 l0_1.length l0_1) (hc0_1 : l0_1.length ≤ c0_1) (h : impl_FollowsFrom.f k a0_0 l0_1 a1_0 a1_1 a1_2 = some r) :
  Calls Try.prog 29 #[.agg #[.int .i64 a0_0, .slice A0_1 l0_1.length c0_1], .agg #[.int .i64 a1_0, .int .i64 a1_1, .int .i64 a1_2]] w fun e w' => e = .returned (.bool r) ∧ Below w.heap.size w w' := by
 have hu31 := Try.underlying31
 have hu53 := Try.underlying53
 have HR0_1 := Aside0.mk hr0_1
 have HC0_1 := Aside0.mk hc0_1
 clear hr0_1 hc0_1
 have HB := Aside0.mk (Below.refl w.heap.size w)
 have H : ((impl_TightestBounds.f k a0_0 l0_1).bind fun bt333 => (if bt333.2 = true then ((impl_isBound.f a1_0 a1_1 a1_2 a0_0).bind fun t337 => (if t337 = true then (if 0 ≤ a1_0 then (if a1_0 < (bt333.1.length : Int) then (if 0 ≤ a1_1 then (if a1_1 < ((rd_L6 bt333.1 a1_0).length : Int) then (some (decide ((rd (rd_L6 bt333.1 a1_0) a1_1) ≤ a1_2))) else (none)) else (none)) else (none)) else (none)) else (some false))) else (some false))) = some r := h
 clear h
 replace H := Option.bind_eq_some_iff.mp H
 obtain ⟨⟨t333, t336⟩, A30, H⟩ := H
 replace H : (if t336 = true then ((impl_isBound.f a1_0 a1_1 a1_2 a0_0).bind fun t337 => (if t337 = true then (if 0 ≤ a1_0 then (if a1_0 < (t333.length : Int) then (if 0 ≤ a1_1 then (if a1_1 < ((rd_L6 t333 a1_0).length : Int) then (some (decide ((rd (rd_L6 t333 a1_0) a1_1) ≤ a1_2))) else (none)) else (none)) else (none)) else (none)) else (some false))) else (some false)) = some r := H
 have A3 := Aside0.mk A30
 clear A30
 by_cases c4 : t336 = true
 ·subst c4
  have H1 : ((impl_isBound.f a1_0 a1_1 a1_2 a0_0).bind fun t337 => (if t337 = true then (if 0 ≤ a1_0 then (if a1_0 < (t333.length : Int) then (if 0 ≤ a1_1 then (if a1_1 < ((rd_L6 t333 a1_0).length : Int) then (some (decide ((rd (rd_L6 t333 a1_0) a1_1) ≤ a1_2))) else (none)) else (none)) else (none)) else (none)) else (some false))) = some r := by rw [if_pos rfl] at H; exact H
  clear H
  have H := H1
  clear H1
  replace H := Option.bind_eq_some_iff.mp H
  obtain ⟨t337, A50, H⟩ := H
  replace H : (if t337 = true then (if 0 ≤ a1_0 then (if a1_0 < (t333.length : Int) then (if 0 ≤ a1_1 then (if a1_1 < ((rd_L6 t333 a1_0).length : Int) then (some (decide ((rd (rd_L6 t333 a1_0) a1_1) ≤ a1_2))) else (none)) else (none)) else (none)) else (none)) else (some false)) = some r := H
  have A5 := Aside0.mk A50
  clear A50
  by_cases c6 : t337 = true
  ·subst c6
   have H1 : (if 0 ≤ a1_0 then (if a1_0 < (t333.length : Int) then (if 0 ≤ a1_1 then (if a1_1 < ((rd_L6 t333 a1_0).length : Int) then (some (decide ((rd (rd_L6 t333 a1_0) a1_1) ≤ a1_2))) else (none)) else (none)) else (none)) else (none)) = some r := by rw [if_pos rfl] at H; exact H
   clear H
   have H := H1
   clear H1
   by_cases c7 : 0 ≤ a1_0
   ·rw [if_pos c7] at H
    have c7b0 : decide (0 ≤ a1_0) = true := decide_eq_true c7
    clear c7
    by_cases c8 : a1_0 < (t333.length : Int)
    ·rw [if_pos c8] at H
     have c8b0 : decide (a1_0 < (t333.length : Int)) = true := decide_eq_true c8
     clear c8
     by_cases c9 : 0 ≤ a1_1
     ·rw [if_pos c9] at H
      have c9b0 : decide (0 ≤ a1_1) = true := decide_eq_true c9
      clear c9
      by_cases c10 : a1_1 < ((rd_L6 t333 a1_0).length : Int)
      ·rw [if_pos c10] at H
       have c10b0 : decide (a1_1 < ((rd_L6 t333 a1_0).length : Int)) = true := decide_eq_true c10
       clear c10
       obtain rfl := Option.some.inj H
       go_enter Try.func29, Try.ntmps29
       try go_wp2_with (first | ((with_reducible refine gate_dst (N := 2) rfl ?_); refine box_event ?hg (N := 2) ?hd (cs := #[.int .i64 a0_0, .slice A0_1 l0_1.length c0_1]) (t := 31) ?hr ?_; (case hd => rfl); (case hg => rfl); (case hr => first | (go_simp; done) | (go_simp; rfl)); intro gb331 hg w11 hbox hb; have n0_ := Aside0.mk (below_step (by repeat (first | (with_reducible first | exact HB.out | apply below_alloc | apply pw_below_drewN | apply below_drew1) | exact HB.out)) hb); have n1_ := Aside0.mk (hbox); have n2_ := Aside0.mk ((by rw [hg]; exact (below_size (by repeat (first | (with_reducible first | exact HB.out | apply below_alloc | apply pw_below_drewN | apply below_drew1) | exact HB.out))) : w.heap.size ≤ gb331)); have n3_ := Aside0.mk ((by rw [hg]; exact (below_size (by repeat (first | (with_reducible first | exact HB.out | apply below_alloc | apply pw_below_drewN | apply below_drew1) | exact HB.out))) : w.heap.size ≤ gb331)); clear HB; have HB := n0_; have BK331 := n1_; have GW331 := n2_; have GE331 := n3_; clear n0_ n1_ n2_ n3_; clear hb hbox hg) | ((with_reducible refine gate_dst (N := 3) rfl ?_); refine box_event ?hg (N := 3) ?hd (cs := #[.int .i64 a1_0, .int .i64 a1_1, .int .i64 a1_2]) (t := 53) ?hr ?_; (case hd => rfl); (case hg => rfl); (case hr => first | (go_simp; done) | (go_simp; rfl)); intro gb332 hg w12 hbox hb; have n0_ := Aside0.mk (blk_below (g := gb331) (o := .cells #[.int .i64 a0_0, .slice A0_1 l0_1.length c0_1] 31 (0, 0)) (by (with_reducible repeat (first | refine blk_drewN ?_ _ | refine blk_drew ?_ | refine blk_alloc ?_ _)); exact BK331.out) hb); have n1_ := Aside0.mk (below_step (by repeat (first | (with_reducible first | exact HB.out | apply below_alloc | apply pw_below_drewN | apply below_drew1 | refine below_set ?_ GE331.out) | exact HB.out)) hb); have n2_ := Aside0.mk (hbox); have n3_ := Aside0.mk ((by rw [hg]; exact (below_size (by repeat (first | (with_reducible first | exact HB.out | apply below_alloc | apply pw_below_drewN | apply below_drew1 | refine below_set ?_ GE331.out) | exact HB.out))) : w.heap.size ≤ gb332)); have n4_ := Aside0.mk ((by rw [hg]; exact (below_size (by repeat (first | (with_reducible first | exact HB.out | apply below_alloc | apply pw_below_drewN | apply below_drew1 | refine below_set ?_ GE331.out) | exact HB.out))) : w.heap.size ≤ gb332)); have n5_ := Aside0.mk ((by rw [hg]; exact Nat.ne_of_lt (blk_lt (g := gb331) (o := .cells #[.int .i64 a0_0, .slice A0_1 l0_1.length c0_1] 31 (0, 0)) (by (with_reducible repeat (first | refine blk_drewN ?_ _ | refine blk_drew ?_ | refine blk_alloc ?_ _)); exact BK331.out)) : gb331 ≠ gb332)); have n6_ := Aside0.mk ((by rw [hg]; exact Nat.ne_of_gt (blk_lt (g := gb331) (o := .cells #[.int .i64 a0_0, .slice A0_1 l0_1.length c0_1] 31 (0, 0)) (by (with_reducible repeat (first | refine blk_drewN ?_ _ | refine blk_drew ?_ | refine blk_alloc ?_ _)); exact BK331.out)) : gb332 ≠ gb331)); clear BK331; clear HB; have BK331 := n0_; have HB := n1_; have BK332 := n2_; have GW332 := n3_; have GE332 := n4_; have NB331_332 := n5_; have NB332_331 := n6_; clear n0_ n1_ n2_ n3_ n4_ n5_ n6_; clear hb hbox hg; have hnb13 := NB331_332.out; have hnc13 := NB332_331.out; have hcz14_0 : w12.cell? ⟨gb331, 0, none⟩ = some (.int .i64 a0_0) := (blk_cell BK331.out 0).trans rfl; have hcz14_1 : w12.cell? ⟨gb331, 1, none⟩ = some (.slice A0_1 l0_1.length c0_1) := (blk_cell BK331.out 1).trans rfl; have hfz14_0 := blk_frozen BK331.out 0; have hfz14_1 := blk_frozen BK331.out 1) | ((with_reducible refine gate_callee (f := 27) rfl ?_); refine goesL_ (some 9) rfl rfl Try.func27 (by kernel_rfl) rfl #[.agg #[.int .i64 a0_0, .slice A0_1 l0_1.length c0_1]] rfl (by (try simp only [List.map_toArray, List.map_cons, List.map_nil]); first | done | rfl | (simp only [List.length_drop, List.length_take]; rfl)) ?_; (with_reducible refine (impl_TightestBounds.calls k a0_0 _ _ l0_1 t333 true _ ?side1 ?side2 A3.out).mono ?_); (case side1 => repeat (first | exact (Kd.C_below HR0_1.out HB.out) | (with_reducible refine Kd.C_alloc ?_ _) | (with_reducible refine Kd.C_drewN ?_ _) | (with_reducible refine Kd.C_drew ?_))); (case side2 => exact HC0_1.out); rintro e w15 ⟨v334, rfl, ho0, hb⟩; refine ⟨_, rfl, ?_⟩; have n0_ := Aside0.mk (Kd.S_lower ho0 (below_size (by repeat (first | (with_reducible first | exact HB.out | apply below_alloc | apply pw_below_drewN | apply below_drew1 | refine below_set ?_ GE331.out | refine below_set ?_ GE332.out) | exact HB.out)))); have n1_ := Aside0.mk (blk_below (g := gb331) (o := .cells #[.int .i64 a0_0, .slice A0_1 l0_1.length c0_1] 31 (0, 0)) (by (with_reducible repeat (first | refine blk_drewN ?_ _ | refine blk_drew ?_ | refine blk_alloc ?_ _)); exact BK331.out) hb); have n2_ := Aside0.mk (blk_below (g := gb332) (o := .cells #[.int .i64 a1_0, .int .i64 a1_1, .int .i64 a1_2] 53 (0, 0)) (by (with_reducible repeat (first | refine blk_drewN ?_ _ | refine blk_drew ?_ | refine blk_alloc ?_ _)); exact BK332.out) hb); have n3_ := Aside0.mk (below_step (by repeat (first | (with_reducible first | exact HB.out | apply below_alloc | apply pw_below_drewN | apply below_drew1 | refine below_set ?_ GE331.out | refine below_set ?_ GE332.out) | exact HB.out)) hb); clear BK331; clear BK332; clear HB; have HO335 := n0_; have BK331 := n1_; have BK332 := n2_; have HB := n3_; clear n0_ n1_ n2_ n3_; (try clear hb); (try clear hb2); (try clear hk); (try clear hi); (try clear ho0)))
       have n0_ := Aside0.mk (Kd.S_drew HO335.out)
       have n1_ := Aside0.mk (blk_drew BK331.out)
       have n2_ := Aside0.mk (blk_drew BK332.out)
       have n3_ := Aside0.mk (below_drew1 HB.out)
       clear HO335
       clear BK331
       clear BK332
       clear HB
       have HO335 := n0_
       have BK331 := n1_
       have BK332 := n2_
       have HB := n3_
       clear n0_ n1_ n2_ n3_
       obtain ⟨Ao22, co22, eo22⟩ := Kd.S_slice HO335.out
       subst eo22
       have p338 : 0 ≤ (a1_0 : Int) := of_decide_eq_true (by with_reducible assumption)
       have q338 : a1_0 < (t333.length : Int) := of_decide_eq_true (by with_reducible assumption)
       obtain ⟨ad338, A338_0, c338_0, e338, hx338_0, hl338_0, hi338_0⟩ := at_L6 (Kd.S_reads' HO335.out).2.2 a1_0 p338 q338
       cases e338
       obtain ⟨ce338, hce338, hMe338, hcc338⟩ := Kd.S_get HO335.out [] a1_0 p338 (by first | exact q338 | exact of_decide_eq_true (by with_reducible assumption) | (have e_ := (Kd.S_reads' HO335.out).1; omega))
       obtain ⟨ve338_0, rfl, ge338_0⟩ := hMe338
       have hv338_0 := hcc338 0 _ rfl
       rw [Nat.add_zero, show ((Kd.slice 2 (Kd.int .i64))).sz = 1 from rfl, Nat.mul_one] at hv338_0
       replace hv338_0 := Option.some.inj (hv338_0.symm.trans hx338_0)
       rw [hv338_0] at ge338_0
       have HL338_0 := Aside0.mk (show Kd.R (Kd.int .i64) 2 _ _ _ _ (rd_L6 t333 a1_0) from ge338_0)
       clear hv338_0 ge338_0
       clear hcc338 hce338
       have HR338_0 := Aside0.mk hi338_0
       have HC338_0 := Aside0.mk hl338_0
       clear hi338_0 hl338_0
       replace p338 := eq_true p338
       replace q338 := eq_true q338
       have p339 : 0 ≤ (a1_1 : Int) := of_decide_eq_true (by with_reducible assumption)
       have q339 : a1_1 < ((rd_L6 t333 a1_0).length : Int) := of_decide_eq_true (by with_reducible assumption)
       obtain ⟨ad339, e339, hx339_0⟩ := Kd.at_int (by repeat (first | (with_reducible exact HR338_0.out) | (with_reducible refine Kd.C_alloc ?_ _) | (with_reducible refine Kd.C_drewN ?_ _) | (with_reducible refine Kd.C_drew ?_) | exact HR338_0.out)) a1_1 p339 q339
       cases e339
       refine start_ (n := 22) (S := fun w' => w'.cell? ⟨gb332, 0, none⟩ = some (.int .i64 a1_0) ∧ w'.cell? ⟨gb332, 1, none⟩ = some (.int .i64 a1_1) ∧ w'.cell? ⟨gb332, 2, none⟩ = some (.int .i64 a1_2) ∧ w'.cell? ⟨gb331, 0, none⟩ = some (.int .i64 a0_0) ∧ w'.cell? ⟨gb331, 1, none⟩ = some (.slice A0_1 l0_1.length c0_1) ∧ w'.cell? (ad338.add (a1_0).toNat) = some (.slice (some ad339) (rd_L6 t333 a1_0).length c338_0) ∧ w'.cell? (ad339.add (a1_1).toNat) = some (.int .i64 (rd (rd_L6 t333 a1_0) a1_1))) (ds := []) #[false, false, false, false, false, false, false, false, false, false, false, false, false, false, false, false, false, false, false, false, false, false] (by kernel_rfl) rfl rfl ⟨(blk_cell BK332.out 0).trans rfl, (blk_cell BK332.out 1).trans rfl, (blk_cell BK332.out 2).trans rfl, (blk_cell BK331.out 0).trans rfl, (blk_cell BK331.out 1).trans rfl, hx338_0, hx339_0⟩ (fun hHeld => ?_); refine with_tabW impl_FollowsFrom.tab2 impl_FollowsFrom.bits2 (fun HT_ HW_ => ?_)
       generalize w15.drew = w16 at HO335 BK331 BK332 HB HL338_0 HR338_0 hx338_0 hHeld ⊢
       refine pure_ (i := 0) (N := some 12) (v := ?_) (a' := ?_) #[true, false, false, false, false, false, false, false, false, false, false, false, false, false, false, false, false, false, false, false, false, false] rfl rfl (any_of HT_.out (by kernel_rfl)) (fun _ _ _ h => h) (Or.inl ⟨by rfl, ?_⟩) ?_ ?_
       rotate_left
       ·intro w'
        go_simp
        with_reducible rfl
       rotate_left
       ·simp only [Act.put, List.setIfInBounds_toArray, List.set_cons_zero, List.set_cons_succ, i64_w, i32_w]
        rfl
       refine pure_ (i := 1) (N := some 13) (v := ?_) (a' := ?_) #[true, true, false, false, false, false, false, false, false, false, false, false, false, false, false, false, false, false, false, false, false, false] rfl rfl (any_of HT_.out (by kernel_rfl)) (fun _ _ _ h => h) (Or.inl ⟨by rfl, ?_⟩) ?_ ?_
       rotate_left
       ·intro w'
        go_simp
        with_reducible rfl
       rotate_left
       ·simp only [Act.put, List.setIfInBounds_toArray, List.set_cons_zero, List.set_cons_succ, i64_w, i32_w]
        rfl
       refine pure_ (i := 3) (N := some 15) (v := ?_) (a' := ?_) #[true, true, false, true, false, false, false, false, false, false, false, false, false, false, false, false, false, false, false, false, false, false] rfl rfl (any_of HT_.out (by kernel_rfl)) (fun _ _ _ h => h) (Or.inl ⟨by rfl, ?_⟩) ?_ ?_
       rotate_left
       ·intro w'
        go_simp
        with_reducible rfl
       rotate_left
       ·simp only [Act.put, List.setIfInBounds_toArray, List.set_cons_zero, List.set_cons_succ, i64_w, i32_w]
        rfl
       refine take_ (i := 2) (N := some 14) (v := ?_) (a' := ?_) #[true, true, true, true, false, false, false, false, false, false, false, false, false, false, false, false, false, false, false, false, false, false] rfl rfl (take_ofW HT_.out HW_.out (by kernel_rfl)) (fun _ _ _ h => h) (Or.inl ⟨by rfl, ?_⟩) hHeld ?_ ?_
       rotate_left
       ·rintro w' ⟨s0, s1, s2, s3, s4, s5, s6⟩
        go_simp
        with_reducible rfl
       rotate_left
       ·simp only [Act.put, List.setIfInBounds_toArray, List.set_cons_zero, List.set_cons_succ, i64_w, i32_w]
        rfl
       refine take_ (i := 4) (N := some 16) (v := ?_) (a' := ?_) #[true, true, true, true, true, false, false, false, false, false, false, false, false, false, false, false, false, false, false, false, false, false] rfl rfl (take_ofW HT_.out HW_.out (by kernel_rfl)) (fun _ _ _ h => h) (Or.inl ⟨by rfl, ?_⟩) hHeld ?_ ?_
       rotate_left
       ·rintro w' ⟨s0, s1, s2, s3, s4, s5, s6⟩
        go_simp
        with_reducible rfl
       rotate_left
       ·simp only [Act.put, List.setIfInBounds_toArray, List.set_cons_zero, List.set_cons_succ, i64_w, i32_w]
        rfl
       refine one_ (i := 5) (N := some 17) #[true, true, true, true, true, true, false, false, false, false, false, false, false, false, false, false, false, false, false, false, false, false] rfl rfl (one_of HT_.out (by kernel_rfl)) (by decide) (fun K hK => ?_)
       refine goes_ Try.func36 (by kernel_rfl) rfl #[.agg #[.int .i64 a1_0, .int .i64 a1_1, .int .i64 a1_2], .int .i64 a0_0] (by rfl) rfl rfl (by (try simp only [List.map_toArray, List.map_cons, List.map_nil]); first | done | rfl | (simp only [List.length_drop, List.length_take]; rfl)) ?_
       with_reducible refine (impl_isBound.calls a1_0 a1_1 a1_2 a0_0 true _ A5.out).mono ?_
       rintro e w17 ⟨rfl, hb⟩
       have HS5_ := (hb.cell (World.block_lt_of_cell? _ _ (hHeld.2.2.2.2.2.1))).trans (hHeld.2.2.2.2.2.1)
       have HS6_ := (hb.cell (World.block_lt_of_cell? _ _ (hHeld.2.2.2.2.2.2))).trans (hHeld.2.2.2.2.2.2)
       refine ⟨_, rfl, ?_⟩
       have n0_ := Aside0.mk (Kd.S_below (by (with_reducible repeat (first | apply Kd.S_alloc | apply Kd.S_drewN | apply Kd.S_drew)); exact HO335.out) hb)
       have n1_ := Aside0.mk (blk_below (g := gb331) (o := .cells #[.int .i64 a0_0, .slice A0_1 l0_1.length c0_1] 31 (0, 0)) (by (with_reducible repeat (first | refine blk_drewN ?_ _ | refine blk_drew ?_ | refine blk_alloc ?_ _)); exact BK331.out) hb)
       have n2_ := Aside0.mk (blk_below (g := gb332) (o := .cells #[.int .i64 a1_0, .int .i64 a1_1, .int .i64 a1_2] 53 (0, 0)) (by (with_reducible repeat (first | refine blk_drewN ?_ _ | refine blk_drew ?_ | refine blk_alloc ?_ _)); exact BK332.out) hb)
       have n3_ := Aside0.mk (below_step (by repeat (first | (with_reducible first | exact HB.out | apply below_alloc | apply pw_below_drewN | apply below_drew1 | refine below_set ?_ GE331.out | refine below_set ?_ GE332.out) | exact HB.out)) hb)
       clear HO335
       clear BK331
       clear BK332
       clear HB
       have HO335 := n0_
       have BK331 := n1_
       have BK332 := n2_
       have HB := n3_
       clear n0_ n1_ n2_ n3_
       (try clear hb)
       (try clear hb2)
       (try clear hk)
       (try clear hi)
       obtain ⟨Ao18, co18, eo18⟩ := Kd.S_slice HO335.out
       (first | subst eo18 | (injection eo18 with f1_ f2_ f3_; have f4_ := f1_.symm; have f5_ := f3_.symm; clear f1_ f2_ f3_; subst f4_; subst f5_))
       have p339 : 0 ≤ (a1_1 : Int) := of_decide_eq_true (by with_reducible assumption)
       have q339 : a1_1 < ((rd_L6 t333 a1_0).length : Int) := of_decide_eq_true (by with_reducible assumption)
       obtain ⟨ad339, e339, hx339_0⟩ := Kd.at_int (by repeat (first | (with_reducible exact HR338_0.out) | (with_reducible refine Kd.C_alloc ?_ _) | (with_reducible refine Kd.C_drewN ?_ _) | (with_reducible refine Kd.C_drew ?_) | exact HR338_0.out)) a1_1 p339 q339
       cases e339
       replace p339 := eq_true p339
       replace q339 := eq_true q339
       refine hK.out _ _ ⟨(blk_cell BK332.out 0).trans rfl, (blk_cell BK332.out 1).trans rfl, (blk_cell BK332.out 2).trans rfl, (blk_cell BK331.out 0).trans rfl, (blk_cell BK331.out 1).trans rfl, HS5_, HS6_⟩ (fun hHeld => ?_)
       clear hK K
       refine norm_ (a' := ?_) ?_ ?_
       rotate_left
       ·show Act.put _ (some 17) _ = _
        simp only [Act.put, List.setIfInBounds_toArray, List.set_cons_zero, List.set_cons_succ, i64_w, i32_w]
        rfl
       refine pure_ (i := 6) (N := some 18) (v := ?_) (a' := ?_) #[true, true, true, true, true, true, true, false, false, false, false, false, false, false, false, false, false, false, false, false, false, false] rfl rfl (any_of HT_.out (by kernel_rfl)) (fun _ _ _ h => h) (Or.inl ⟨by rfl, ?_⟩) ?_ ?_
       rotate_left
       ·intro w'
        go_simp
        with_reducible rfl
       rotate_left
       ·simp only [Act.put, List.setIfInBounds_toArray, List.set_cons_zero, List.set_cons_succ, i64_w, i32_w]
        rfl
       refine pure_ (i := 7) (N := some 19) (v := ?_) (a' := ?_) #[true, true, true, true, true, true, true, true, false, false, false, false, false, false, false, false, false, false, false, false, false, false] rfl rfl (any_of HT_.out (by kernel_rfl)) (fun _ _ _ h => h) (Or.inl ⟨by rfl, ?_⟩) ?_ ?_
       rotate_left
       ·intro w'
        go_simp
        with_reducible rfl
       rotate_left
       ·simp only [Act.put, List.setIfInBounds_toArray, List.set_cons_zero, List.set_cons_succ, i64_w, i32_w]
        rfl
       refine pure_ (i := 8) (N := some 20) (v := ?_) (a' := ?_) #[true, true, true, true, true, true, true, true, true, false, false, false, false, false, false, false, false, false, false, false, false, false] rfl rfl (any_of HT_.out (by kernel_rfl)) (fun _ _ _ h => h) (Or.inl ⟨by rfl, ?_⟩) ?_ ?_
       rotate_left
       ·intro w'
        go_simp
        with_reducible rfl
       rotate_left
       ·simp only [Act.put, List.setIfInBounds_toArray, List.set_cons_zero, List.set_cons_succ, i64_w, i32_w]
        rfl
       refine pure_ (i := 9) (N := some 21) (v := ?_) (a' := ?_) #[true, true, true, true, true, true, true, true, true, true, false, false, false, false, false, false, false, false, false, false, false, false] rfl rfl (any_of HT_.out (by kernel_rfl)) (fun _ _ _ h => h) (Or.inl ⟨by rfl, ?_⟩) ?_ ?_
       rotate_left
       ·intro w'
        go_simp
        with_reducible rfl
       rotate_left
       ·simp only [Act.put, List.setIfInBounds_toArray, List.set_cons_zero, List.set_cons_succ, i64_w, i32_w]
        rfl
       refine pure_ (i := 13) (N := some 25) (v := ?_) (a' := ?_) #[true, true, true, true, true, true, true, true, true, true, false, false, false, true, false, false, false, false, false, false, false, false] rfl rfl (any_of HT_.out (by kernel_rfl)) (fun _ _ _ h => h) (Or.inl ⟨by rfl, ?_⟩) ?_ ?_
       rotate_left
       ·intro w'
        go_simp
        with_reducible rfl
       rotate_left
       ·simp only [Act.put, List.setIfInBounds_toArray, List.set_cons_zero, List.set_cons_succ, i64_w, i32_w]
        rfl
       refine pure_ (i := 17) (N := some 29) (v := ?_) (a' := ?_) #[true, true, true, true, true, true, true, true, true, true, false, false, false, true, false, false, false, true, false, false, false, false] rfl rfl (any_of HT_.out (by kernel_rfl)) (fun _ _ _ h => h) (Or.inl ⟨by rfl, ?_⟩) ?_ ?_
       rotate_left
       ·intro w'
        go_simp
        with_reducible rfl
       rotate_left
       ·simp only [Act.put, List.setIfInBounds_toArray, List.set_cons_zero, List.set_cons_succ, i64_w, i32_w]
        rfl
       refine take_ (i := 10) (N := some 22) (v := ?_) (a' := ?_) #[true, true, true, true, true, true, true, true, true, true, true, false, false, true, false, false, false, true, false, false, false, false] rfl rfl (take_ofW HT_.out HW_.out (by kernel_rfl)) (fun _ _ _ h => h) (Or.inl ⟨by rfl, ?_⟩) hHeld ?_ ?_
       rotate_left
       ·rintro w' ⟨s0, s1, s2, s3, s4, s5, s6⟩
        go_simp
        with_reducible rfl
       rotate_left
       ·simp only [Act.put, List.setIfInBounds_toArray, List.set_cons_zero, List.set_cons_succ, i64_w, i32_w]
        rfl
       refine pure_ (i := 11) (N := some 23) (v := ?_) (a' := ?_) #[true, true, true, true, true, true, true, true, true, true, true, true, false, true, false, false, false, true, false, false, false, false] rfl rfl (any_of HT_.out (by kernel_rfl)) (fun _ _ _ h => h) (Or.inl ⟨by rfl, ?_⟩) ?_ ?_
       rotate_left
       ·intro w'
        go_simp
        with_reducible rfl
       rotate_left
       ·simp only [Act.put, List.setIfInBounds_toArray, List.set_cons_zero, List.set_cons_succ, i64_w, i32_w]
        rfl
       refine take_ (i := 12) (N := some 24) (v := ?_) (a' := ?_) #[true, true, true, true, true, true, true, true, true, true, true, true, true, true, false, false, false, true, false, false, false, false] rfl rfl (take_ofW HT_.out HW_.out (by kernel_rfl)) (fun _ _ _ h => h) (Or.inl ⟨by rfl, ?_⟩) hHeld ?_ ?_
       rotate_left
       ·rintro w' ⟨s0, s1, s2, s3, s4, s5, s6⟩
        go_simp
        with_reducible rfl
       rotate_left
       ·simp only [Act.put, List.setIfInBounds_toArray, List.set_cons_zero, List.set_cons_succ, i64_w, i32_w]
        rfl
       refine take_ (i := 14) (N := some 26) (v := ?_) (a' := ?_) #[true, true, true, true, true, true, true, true, true, true, true, true, true, true, true, false, false, true, false, false, false, false] rfl rfl (take_ofW HT_.out HW_.out (by kernel_rfl)) (fun _ _ _ h => h) (Or.inl ⟨by rfl, ?_⟩) hHeld ?_ ?_
       rotate_left
       ·rintro w' ⟨s0, s1, s2, s3, s4, s5, s6⟩
        go_simp
        with_reducible rfl
       rotate_left
       ·simp only [Act.put, List.setIfInBounds_toArray, List.set_cons_zero, List.set_cons_succ, i64_w, i32_w]
        rfl
       refine pure_ (i := 15) (N := some 27) (v := ?_) (a' := ?_) #[true, true, true, true, true, true, true, true, true, true, true, true, true, true, true, true, false, true, false, false, false, false] rfl rfl (any_of HT_.out (by kernel_rfl)) (fun _ _ _ h => h) (Or.inl ⟨by rfl, ?_⟩) ?_ ?_
       rotate_left
       ·intro w'
        go_simp
        with_reducible rfl
       rotate_left
       ·simp only [Act.put, List.setIfInBounds_toArray, List.set_cons_zero, List.set_cons_succ, i64_w, i32_w]
        rfl
       refine take_ (i := 16) (N := some 28) (v := ?_) (a' := ?_) #[true, true, true, true, true, true, true, true, true, true, true, true, true, true, true, true, true, true, false, false, false, false] rfl rfl (take_ofW HT_.out HW_.out (by kernel_rfl)) (fun _ _ _ h => h) (Or.inl ⟨by rfl, ?_⟩) hHeld ?_ ?_
       rotate_left
       ·rintro w' ⟨s0, s1, s2, s3, s4, s5, s6⟩
        go_simp
        with_reducible rfl
       rotate_left
       ·simp only [Act.put, List.setIfInBounds_toArray, List.set_cons_zero, List.set_cons_succ, i64_w, i32_w]
        rfl
       refine take_ (i := 18) (N := some 30) (v := ?_) (a' := ?_) #[true, true, true, true, true, true, true, true, true, true, true, true, true, true, true, true, true, true, true, false, false, false] rfl rfl (take_ofW HT_.out HW_.out (by kernel_rfl)) (fun _ _ _ h => h) (Or.inl ⟨by rfl, ?_⟩) hHeld ?_ ?_
       rotate_left
       ·rintro w' ⟨s0, s1, s2, s3, s4, s5, s6⟩
        go_simp
        with_reducible rfl
       rotate_left
       ·simp only [Act.put, List.setIfInBounds_toArray, List.set_cons_zero, List.set_cons_succ, i64_w, i32_w]
        rfl
       refine pure_ (i := 19) (N := some 31) (v := ?_) (a' := ?_) #[true, true, true, true, true, true, true, true, true, true, true, true, true, true, true, true, true, true, true, true, false, false] rfl rfl (any_of HT_.out (by kernel_rfl)) (fun _ _ _ h => h) (Or.inl ⟨by rfl, ?_⟩) ?_ ?_
       rotate_left
       ·intro w'
        go_simp
        with_reducible rfl
       rotate_left
       ·simp only [Act.put, List.setIfInBounds_toArray, List.set_cons_zero, List.set_cons_succ, i64_w, i32_w]
        rfl
       refine pure_ (i := 20) (N := some 32) (v := ?_) (a' := ?_) #[true, true, true, true, true, true, true, true, true, true, true, true, true, true, true, true, true, true, true, true, true, false] rfl rfl (any_of HT_.out (by kernel_rfl)) (fun _ _ _ h => h) (Or.inl ⟨by rfl, ?_⟩) ?_ ?_
       rotate_left
       ·intro w'
        go_simp
        with_reducible rfl
       rotate_left
       ·simp only [Act.put, List.setIfInBounds_toArray, List.set_cons_zero, List.set_cons_succ, i64_w, i32_w]
        rfl
       refine pure_ (i := 21) (N := some 4) (v := ?_) (a' := ?_) #[true, true, true, true, true, true, true, true, true, true, true, true, true, true, true, true, true, true, true, true, true, true] rfl rfl (any_of HT_.out (by kernel_rfl)) (fun _ _ _ h => h) (Or.inl ⟨by rfl, ?_⟩) ?_ ?_
       rotate_left
       ·intro w'
        go_simp
        with_reducible rfl
       rotate_left
       ·simp only [Act.put, List.setIfInBounds_toArray, List.set_cons_zero, List.set_cons_succ, i64_w, i32_w]
        rfl
       refine done_ (done_of HT_.out (by kernel_rfl)) ?_
       try go_wp2
       go_ret
       exact ⟨by first | rfl | (simp [errW_none, errW_some] <;> rfl) | (simp [*, errW_none, errW_some] <;> rfl), by repeat (first | (with_reducible first | exact HB.out | apply below_alloc | apply pw_below_drewN | apply below_drew1 | refine below_set ?_ GE331.out | refine below_set ?_ GE332.out) | exact HB.out)⟩
      ·rw [if_neg c10] at H
       exact absurd H (by simp)
     ·rw [if_neg c9] at H
      exact absurd H (by simp)
    ·rw [if_neg c8] at H
     exact absurd H (by simp)
   ·rw [if_neg c7] at H
    exact absurd H (by simp)
  ·replace c6 := Bool.eq_false_iff.mpr c6
   subst c6
   have H1 : (some false) = some r := by rw [if_neg (show ¬ (false = true) by decide)] at H; exact H
   clear H
   have H := H1
   clear H1
   obtain rfl := Option.some.inj H
   go_enter Try.func29, Try.ntmps29
   try go_wp2_with (first | ((with_reducible refine gate_dst (N := 2) rfl ?_); refine box_event ?hg (N := 2) ?hd (cs := #[.int .i64 a0_0, .slice A0_1 l0_1.length c0_1]) (t := 31) ?hr ?_; (case hd => rfl); (case hg => rfl); (case hr => first | (go_simp; done) | (go_simp; rfl)); intro gb331 hg w19 hbox hb; have n0_ := Aside0.mk (below_step (by repeat (first | (with_reducible first | exact HB.out | apply below_alloc | apply pw_below_drewN | apply below_drew1) | exact HB.out)) hb); have n1_ := Aside0.mk (hbox); have n2_ := Aside0.mk ((by rw [hg]; exact (below_size (by repeat (first | (with_reducible first | exact HB.out | apply below_alloc | apply pw_below_drewN | apply below_drew1) | exact HB.out))) : w.heap.size ≤ gb331)); have n3_ := Aside0.mk ((by rw [hg]; exact (below_size (by repeat (first | (with_reducible first | exact HB.out | apply below_alloc | apply pw_below_drewN | apply below_drew1) | exact HB.out))) : w.heap.size ≤ gb331)); clear HB; have HB := n0_; have BK331 := n1_; have GW331 := n2_; have GE331 := n3_; clear n0_ n1_ n2_ n3_; clear hb hbox hg) | ((with_reducible refine gate_dst (N := 3) rfl ?_); refine box_event ?hg (N := 3) ?hd (cs := #[.int .i64 a1_0, .int .i64 a1_1, .int .i64 a1_2]) (t := 53) ?hr ?_; (case hd => rfl); (case hg => rfl); (case hr => first | (go_simp; done) | (go_simp; rfl)); intro gb332 hg w20 hbox hb; have n0_ := Aside0.mk (blk_below (g := gb331) (o := .cells #[.int .i64 a0_0, .slice A0_1 l0_1.length c0_1] 31 (0, 0)) (by (with_reducible repeat (first | refine blk_drewN ?_ _ | refine blk_drew ?_ | refine blk_alloc ?_ _)); exact BK331.out) hb); have n1_ := Aside0.mk (below_step (by repeat (first | (with_reducible first | exact HB.out | apply below_alloc | apply pw_below_drewN | apply below_drew1 | refine below_set ?_ GE331.out) | exact HB.out)) hb); have n2_ := Aside0.mk (hbox); have n3_ := Aside0.mk ((by rw [hg]; exact (below_size (by repeat (first | (with_reducible first | exact HB.out | apply below_alloc | apply pw_below_drewN | apply below_drew1 | refine below_set ?_ GE331.out) | exact HB.out))) : w.heap.size ≤ gb332)); have n4_ := Aside0.mk ((by rw [hg]; exact (below_size (by repeat (first | (with_reducible first | exact HB.out | apply below_alloc | apply pw_below_drewN | apply below_drew1 | refine below_set ?_ GE331.out) | exact HB.out))) : w.heap.size ≤ gb332)); have n5_ := Aside0.mk ((by rw [hg]; exact Nat.ne_of_lt (blk_lt (g := gb331) (o := .cells #[.int .i64 a0_0, .slice A0_1 l0_1.length c0_1] 31 (0, 0)) (by (with_reducible repeat (first | refine blk_drewN ?_ _ | refine blk_drew ?_ | refine blk_alloc ?_ _)); exact BK331.out)) : gb331 ≠ gb332)); have n6_ := Aside0.mk ((by rw [hg]; exact Nat.ne_of_gt (blk_lt (g := gb331) (o := .cells #[.int .i64 a0_0, .slice A0_1 l0_1.length c0_1] 31 (0, 0)) (by (with_reducible repeat (first | refine blk_drewN ?_ _ | refine blk_drew ?_ | refine blk_alloc ?_ _)); exact BK331.out)) : gb332 ≠ gb331)); clear BK331; clear HB; have BK331 := n0_; have HB := n1_; have BK332 := n2_; have GW332 := n3_; have GE332 := n4_; have NB331_332 := n5_; have NB332_331 := n6_; clear n0_ n1_ n2_ n3_ n4_ n5_ n6_; clear hb hbox hg; have hnb21 := NB331_332.out; have hnc21 := NB332_331.out; have hcz22_0 : w20.cell? ⟨gb331, 0, none⟩ = some (.int .i64 a0_0) := (blk_cell BK331.out 0).trans rfl; have hcz22_1 : w20.cell? ⟨gb331, 1, none⟩ = some (.slice A0_1 l0_1.length c0_1) := (blk_cell BK331.out 1).trans rfl; have hfz22_0 := blk_frozen BK331.out 0; have hfz22_1 := blk_frozen BK331.out 1) | ((with_reducible refine gate_callee (f := 27) rfl ?_); refine goesL_ (some 9) rfl rfl Try.func27 (by kernel_rfl) rfl #[.agg #[.int .i64 a0_0, .slice A0_1 l0_1.length c0_1]] rfl (by (try simp only [List.map_toArray, List.map_cons, List.map_nil]); first | done | rfl | (simp only [List.length_drop, List.length_take]; rfl)) ?_; (with_reducible refine (impl_TightestBounds.calls k a0_0 _ _ l0_1 t333 true _ ?side1 ?side2 A3.out).mono ?_); (case side1 => repeat (first | exact (Kd.C_below HR0_1.out HB.out) | (with_reducible refine Kd.C_alloc ?_ _) | (with_reducible refine Kd.C_drewN ?_ _) | (with_reducible refine Kd.C_drew ?_))); (case side2 => exact HC0_1.out); rintro e w23 ⟨v334, rfl, ho0, hb⟩; refine ⟨_, rfl, ?_⟩; have n0_ := Aside0.mk (Kd.S_lower ho0 (below_size (by repeat (first | (with_reducible first | exact HB.out | apply below_alloc | apply pw_below_drewN | apply below_drew1 | refine below_set ?_ GE331.out | refine below_set ?_ GE332.out) | exact HB.out)))); have n1_ := Aside0.mk (blk_below (g := gb331) (o := .cells #[.int .i64 a0_0, .slice A0_1 l0_1.length c0_1] 31 (0, 0)) (by (with_reducible repeat (first | refine blk_drewN ?_ _ | refine blk_drew ?_ | refine blk_alloc ?_ _)); exact BK331.out) hb); have n2_ := Aside0.mk (blk_below (g := gb332) (o := .cells #[.int .i64 a1_0, .int .i64 a1_1, .int .i64 a1_2] 53 (0, 0)) (by (with_reducible repeat (first | refine blk_drewN ?_ _ | refine blk_drew ?_ | refine blk_alloc ?_ _)); exact BK332.out) hb); have n3_ := Aside0.mk (below_step (by repeat (first | (with_reducible first | exact HB.out | apply below_alloc | apply pw_below_drewN | apply below_drew1 | refine below_set ?_ GE331.out | refine below_set ?_ GE332.out) | exact HB.out)) hb); clear BK331; clear BK332; clear HB; have HO335 := n0_; have BK331 := n1_; have BK332 := n2_; have HB := n3_; clear n0_ n1_ n2_ n3_; (try clear hb); (try clear hb2); (try clear hk); (try clear hi); (try clear ho0)))
   have n0_ := Aside0.mk (Kd.S_drew HO335.out)
   have n1_ := Aside0.mk (blk_drew BK331.out)
   have n2_ := Aside0.mk (blk_drew BK332.out)
   have n3_ := Aside0.mk (below_drew1 HB.out)
   clear HO335
   clear BK331
   clear BK332
   clear HB
   have HO335 := n0_
   have BK331 := n1_
   have BK332 := n2_
   have HB := n3_
   clear n0_ n1_ n2_ n3_
   refine start_ (n := 22) (S := fun w' => w'.cell? ⟨gb332, 0, none⟩ = some (.int .i64 a1_0) ∧ w'.cell? ⟨gb332, 1, none⟩ = some (.int .i64 a1_1) ∧ w'.cell? ⟨gb332, 2, none⟩ = some (.int .i64 a1_2) ∧ w'.cell? ⟨gb331, 0, none⟩ = some (.int .i64 a0_0) ∧ w'.cell? ⟨gb331, 1, none⟩ = some (.slice A0_1 l0_1.length c0_1)) (ds := []) #[false, false, false, false, false, false, false, false, false, false, false, false, false, false, false, false, false, false, false, false, false, false] (by kernel_rfl) rfl rfl ⟨(blk_cell BK332.out 0).trans rfl, (blk_cell BK332.out 1).trans rfl, (blk_cell BK332.out 2).trans rfl, (blk_cell BK331.out 0).trans rfl, (blk_cell BK331.out 1).trans rfl⟩ (fun hHeld => ?_); refine with_tabW impl_FollowsFrom.tab2 impl_FollowsFrom.bits2 (fun HT_ HW_ => ?_)
   generalize w23.drew = w24 at HO335 BK331 BK332 HB hHeld ⊢
   refine pure_ (i := 0) (N := some 12) (v := ?_) (a' := ?_) #[true, false, false, false, false, false, false, false, false, false, false, false, false, false, false, false, false, false, false, false, false, false] rfl rfl (any_of HT_.out (by kernel_rfl)) (fun _ _ _ h => h) (Or.inl ⟨by rfl, ?_⟩) ?_ ?_
   rotate_left
   ·intro w'
    go_simp
    with_reducible rfl
   rotate_left
   ·simp only [Act.put, List.setIfInBounds_toArray, List.set_cons_zero, List.set_cons_succ, i64_w, i32_w]
    rfl
   refine pure_ (i := 1) (N := some 13) (v := ?_) (a' := ?_) #[true, true, false, false, false, false, false, false, false, false, false, false, false, false, false, false, false, false, false, false, false, false] rfl rfl (any_of HT_.out (by kernel_rfl)) (fun _ _ _ h => h) (Or.inl ⟨by rfl, ?_⟩) ?_ ?_
   rotate_left
   ·intro w'
    go_simp
    with_reducible rfl
   rotate_left
   ·simp only [Act.put, List.setIfInBounds_toArray, List.set_cons_zero, List.set_cons_succ, i64_w, i32_w]
    rfl
   refine pure_ (i := 3) (N := some 15) (v := ?_) (a' := ?_) #[true, true, false, true, false, false, false, false, false, false, false, false, false, false, false, false, false, false, false, false, false, false] rfl rfl (any_of HT_.out (by kernel_rfl)) (fun _ _ _ h => h) (Or.inl ⟨by rfl, ?_⟩) ?_ ?_
   rotate_left
   ·intro w'
    go_simp
    with_reducible rfl
   rotate_left
   ·simp only [Act.put, List.setIfInBounds_toArray, List.set_cons_zero, List.set_cons_succ, i64_w, i32_w]
    rfl
   refine take_ (i := 2) (N := some 14) (v := ?_) (a' := ?_) #[true, true, true, true, false, false, false, false, false, false, false, false, false, false, false, false, false, false, false, false, false, false] rfl rfl (take_ofW HT_.out HW_.out (by kernel_rfl)) (fun _ _ _ h => h) (Or.inl ⟨by rfl, ?_⟩) hHeld ?_ ?_
   rotate_left
   ·rintro w' ⟨s0, s1, s2, s3, s4⟩
    go_simp
    with_reducible rfl
   rotate_left
   ·simp only [Act.put, List.setIfInBounds_toArray, List.set_cons_zero, List.set_cons_succ, i64_w, i32_w]
    rfl
   refine take_ (i := 4) (N := some 16) (v := ?_) (a' := ?_) #[true, true, true, true, true, false, false, false, false, false, false, false, false, false, false, false, false, false, false, false, false, false] rfl rfl (take_ofW HT_.out HW_.out (by kernel_rfl)) (fun _ _ _ h => h) (Or.inl ⟨by rfl, ?_⟩) hHeld ?_ ?_
   rotate_left
   ·rintro w' ⟨s0, s1, s2, s3, s4⟩
    go_simp
    with_reducible rfl
   rotate_left
   ·simp only [Act.put, List.setIfInBounds_toArray, List.set_cons_zero, List.set_cons_succ, i64_w, i32_w]
    rfl
   refine one_ (i := 5) (N := some 17) #[true, true, true, true, true, true, false, false, false, false, false, false, false, false, false, false, false, false, false, false, false, false] rfl rfl (one_of HT_.out (by kernel_rfl)) (by decide) (fun K hK => ?_)
   refine goes_ Try.func36 (by kernel_rfl) rfl #[.agg #[.int .i64 a1_0, .int .i64 a1_1, .int .i64 a1_2], .int .i64 a0_0] (by rfl) rfl rfl (by (try simp only [List.map_toArray, List.map_cons, List.map_nil]); first | done | rfl | (simp only [List.length_drop, List.length_take]; rfl)) ?_
   with_reducible refine (impl_isBound.calls a1_0 a1_1 a1_2 a0_0 false _ A5.out).mono ?_
   rintro e w25 ⟨rfl, hb⟩
   refine ⟨_, rfl, ?_⟩
   have n0_ := Aside0.mk (Kd.S_below (by (with_reducible repeat (first | apply Kd.S_alloc | apply Kd.S_drewN | apply Kd.S_drew)); exact HO335.out) hb)
   have n1_ := Aside0.mk (blk_below (g := gb331) (o := .cells #[.int .i64 a0_0, .slice A0_1 l0_1.length c0_1] 31 (0, 0)) (by (with_reducible repeat (first | refine blk_drewN ?_ _ | refine blk_drew ?_ | refine blk_alloc ?_ _)); exact BK331.out) hb)
   have n2_ := Aside0.mk (blk_below (g := gb332) (o := .cells #[.int .i64 a1_0, .int .i64 a1_1, .int .i64 a1_2] 53 (0, 0)) (by (with_reducible repeat (first | refine blk_drewN ?_ _ | refine blk_drew ?_ | refine blk_alloc ?_ _)); exact BK332.out) hb)
   have n3_ := Aside0.mk (below_step (by repeat (first | (with_reducible first | exact HB.out | apply below_alloc | apply pw_below_drewN | apply below_drew1 | refine below_set ?_ GE331.out | refine below_set ?_ GE332.out) | exact HB.out)) hb)
   clear HO335
   clear BK331
   clear BK332
   clear HB
   have HO335 := n0_
   have BK331 := n1_
   have BK332 := n2_
   have HB := n3_
   clear n0_ n1_ n2_ n3_
   (try clear hb)
   (try clear hb2)
   (try clear hk)
   (try clear hi)
   refine hK.out _ _ ⟨(blk_cell BK332.out 0).trans rfl, (blk_cell BK332.out 1).trans rfl, (blk_cell BK332.out 2).trans rfl, (blk_cell BK331.out 0).trans rfl, (blk_cell BK331.out 1).trans rfl⟩ (fun hHeld => ?_)
   clear hK K
   refine norm_ (a' := ?_) ?_ ?_
   rotate_left
   ·show Act.put _ (some 17) _ = _
    simp only [Act.put, List.setIfInBounds_toArray, List.set_cons_zero, List.set_cons_succ, i64_w, i32_w]
    rfl
   refine pure_ (i := 6) (N := some 18) (v := ?_) (a' := ?_) #[true, true, true, true, true, true, true, false, false, false, false, false, false, false, false, false, false, false, false, false, false, false] rfl rfl (any_of HT_.out (by kernel_rfl)) (fun _ _ _ h => h) (Or.inl ⟨by rfl, ?_⟩) ?_ ?_
   rotate_left
   ·intro w'
    go_simp
    with_reducible rfl
   rotate_left
   ·simp only [Act.put, List.setIfInBounds_toArray, List.set_cons_zero, List.set_cons_succ, i64_w, i32_w]
    rfl
   refine pure_ (i := 7) (N := some 19) (v := ?_) (a' := ?_) #[true, true, true, true, true, true, true, true, false, false, false, false, false, false, false, false, false, false, false, false, false, false] rfl rfl (any_of HT_.out (by kernel_rfl)) (fun _ _ _ h => h) (Or.inl ⟨by rfl, ?_⟩) ?_ ?_
   rotate_left
   ·intro w'
    go_simp
    with_reducible rfl
   rotate_left
   ·simp only [Act.put, List.setIfInBounds_toArray, List.set_cons_zero, List.set_cons_succ, i64_w, i32_w]
    rfl
   refine pure_ (i := 8) (N := some 20) (v := undef) (a' := ?_) #[true, true, true, true, true, true, true, true, true, false, false, false, false, false, false, false, false, false, false, false, false, false] rfl rfl (any_of HT_.out (by kernel_rfl)) (fun _ _ _ h => h) (Or.inr ⟨by rfl, rfl⟩) ?_ ?_
   rotate_left
   ·simp only [Act.put, List.setIfInBounds_toArray, List.set_cons_zero, List.set_cons_succ, i64_w, i32_w]
    rfl
   refine pure_ (i := 9) (N := some 21) (v := undef) (a' := ?_) #[true, true, true, true, true, true, true, true, true, true, false, false, false, false, false, false, false, false, false, false, false, false] rfl rfl (any_of HT_.out (by kernel_rfl)) (fun _ _ _ h => h) (Or.inr ⟨by rfl, rfl⟩) ?_ ?_
   rotate_left
   ·simp only [Act.put, List.setIfInBounds_toArray, List.set_cons_zero, List.set_cons_succ, i64_w, i32_w]
    rfl
   refine pure_ (i := 10) (N := some 22) (v := undef) (a' := ?_) #[true, true, true, true, true, true, true, true, true, true, true, false, false, false, false, false, false, false, false, false, false, false] rfl rfl (any_of HT_.out (by kernel_rfl)) (fun _ _ _ h => h) (Or.inr ⟨by rfl, rfl⟩) ?_ ?_
   rotate_left
   ·simp only [Act.put, List.setIfInBounds_toArray, List.set_cons_zero, List.set_cons_succ, i64_w, i32_w]
    rfl
   refine pure_ (i := 11) (N := some 23) (v := undef) (a' := ?_) #[true, true, true, true, true, true, true, true, true, true, true, true, false, false, false, false, false, false, false, false, false, false] rfl rfl (any_of HT_.out (by kernel_rfl)) (fun _ _ _ h => h) (Or.inr ⟨by rfl, rfl⟩) ?_ ?_
   rotate_left
   ·simp only [Act.put, List.setIfInBounds_toArray, List.set_cons_zero, List.set_cons_succ, i64_w, i32_w]
    rfl
   refine pure_ (i := 12) (N := some 24) (v := undef) (a' := ?_) #[true, true, true, true, true, true, true, true, true, true, true, true, true, false, false, false, false, false, false, false, false, false] rfl rfl (any_of HT_.out (by kernel_rfl)) (fun _ _ _ h => h) (Or.inr ⟨by rfl, rfl⟩) ?_ ?_
   rotate_left
   ·simp only [Act.put, List.setIfInBounds_toArray, List.set_cons_zero, List.set_cons_succ, i64_w, i32_w]
    rfl
   refine pure_ (i := 13) (N := some 25) (v := undef) (a' := ?_) #[true, true, true, true, true, true, true, true, true, true, true, true, true, true, false, false, false, false, false, false, false, false] rfl rfl (any_of HT_.out (by kernel_rfl)) (fun _ _ _ h => h) (Or.inr ⟨by rfl, rfl⟩) ?_ ?_
   rotate_left
   ·simp only [Act.put, List.setIfInBounds_toArray, List.set_cons_zero, List.set_cons_succ, i64_w, i32_w]
    rfl
   refine pure_ (i := 14) (N := some 26) (v := undef) (a' := ?_) #[true, true, true, true, true, true, true, true, true, true, true, true, true, true, true, false, false, false, false, false, false, false] rfl rfl (any_of HT_.out (by kernel_rfl)) (fun _ _ _ h => h) (Or.inr ⟨by rfl, rfl⟩) ?_ ?_
   rotate_left
   ·simp only [Act.put, List.setIfInBounds_toArray, List.set_cons_zero, List.set_cons_succ, i64_w, i32_w]
    rfl
   refine pure_ (i := 15) (N := some 27) (v := undef) (a' := ?_) #[true, true, true, true, true, true, true, true, true, true, true, true, true, true, true, true, false, false, false, false, false, false] rfl rfl (any_of HT_.out (by kernel_rfl)) (fun _ _ _ h => h) (Or.inr ⟨by rfl, rfl⟩) ?_ ?_
   rotate_left
   ·simp only [Act.put, List.setIfInBounds_toArray, List.set_cons_zero, List.set_cons_succ, i64_w, i32_w]
    rfl
   refine pure_ (i := 16) (N := some 28) (v := undef) (a' := ?_) #[true, true, true, true, true, true, true, true, true, true, true, true, true, true, true, true, true, false, false, false, false, false] rfl rfl (any_of HT_.out (by kernel_rfl)) (fun _ _ _ h => h) (Or.inr ⟨by rfl, rfl⟩) ?_ ?_
   rotate_left
   ·simp only [Act.put, List.setIfInBounds_toArray, List.set_cons_zero, List.set_cons_succ, i64_w, i32_w]
    rfl
   refine pure_ (i := 17) (N := some 29) (v := undef) (a' := ?_) #[true, true, true, true, true, true, true, true, true, true, true, true, true, true, true, true, true, true, false, false, false, false] rfl rfl (any_of HT_.out (by kernel_rfl)) (fun _ _ _ h => h) (Or.inr ⟨by rfl, rfl⟩) ?_ ?_
   rotate_left
   ·simp only [Act.put, List.setIfInBounds_toArray, List.set_cons_zero, List.set_cons_succ, i64_w, i32_w]
    rfl
   refine pure_ (i := 18) (N := some 30) (v := undef) (a' := ?_) #[true, true, true, true, true, true, true, true, true, true, true, true, true, true, true, true, true, true, true, false, false, false] rfl rfl (any_of HT_.out (by kernel_rfl)) (fun _ _ _ h => h) (Or.inr ⟨by rfl, rfl⟩) ?_ ?_
   rotate_left
   ·simp only [Act.put, List.setIfInBounds_toArray, List.set_cons_zero, List.set_cons_succ, i64_w, i32_w]
    rfl
   refine pure_ (i := 19) (N := some 31) (v := undef) (a' := ?_) #[true, true, true, true, true, true, true, true, true, true, true, true, true, true, true, true, true, true, true, true, false, false] rfl rfl (any_of HT_.out (by kernel_rfl)) (fun _ _ _ h => h) (Or.inr ⟨by rfl, rfl⟩) ?_ ?_
   rotate_left
   ·simp only [Act.put, List.setIfInBounds_toArray, List.set_cons_zero, List.set_cons_succ, i64_w, i32_w]
    rfl
   refine pure_ (i := 20) (N := some 32) (v := ?_) (a' := ?_) #[true, true, true, true, true, true, true, true, true, true, true, true, true, true, true, true, true, true, true, true, true, false] rfl rfl (any_of HT_.out (by kernel_rfl)) (fun _ _ _ h => h) (Or.inl ⟨by rfl, ?_⟩) ?_ ?_
   rotate_left
   ·intro w'
    go_simp
    with_reducible rfl
   rotate_left
   ·simp only [Act.put, List.setIfInBounds_toArray, List.set_cons_zero, List.set_cons_succ, i64_w, i32_w]
    rfl
   refine pure_ (i := 21) (N := some 4) (v := ?_) (a' := ?_) #[true, true, true, true, true, true, true, true, true, true, true, true, true, true, true, true, true, true, true, true, true, true] rfl rfl (any_of HT_.out (by kernel_rfl)) (fun _ _ _ h => h) (Or.inl ⟨by rfl, ?_⟩) ?_ ?_
   rotate_left
   ·intro w'
    go_simp
    with_reducible rfl
   rotate_left
   ·simp only [Act.put, List.setIfInBounds_toArray, List.set_cons_zero, List.set_cons_succ, i64_w, i32_w]
    rfl
   refine done_ (done_of HT_.out (by kernel_rfl)) ?_
   try go_wp2
   go_ret
   exact ⟨by first | rfl | (simp [errW_none, errW_some] <;> rfl) | (simp [*, errW_none, errW_some] <;> rfl), by repeat (first | (with_reducible first | exact HB.out | apply below_alloc | apply pw_below_drewN | apply below_drew1 | refine below_set ?_ GE331.out | refine below_set ?_ GE332.out) | exact HB.out)⟩
 ·replace c4 := Bool.eq_false_iff.mpr c4
  subst c4
  have H1 : (some false) = some r := by rw [if_neg (show ¬ (false = true) by decide)] at H; exact H
  clear H
  have H := H1
  clear H1
  obtain rfl := Option.some.inj H
  go_enter Try.func29, Try.ntmps29
  try go_wp2_with (first | ((with_reducible refine gate_dst (N := 2) rfl ?_); refine box_event ?hg (N := 2) ?hd (cs := #[.int .i64 a0_0, .slice A0_1 l0_1.length c0_1]) (t := 31) ?hr ?_; (case hd => rfl); (case hg => rfl); (case hr => first | (go_simp; done) | (go_simp; rfl)); intro gb331 hg w26 hbox hb; have n0_ := Aside0.mk (below_step (by repeat (first | (with_reducible first | exact HB.out | apply below_alloc | apply pw_below_drewN | apply below_drew1) | exact HB.out)) hb); have n1_ := Aside0.mk (hbox); have n2_ := Aside0.mk ((by rw [hg]; exact (below_size (by repeat (first | (with_reducible first | exact HB.out | apply below_alloc | apply pw_below_drewN | apply below_drew1) | exact HB.out))) : w.heap.size ≤ gb331)); have n3_ := Aside0.mk ((by rw [hg]; exact (below_size (by repeat (first | (with_reducible first | exact HB.out | apply below_alloc | apply pw_below_drewN | apply below_drew1) | exact HB.out))) : w.heap.size ≤ gb331)); clear HB; have HB := n0_; have BK331 := n1_; have GW331 := n2_; have GE331 := n3_; clear n0_ n1_ n2_ n3_; clear hb hbox hg) | ((with_reducible refine gate_dst (N := 3) rfl ?_); refine box_event ?hg (N := 3) ?hd (cs := #[.int .i64 a1_0, .int .i64 a1_1, .int .i64 a1_2]) (t := 53) ?hr ?_; (case hd => rfl); (case hg => rfl); (case hr => first | (go_simp; done) | (go_simp; rfl)); intro gb332 hg w27 hbox hb; have n0_ := Aside0.mk (blk_below (g := gb331) (o := .cells #[.int .i64 a0_0, .slice A0_1 l0_1.length c0_1] 31 (0, 0)) (by (with_reducible repeat (first | refine blk_drewN ?_ _ | refine blk_drew ?_ | refine blk_alloc ?_ _)); exact BK331.out) hb); have n1_ := Aside0.mk (below_step (by repeat (first | (with_reducible first | exact HB.out | apply below_alloc | apply pw_below_drewN | apply below_drew1 | refine below_set ?_ GE331.out) | exact HB.out)) hb); have n2_ := Aside0.mk (hbox); have n3_ := Aside0.mk ((by rw [hg]; exact (below_size (by repeat (first | (with_reducible first | exact HB.out | apply below_alloc | apply pw_below_drewN | apply below_drew1 | refine below_set ?_ GE331.out) | exact HB.out))) : w.heap.size ≤ gb332)); have n4_ := Aside0.mk ((by rw [hg]; exact (below_size (by repeat (first | (with_reducible first | exact HB.out | apply below_alloc | apply pw_below_drewN | apply below_drew1 | refine below_set ?_ GE331.out) | exact HB.out))) : w.heap.size ≤ gb332)); have n5_ := Aside0.mk ((by rw [hg]; exact Nat.ne_of_lt (blk_lt (g := gb331) (o := .cells #[.int .i64 a0_0, .slice A0_1 l0_1.length c0_1] 31 (0, 0)) (by (with_reducible repeat (first | refine blk_drewN ?_ _ | refine blk_drew ?_ | refine blk_alloc ?_ _)); exact BK331.out)) : gb331 ≠ gb332)); have n6_ := Aside0.mk ((by rw [hg]; exact Nat.ne_of_gt (blk_lt (g := gb331) (o := .cells #[.int .i64 a0_0, .slice A0_1 l0_1.length c0_1] 31 (0, 0)) (by (with_reducible repeat (first | refine blk_drewN ?_ _ | refine blk_drew ?_ | refine blk_alloc ?_ _)); exact BK331.out)) : gb332 ≠ gb331)); clear BK331; clear HB; have BK331 := n0_; have HB := n1_; have BK332 := n2_; have GW332 := n3_; have GE332 := n4_; have NB331_332 := n5_; have NB332_331 := n6_; clear n0_ n1_ n2_ n3_ n4_ n5_ n6_; clear hb hbox hg; have hnb28 := NB331_332.out; have hnc28 := NB332_331.out; have hcz29_0 : w27.cell? ⟨gb331, 0, none⟩ = some (.int .i64 a0_0) := (blk_cell BK331.out 0).trans rfl; have hcz29_1 : w27.cell? ⟨gb331, 1, none⟩ = some (.slice A0_1 l0_1.length c0_1) := (blk_cell BK331.out 1).trans rfl; have hfz29_0 := blk_frozen BK331.out 0; have hfz29_1 := blk_frozen BK331.out 1) | ((with_reducible refine gate_callee (f := 27) rfl ?_); refine goesL_ (some 9) rfl rfl Try.func27 (by kernel_rfl) rfl #[.agg #[.int .i64 a0_0, .slice A0_1 l0_1.length c0_1]] rfl (by (try simp only [List.map_toArray, List.map_cons, List.map_nil]); first | done | rfl | (simp only [List.length_drop, List.length_take]; rfl)) ?_; (with_reducible refine (impl_TightestBounds.calls k a0_0 _ _ l0_1 t333 false _ ?side1 ?side2 A3.out).mono ?_); (case side1 => repeat (first | exact (Kd.C_below HR0_1.out HB.out) | (with_reducible refine Kd.C_alloc ?_ _) | (with_reducible refine Kd.C_drewN ?_ _) | (with_reducible refine Kd.C_drew ?_))); (case side2 => exact HC0_1.out); rintro e w30 ⟨v334, rfl, ho0, hb⟩; refine ⟨_, rfl, ?_⟩; have n0_ := Aside0.mk (Kd.S_lower ho0 (below_size (by repeat (first | (with_reducible first | exact HB.out | apply below_alloc | apply pw_below_drewN | apply below_drew1 | refine below_set ?_ GE331.out | refine below_set ?_ GE332.out) | exact HB.out)))); have n1_ := Aside0.mk (blk_below (g := gb331) (o := .cells #[.int .i64 a0_0, .slice A0_1 l0_1.length c0_1] 31 (0, 0)) (by (with_reducible repeat (first | refine blk_drewN ?_ _ | refine blk_drew ?_ | refine blk_alloc ?_ _)); exact BK331.out) hb); have n2_ := Aside0.mk (blk_below (g := gb332) (o := .cells #[.int .i64 a1_0, .int .i64 a1_1, .int .i64 a1_2] 53 (0, 0)) (by (with_reducible repeat (first | refine blk_drewN ?_ _ | refine blk_drew ?_ | refine blk_alloc ?_ _)); exact BK332.out) hb); have n3_ := Aside0.mk (below_step (by repeat (first | (with_reducible first | exact HB.out | apply below_alloc | apply pw_below_drewN | apply below_drew1 | refine below_set ?_ GE331.out | refine below_set ?_ GE332.out) | exact HB.out)) hb); clear BK331; clear BK332; clear HB; have HO335 := n0_; have BK331 := n1_; have BK332 := n2_; have HB := n3_; clear n0_ n1_ n2_ n3_; (try clear hb); (try clear hb2); (try clear hk); (try clear hi); (try clear ho0)))
  have n0_ := Aside0.mk (Kd.S_drew HO335.out)
  have n1_ := Aside0.mk (blk_drew BK331.out)
  have n2_ := Aside0.mk (blk_drew BK332.out)
  have n3_ := Aside0.mk (below_drew1 HB.out)
  clear HO335
  clear BK331
  clear BK332
  clear HB
  have HO335 := n0_
  have BK331 := n1_
  have BK332 := n2_
  have HB := n3_
  clear n0_ n1_ n2_ n3_
  refine start_ (n := 22) (S := fun w' => True) (ds := []) #[false, false, false, false, false, false, false, false, false, false, false, false, false, false, false, false, false, false, false, false, false, false] (by kernel_rfl) rfl rfl trivial (fun hHeld => ?_); refine with_tabW impl_FollowsFrom.tab2 impl_FollowsFrom.bits2 (fun HT_ HW_ => ?_)
  generalize w30.drew = w31 at HO335 BK331 BK332 HB hHeld ⊢
  refine pure_ (i := 0) (N := some 12) (v := ?_) (a' := ?_) #[true, false, false, false, false, false, false, false, false, false, false, false, false, false, false, false, false, false, false, false, false, false] rfl rfl (any_of HT_.out (by kernel_rfl)) (fun _ _ _ h => h) (Or.inl ⟨by rfl, ?_⟩) ?_ ?_
  rotate_left
  ·intro w'
   go_simp
   with_reducible rfl
  rotate_left
  ·simp only [Act.put, List.setIfInBounds_toArray, List.set_cons_zero, List.set_cons_succ, i64_w, i32_w]
   rfl
  refine pure_ (i := 1) (N := some 13) (v := ?_) (a' := ?_) #[true, true, false, false, false, false, false, false, false, false, false, false, false, false, false, false, false, false, false, false, false, false] rfl rfl (any_of HT_.out (by kernel_rfl)) (fun _ _ _ h => h) (Or.inl ⟨by rfl, ?_⟩) ?_ ?_
  rotate_left
  ·intro w'
   go_simp
   with_reducible rfl
  rotate_left
  ·simp only [Act.put, List.setIfInBounds_toArray, List.set_cons_zero, List.set_cons_succ, i64_w, i32_w]
   rfl
  refine pure_ (i := 2) (N := some 14) (v := undef) (a' := ?_) #[true, true, true, false, false, false, false, false, false, false, false, false, false, false, false, false, false, false, false, false, false, false] rfl rfl (any_of HT_.out (by kernel_rfl)) (fun _ _ _ h => h) (Or.inr ⟨by rfl, rfl⟩) ?_ ?_
  rotate_left
  ·simp only [Act.put, List.setIfInBounds_toArray, List.set_cons_zero, List.set_cons_succ, i64_w, i32_w]
   rfl
  refine pure_ (i := 3) (N := some 15) (v := undef) (a' := ?_) #[true, true, true, true, false, false, false, false, false, false, false, false, false, false, false, false, false, false, false, false, false, false] rfl rfl (any_of HT_.out (by kernel_rfl)) (fun _ _ _ h => h) (Or.inr ⟨by rfl, rfl⟩) ?_ ?_
  rotate_left
  ·simp only [Act.put, List.setIfInBounds_toArray, List.set_cons_zero, List.set_cons_succ, i64_w, i32_w]
   rfl
  refine pure_ (i := 4) (N := some 16) (v := undef) (a' := ?_) #[true, true, true, true, true, false, false, false, false, false, false, false, false, false, false, false, false, false, false, false, false, false] rfl rfl (any_of HT_.out (by kernel_rfl)) (fun _ _ _ h => h) (Or.inr ⟨by rfl, rfl⟩) ?_ ?_
  rotate_left
  ·simp only [Act.put, List.setIfInBounds_toArray, List.set_cons_zero, List.set_cons_succ, i64_w, i32_w]
   rfl
  refine pure_ (i := 5) (N := some 17) (v := undef) (a' := ?_) #[true, true, true, true, true, true, false, false, false, false, false, false, false, false, false, false, false, false, false, false, false, false] rfl rfl (any_of HT_.out (by kernel_rfl)) (fun _ _ _ h => h) (Or.inr ⟨by rfl, rfl⟩) ?_ ?_
  rotate_left
  ·simp only [Act.put, List.setIfInBounds_toArray, List.set_cons_zero, List.set_cons_succ, i64_w, i32_w]
   rfl
  refine pure_ (i := 6) (N := some 18) (v := ?_) (a' := ?_) #[true, true, true, true, true, true, true, false, false, false, false, false, false, false, false, false, false, false, false, false, false, false] rfl rfl (any_of HT_.out (by kernel_rfl)) (fun _ _ _ h => h) (Or.inl ⟨by rfl, ?_⟩) ?_ ?_
  rotate_left
  ·intro w'
   go_simp
   with_reducible rfl
  rotate_left
  ·simp only [Act.put, List.setIfInBounds_toArray, List.set_cons_zero, List.set_cons_succ, i64_w, i32_w]
   rfl
  refine pure_ (i := 7) (N := some 19) (v := ?_) (a' := ?_) #[true, true, true, true, true, true, true, true, false, false, false, false, false, false, false, false, false, false, false, false, false, false] rfl rfl (any_of HT_.out (by kernel_rfl)) (fun _ _ _ h => h) (Or.inl ⟨by rfl, ?_⟩) ?_ ?_
  rotate_left
  ·intro w'
   go_simp
   with_reducible rfl
  rotate_left
  ·simp only [Act.put, List.setIfInBounds_toArray, List.set_cons_zero, List.set_cons_succ, i64_w, i32_w]
   rfl
  refine pure_ (i := 8) (N := some 20) (v := undef) (a' := ?_) #[true, true, true, true, true, true, true, true, true, false, false, false, false, false, false, false, false, false, false, false, false, false] rfl rfl (any_of HT_.out (by kernel_rfl)) (fun _ _ _ h => h) (Or.inr ⟨by rfl, rfl⟩) ?_ ?_
  rotate_left
  ·simp only [Act.put, List.setIfInBounds_toArray, List.set_cons_zero, List.set_cons_succ, i64_w, i32_w]
   rfl
  refine pure_ (i := 9) (N := some 21) (v := undef) (a' := ?_) #[true, true, true, true, true, true, true, true, true, true, false, false, false, false, false, false, false, false, false, false, false, false] rfl rfl (any_of HT_.out (by kernel_rfl)) (fun _ _ _ h => h) (Or.inr ⟨by rfl, rfl⟩) ?_ ?_
  rotate_left
  ·simp only [Act.put, List.setIfInBounds_toArray, List.set_cons_zero, List.set_cons_succ, i64_w, i32_w]
   rfl
  refine pure_ (i := 10) (N := some 22) (v := undef) (a' := ?_) #[true, true, true, true, true, true, true, true, true, true, true, false, false, false, false, false, false, false, false, false, false, false] rfl rfl (any_of HT_.out (by kernel_rfl)) (fun _ _ _ h => h) (Or.inr ⟨by rfl, rfl⟩) ?_ ?_
  rotate_left
  ·simp only [Act.put, List.setIfInBounds_toArray, List.set_cons_zero, List.set_cons_succ, i64_w, i32_w]
   rfl
  refine pure_ (i := 11) (N := some 23) (v := undef) (a' := ?_) #[true, true, true, true, true, true, true, true, true, true, true, true, false, false, false, false, false, false, false, false, false, false] rfl rfl (any_of HT_.out (by kernel_rfl)) (fun _ _ _ h => h) (Or.inr ⟨by rfl, rfl⟩) ?_ ?_
  rotate_left
  ·simp only [Act.put, List.setIfInBounds_toArray, List.set_cons_zero, List.set_cons_succ, i64_w, i32_w]
   rfl
  refine pure_ (i := 12) (N := some 24) (v := undef) (a' := ?_) #[true, true, true, true, true, true, true, true, true, true, true, true, true, false, false, false, false, false, false, false, false, false] rfl rfl (any_of HT_.out (by kernel_rfl)) (fun _ _ _ h => h) (Or.inr ⟨by rfl, rfl⟩) ?_ ?_
  rotate_left
  ·simp only [Act.put, List.setIfInBounds_toArray, List.set_cons_zero, List.set_cons_succ, i64_w, i32_w]
   rfl
  refine pure_ (i := 13) (N := some 25) (v := undef) (a' := ?_) #[true, true, true, true, true, true, true, true, true, true, true, true, true, true, false, false, false, false, false, false, false, false] rfl rfl (any_of HT_.out (by kernel_rfl)) (fun _ _ _ h => h) (Or.inr ⟨by rfl, rfl⟩) ?_ ?_
  rotate_left
  ·simp only [Act.put, List.setIfInBounds_toArray, List.set_cons_zero, List.set_cons_succ, i64_w, i32_w]
   rfl
  refine pure_ (i := 14) (N := some 26) (v := undef) (a' := ?_) #[true, true, true, true, true, true, true, true, true, true, true, true, true, true, true, false, false, false, false, false, false, false] rfl rfl (any_of HT_.out (by kernel_rfl)) (fun _ _ _ h => h) (Or.inr ⟨by rfl, rfl⟩) ?_ ?_
  rotate_left
  ·simp only [Act.put, List.setIfInBounds_toArray, List.set_cons_zero, List.set_cons_succ, i64_w, i32_w]
   rfl
  refine pure_ (i := 15) (N := some 27) (v := undef) (a' := ?_) #[true, true, true, true, true, true, true, true, true, true, true, true, true, true, true, true, false, false, false, false, false, false] rfl rfl (any_of HT_.out (by kernel_rfl)) (fun _ _ _ h => h) (Or.inr ⟨by rfl, rfl⟩) ?_ ?_
  rotate_left
  ·simp only [Act.put, List.setIfInBounds_toArray, List.set_cons_zero, List.set_cons_succ, i64_w, i32_w]
   rfl
  refine pure_ (i := 16) (N := some 28) (v := undef) (a' := ?_) #[true, true, true, true, true, true, true, true, true, true, true, true, true, true, true, true, true, false, false, false, false, false] rfl rfl (any_of HT_.out (by kernel_rfl)) (fun _ _ _ h => h) (Or.inr ⟨by rfl, rfl⟩) ?_ ?_
  rotate_left
  ·simp only [Act.put, List.setIfInBounds_toArray, List.set_cons_zero, List.set_cons_succ, i64_w, i32_w]
   rfl
  refine pure_ (i := 17) (N := some 29) (v := undef) (a' := ?_) #[true, true, true, true, true, true, true, true, true, true, true, true, true, true, true, true, true, true, false, false, false, false] rfl rfl (any_of HT_.out (by kernel_rfl)) (fun _ _ _ h => h) (Or.inr ⟨by rfl, rfl⟩) ?_ ?_
  rotate_left
  ·simp only [Act.put, List.setIfInBounds_toArray, List.set_cons_zero, List.set_cons_succ, i64_w, i32_w]
   rfl
  refine pure_ (i := 18) (N := some 30) (v := undef) (a' := ?_) #[true, true, true, true, true, true, true, true, true, true, true, true, true, true, true, true, true, true, true, false, false, false] rfl rfl (any_of HT_.out (by kernel_rfl)) (fun _ _ _ h => h) (Or.inr ⟨by rfl, rfl⟩) ?_ ?_
  rotate_left
  ·simp only [Act.put, List.setIfInBounds_toArray, List.set_cons_zero, List.set_cons_succ, i64_w, i32_w]
   rfl
  refine pure_ (i := 19) (N := some 31) (v := undef) (a' := ?_) #[true, true, true, true, true, true, true, true, true, true, true, true, true, true, true, true, true, true, true, true, false, false] rfl rfl (any_of HT_.out (by kernel_rfl)) (fun _ _ _ h => h) (Or.inr ⟨by rfl, rfl⟩) ?_ ?_
  rotate_left
  ·simp only [Act.put, List.setIfInBounds_toArray, List.set_cons_zero, List.set_cons_succ, i64_w, i32_w]
   rfl
  refine pure_ (i := 20) (N := some 32) (v := ?_) (a' := ?_) #[true, true, true, true, true, true, true, true, true, true, true, true, true, true, true, true, true, true, true, true, true, false] rfl rfl (any_of HT_.out (by kernel_rfl)) (fun _ _ _ h => h) (Or.inl ⟨by rfl, ?_⟩) ?_ ?_
  rotate_left
  ·intro w'
   go_simp
   with_reducible rfl
  rotate_left
  ·simp only [Act.put, List.setIfInBounds_toArray, List.set_cons_zero, List.set_cons_succ, i64_w, i32_w]
   rfl
  refine pure_ (i := 21) (N := some 4) (v := ?_) (a' := ?_) #[true, true, true, true, true, true, true, true, true, true, true, true, true, true, true, true, true, true, true, true, true, true] rfl rfl (any_of HT_.out (by kernel_rfl)) (fun _ _ _ h => h) (Or.inl ⟨by rfl, ?_⟩) ?_ ?_
  rotate_left
  ·intro w'
   go_simp
   with_reducible rfl
  rotate_left
  ·simp only [Act.put, List.setIfInBounds_toArray, List.set_cons_zero, List.set_cons_succ, i64_w, i32_w]
   rfl
  refine done_ (done_of HT_.out (by kernel_rfl)) ?_
  try go_wp2
  go_ret
  exact ⟨by first | rfl | (simp [errW_none, errW_some] <;> rfl) | (simp [*, errW_none, errW_some] <;> rfl), by repeat (first | (with_reducible first | exact HB.out | apply below_alloc | apply pw_below_drewN | apply below_drew1 | refine below_set ?_ GE331.out | refine below_set ?_ GE332.out) | exact HB.out)⟩

end Go.Proofs.Ytkdijegkoajdgaa.Pa

namespace Go.Proofs.Ytkdijegkoajdgaa.Pa
open Go.RowKit Go.Proofs.YtkdijegkoajdgaaW.PrintWords Go.Proofs.YtkdijegkoajdgaaW.PrintLast Go.Proofs.YtkdijegkoajdgaaW.PrintMore
attribute [local go_sem] max2_int min2_int max_two min_two max_three min_three max_four min_four   -- for this text's walks alone
set_option linter.unusedVariables false
set_option linter.unusedSimpArgs false

/-! ### AUX concat -/
/-- Grow, of nil: a row without elements, with room. -/
theorem grow.calls (n : Nat) (hn : n ≤ 1000) (w : World) :
  Calls Try.prog 42 #[.slice none 0 0, .int .i64 (n : Int)] w fun e w' => ∃ v, e = .returned v ∧ Kd.R k53 53 w' w.heap.size (fun _ => True) v [] ∧ Below w.heap.size w w' := by
 by_cases h0 : n = 0
 ·subst h0
  refine (Any8.slices_Grow_room Try.growB none 0 0 0 w (Nat.le_refl _) (by omega) (by omega) (by omega)).mono ?_
  rintro e w' ⟨rfl, rfl⟩
  exact ⟨_, rfl, Kd.R_nil _ _ _ _ _, Below.refl _ _⟩
 ·obtain ⟨i0, hi, hzz⟩ := Option.map_eq_some_iff.1 info53
  simp only [Prod.mk.injEq] at hzz
  obtain ⟨hz0, hz1, hz2⟩ := hzz
  refine (Any8.slices_Grow_grow Try.growB i0 _ hi hz0 (by omega) none 0 0 n [] w (Nat.le_refl _) (by omega) (by rw [hz2]; omega) (by omega) (by simp) (fun _ => rfl) (fun a h => by cases h)).mono ?_
  rintro e w' ⟨rfl, rfl⟩
  refine ⟨_, rfl, ⟨fun _ _ => trivial, [], ⟨rfl, .inr ⟨w.heap.size, _, _, rfl, Nat.le_refl _, heap_alloc_new w.drew _, Nat.zero_le _, ?_, ?_, by simp⟩⟩, Reps.none _ _⟩, below_alloc (below_drew1 (Below.refl _ _)) _⟩
  ·exact grownCap_le_maxLen w (0 + n) 0 _ (by unfold maxLen; omega)
  ·have hg := grownCap_ge w (0 + n) 0 53
   show (([] : List Value).toArray ++ Builtin.zeroCells _ (0 + n - 0) ++ Builtin.zeroCells _ (grownCap w (0 + n) 0 53 - (0 + n))).size = grownCap w (0 + n) 0 53 * 3
   simp only [Array.size_append, List.size_toArray, size_zeroCells, List.length_nil]
   show 0 + (0 + n - 0) * 3 + (grownCap w (0 + n) 0 53 - (0 + n)) * 3 = _
   omega
theorem grow.callsI (z : Int) (h0 : 0 ≤ z) (h1 : z ≤ 1000) (w : World) :
  Calls Try.prog 42 #[.slice none 0 0, .int .i64 z] w fun e w' => ∃ v, e = .returned v ∧ Kd.R k53 53 w' w.heap.size (fun _ => True) v [] ∧ Below w.heap.size w w' := by
 obtain ⟨n, rfl⟩ := Int.eq_ofNat_of_zero_le h0
 exact grow.calls n (by omega) w
set_option maxHeartbeats 4000000 in
set_option maxRecDepth 100000 in
/-- Concat, of two rows of bounds that are read. -/
theorem concat.calls (gv : Nat) (A1 A2 : Option Addr) (c1 c2 : Nat) (l1 l2 : List S53) (w : World) (hb : w.heap[gv]? = some (.cells #[.slice A1 l1.length c1, .slice A2 l2.length c2] 29 (0, 0)))
  (hr1 : Kd.C k53 w A1 l1.length l1) (hr2 : Kd.C k53 w A2 l2.length l2) (h1 : l1.length ≤ 100) (h2 : l2.length ≤ 100) :
  Calls Try.prog 28 #[.slice (some ⟨gv, 0, none⟩) 2 2] w fun e w' => ∃ v, e = .returned v ∧ Kd.R k53 53 w' w.heap.size (fun _ => True) v (l1 ++ l2) ∧ Below w.heap.size w w' := by
 have HR1 := Aside0.mk hr1
 have HR2 := Aside0.mk hr2
 have HBK := Aside0.mk hb
 have H1 := Aside0.mk h1
 have H2 := Aside0.mk h2
 have hc0 : w.cell? ⟨gv, 0, none⟩ = some (.slice A1 l1.length c1) := (blk_cell hb 0).trans rfl
 have hc1 : w.cell? ⟨gv, 1, none⟩ = some (.slice A2 l2.length c2) := (blk_cell hb 1).trans rfl
 have HC0 := Aside0.mk hc0
 have HC1 := Aside0.mk hc1
 clear hr1 hr2 hb
 go_enter Try.func28, Try.ntmps28
 go_wp2
 go_loopg [3, 11] 3 (fun gg s3 s11 wr => wr = w ∧ ((s3 = .int .i64 0 ∧ s11 = .int .i64 0 ∧ Aside0 (3 ≤ gg)) ∨ (s3 = .int .i64 (l1.length : Int) ∧ s11 = .int .i64 1 ∧ Aside0 (2 ≤ gg)) ∨ (s3 = .int .i64 ((l1.length : Int) + (l2.length : Int)) ∧ s11 = .int .i64 2 ∧ Aside0 (1 ≤ gg))))
 case atStart => exact ⟨rfl, .inl ⟨rfl, rfl, ⟨Nat.le_refl _⟩⟩⟩
 case round =>
  obtain ⟨rfl, h⟩ := hrel
  rcases h with ⟨rfl, rfl, HG⟩ | ⟨rfl, rfl, HG⟩ | ⟨rfl, rfl, HG⟩
  ·go_wp2
   go_roundg 2
   case measure => have := HG.out; omega
   case rel => exact ⟨rfl, .inr (.inl ⟨by simp, rfl, ⟨Nat.le_refl _⟩⟩)⟩
  ·go_wp2
   go_roundg 1
   case measure => have := HG.out; omega
   case rel => exact ⟨rfl, .inr (.inr ⟨by simp, rfl, ⟨Nat.le_refl _⟩⟩)⟩
  ·have HW := Aside0.mk (Below.refl wr.heap.size wr)
   go_wp2_with (go_at_call 42; refine (grow.callsI _ (by omega) (by omega) _).mono ?_; rintro e w1 ⟨v1, rfl, ho, hb⟩; have HO := Aside0.mk ho; have HB := Aside0.mk hb; clear ho hb hc0 hc1; have hc0 := pw_cell_below HB.out HC0.out; have hc1 := pw_cell_below HB.out HC1.out)
   obtain ⟨w, rfl⟩ : ∃ z : World, z = wr := ⟨_, rfl⟩
   go_loopg [6, 27] 3 (fun gg s6 s27 wr => Aside0 (Below w.heap.size w wr) ∧ ((s27 = .int .i64 0 ∧ Aside0 (Kd.R k53 53 wr w.heap.size (fun _ => True) s6 []) ∧ Aside0 (3 ≤ gg)) ∨ (s27 = .int .i64 1 ∧ Aside0 (Kd.R k53 53 wr w.heap.size (fun _ => True) s6 l1) ∧ Aside0 (2 ≤ gg)) ∨ (s27 = .int .i64 2 ∧ Aside0 (Kd.R k53 53 wr w.heap.size (fun _ => True) s6 (l1 ++ l2)) ∧ Aside0 (1 ≤ gg))))
   case atStart => exact ⟨HB, .inl ⟨rfl, HO, ⟨Nat.le_refl _⟩⟩⟩
   case round =>
    clear hc0 hc1 HO HB
    obtain ⟨HB, h⟩ := hrel
    have hc0 := pw_cell_below HB.out HC0.out
    have hc1 := pw_cell_below HB.out HC1.out
    rcases h with ⟨rfl, HO, HG⟩ | ⟨rfl, HO, HG⟩ | ⟨rfl, HO, HG⟩
    ·go_wp2_with ((with_reducible refine gate_builtin (b := .append) (xs := #[.tmp 31, .tmp 32]) rfl ?_); at_builtin; refine Kd.R_append_rows k53 (w0 := w) w.heap.size rfl (.tmp 31) (.tmp 32) 29 53 (.agg #[.int .i64 0, .int .i64 0, .int .i64 0]) 24 rfl Try.underlying29 info53 rfl (by decide) (by omega) _ [] l1 _ _ _ (fun _ => True) (fun _ => False) rfl rfl HO.out (Kd.C_below HR1.out HB.out) (fun _ _ h => h) (fun _ h => h.elim) (fun _ _ => trivial) HB.out (below_size HB.out) (by simp; omega) ?_; intro v6 w6 ho hb hg hat; have HO2 := Aside0.mk ho; have HB2 := Aside0.mk hb; clear ho hb hg hat)
     go_roundg 2
     case measure => have := HG.out; omega
     case rel => exact ⟨HB2, .inr (.inl ⟨by simp, ⟨by have h_ := HO2.out; rw [List.nil_append] at h_; exact h_⟩, ⟨Nat.le_refl _⟩⟩)⟩
    ·go_wp2_with ((with_reducible refine gate_builtin (b := .append) (xs := #[.tmp 31, .tmp 32]) rfl ?_); at_builtin; refine Kd.R_append_rows k53 (w0 := w) w.heap.size rfl (.tmp 31) (.tmp 32) 29 53 (.agg #[.int .i64 0, .int .i64 0, .int .i64 0]) 24 rfl Try.underlying29 info53 rfl (by decide) (by omega) _ l1 l2 _ _ _ (fun _ => True) (fun _ => False) rfl rfl HO.out (Kd.C_below HR2.out HB.out) (fun _ _ h => h) (fun _ h => h.elim) (fun _ _ => trivial) HB.out (below_size HB.out) (by omega) ?_; intro v6 w6 ho hb hg hat; have HO2 := Aside0.mk ho; have HB2 := Aside0.mk hb; clear ho hb hg hat)
     go_roundg 1
     case measure => have := HG.out; omega
     case rel => exact ⟨HB2, .inr (.inr ⟨by simp, HO2, ⟨Nat.le_refl _⟩⟩)⟩
    ·go_wp2
     go_ret
     exact ⟨_, rfl, HO.out, HB.out⟩

end Go.Proofs.Ytkdijegkoajdgaa.Pa

namespace Go.Proofs.Ytkdijegkoajdgaa.Pa
open Go.RowKit Go.Proofs.YtkdijegkoajdgaaW.PrintWords Go.Proofs.YtkdijegkoajdgaaW.PrintLast Go.Proofs.YtkdijegkoajdgaaW.PrintMore
attribute [local go_sem] max2_int min2_int max_two min_two max_three min_three max_four min_four   -- for this text's walks alone
set_option linter.unusedVariables false
set_option linter.unusedSimpArgs false

/-! ### impl_NeededBounds: function 15 -/
def impl_NeededBounds.T8 : Bool × List (List Nat × List Nat) := (true, [([], []), ([0], [0]), ([], []), ([], []), ([3], [3]), ([], []), ([5], [5]), ([4, 6], [4, 6]), ([2, 7], [2, 7]), ([8], [8]), ([1, 9], [1, 9]), ([], []), ([11, 10, 9, 0, 1, 2, 3, 4, 5, 6, 7, 8, 9, 10, 11], [10, 11])])
def impl_NeededBounds.B8 : List Nat := [0, 1, 0, 0, 8, 0, 32, 120, 252, 508, 1023, 0, 4095]
theorem impl_NeededBounds.tab8 : rtab .any (opsOf Try.f15 8) = impl_NeededBounds.T8 := by kernel_rfl
theorem impl_NeededBounds.bits8 : waitsOk impl_NeededBounds.T8.2 impl_NeededBounds.B8 = true := by kernel_rfl
/-- The bounds from the x-th on, d of them: which are kept, and their numbers. -/
def nbLoop (k : Nat) (n : Int) (bs : List S53) : Nat → Nat → List S53 → List Int → Option (List Int)
 | 0, _, _, own => some own
 | d + 1, x, kept, own => (impl_FollowsFrom.f k n (kept ++ bs.drop (x + 1)) (rd_T53 bs (x : Int)).f0 (rd_T53 bs (x : Int)).f1 (rd_T53 bs (x : Int)).f2).bind fun q => match q with
  | true => nbLoop k n bs d (x + 1) kept own
  | false => nbLoop k n bs d (x + 1) (kept ++ [rd_T53 bs (x : Int)]) (own ++ [(x : Int)])
def impl_NeededBounds.f (k : Nat) (a0_0 : Int) (l0_1 : List (S53)) : Option (List Int × Bool) :=
 (impl_TightestBounds.f k a0_0 l0_1).bind fun t => match t.2 with
  | true => if l0_1.length ≤ 50 then (nbLoop k a0_0 l0_1 l0_1.length 0 [] []).bind fun own => some (own, true) else none
  | false => some ([], false)
set_option maxHeartbeats 8000000 in
set_option maxRecDepth 100000 in
theorem impl_NeededBounds.calls (k : Nat) (a0_0 : Int) (A0_1 : Option Addr) (c0_1 : Nat) (l0_1 : List (S53)) (r1 : List Int) (r2 : Bool) (w : World) (hr0_1 : Kd.C k53 w A0_1 l0_1.length l0_1) (hc0_1 : l0_1.length ≤ c0_1) (h : impl_NeededBounds.f k a0_0 l0_1 = some (r1, r2)) :
  Calls Try.prog 15 #[.agg #[.int .i64 a0_0, .slice A0_1 l0_1.length c0_1]] w fun e w' => ∃ v0_ : Value, e = .returned (.tuple #[v0_, .bool r2]) ∧ Kd.R (Kd.int .i64) 2 w' w.heap.size (fun _ => True) v0_ r1 ∧ Below w.heap.size w w' := by
 have hu := Try.underlying31
 have hu2 := Try.underlying53
 obtain ⟨⟨rows, tb⟩, ht, h⟩ := Option.bind_eq_some_iff.mp h
 dsimp only at h
 have HR := Aside0.mk hr0_1
 have HC := Aside0.mk hc0_1
 have HT := Aside0.mk ht
 clear hr0_1 hc0_1 ht
 cases tb with
 | false =>
  injection h with h
  injection h with e1 e2
  subst e1
  subst e2
  go_enter Try.func15, Try.ntmps15
  go_wp2_with (first | ((with_reducible refine gate_dst (N := 1) rfl ?_); refine box_event ?hg (N := 1) ?hd (cs := #[.int .i64 a0_0, .slice A0_1 l0_1.length c0_1]) (t := 31) ?hr ?_; (case hd => rfl); (case hg => rfl); (case hr => first | (go_simp; done) | (go_simp; rfl)); intro gb hg_ w1 hbox_ hb_; have HX_gb := Aside0.mk hbox_; have HB_w1 := Aside0.mk hb_; have HG_gb := Aside0.mk hg_; clear hbox_ hb_ hg_; have b0 := blk_cell HX_gb.out 0; have b1 := blk_cell HX_gb.out 1) | (go_at_call 27; refine (impl_TightestBounds.calls (hr0_1 := Kd.C_below HR.out HB_w1.out) (hc0_1 := HC.out) (h := HT.out)).mono ?_; rintro e w2 ⟨v0, rfl, ho, hb⟩; have HB2 := Aside0.mk hb; clear ho hb))
  go_ret2
  exact ⟨_, rfl, Kd.R_nil _ _ _ _ _, below_step HB_w1.out HB2.out⟩
 | true =>
  dsimp only at h
  by_cases hl : l0_1.length ≤ 50
  case neg => rw [if_neg hl] at h; exact absurd h (by simp)
  rw [if_pos hl] at h
  obtain ⟨own0, hown, h⟩ := Option.bind_eq_some_iff.mp h
  injection h with h
  injection h with e1 e2
  subst e1
  subst e2
  have HL := Aside0.mk hl
  have HN := Aside0.mk hown
  clear hl hown
  go_enter Try.func15, Try.ntmps15
  go_wp2_with (first | ((with_reducible refine gate_dst (N := 1) rfl ?_); refine box_event ?hg (N := 1) ?hd (cs := #[.int .i64 a0_0, .slice A0_1 l0_1.length c0_1]) (t := 31) ?hr ?_; (case hd => rfl); (case hg => rfl); (case hr => first | (go_simp; done) | (go_simp; rfl)); intro gb hg_ w1 hbox_ hb_; have HX_gb := Aside0.mk hbox_; have HB_w1 := Aside0.mk hb_; have HG_gb := Aside0.mk hg_; clear hbox_ hb_ hg_; have b0 := blk_cell HX_gb.out 0; have b1 := blk_cell HX_gb.out 1) | (go_at_call 27; refine (impl_TightestBounds.calls (hr0_1 := Kd.C_below HR.out HB_w1.out) (hc0_1 := HC.out) (h := HT.out)).mono ?_; rintro e w2 ⟨v0, rfl, ho, hb⟩; obtain ⟨Ar, cr, rfl⟩ := Kd.S_slice ho; have HB2 := Aside0.mk (below_step HB_w1.out hb); have HX2 := Aside0.mk (blk_below HX_gb.out hb); clear ho hb b0 b1; have b0 := blk_cell HX2.out 0; have b1 := blk_cell HX2.out 1) | ((with_reducible refine gate_dst (N := 18) rfl ?_); refine Kd.R_lit k53 _ 53 ?hg (N := 18) ?hd (xs := ([] : List S53)) (inner := []) (ok := fun _ => True) (okp := fun _ => True) ?hr ?hp (fun _ hk => hk) trivial (Below.refl _ _) (Nat.le_refl _) (by simp) ?_; (case hd => rfl); (case hg => rfl); (case hr => first | (go_simp; done) | (go_simp; rfl)); (case hp => exact (Reps.none _ _)); intro v18 w3 ho hb hg_ hnew_; have HK3 := Aside0.mk (Kd.R_lower ho (below_size HB2.out)); have HB3 := Aside0.mk (below_step HB2.out hb); have HX3 := Aside0.mk (blk_below HX2.out hb); clear hg_ hnew_ ho hb b0 b1) | ((with_reducible refine gate_dst (N := 19) rfl ?_); refine Kd.R_lit (Kd.int .i64) _ 2 ?hg (N := 19) ?hd (xs := ([] : List Int)) (inner := []) (ok := fun _ => True) (okp := fun _ => True) ?hr ?hp (fun _ hk => hk) trivial (Below.refl _ _) (Nat.le_refl _) (by simp) ?_; (case hd => rfl); (case hg => rfl); (case hr => first | (go_simp; done) | (go_simp; rfl)); (case hp => exact (Reps.none _ _)); intro v19 w4 ho hb hg_ hnew_; have HO4 := Aside0.mk (Kd.R_lower ho (below_size HB3.out)); have HK4 := Aside0.mk (Kd.R_below HK3.out hb); have HB4 := Aside0.mk (below_step HB3.out hb); have HX4 := Aside0.mk (blk_below HX3.out hb); clear hg_ hnew_ ho hb; have b0 := blk_cell HX4.out 0; have b1 := blk_cell HX4.out 1))
  clear b0 b1 HB2 HX2 HB3 HX3 HK3
  go_loopg [6, 7, 23] (l0_1.length + 1) (fun gg s6 s7 s23 wr => ∃ (x : Nat) (kept : List S53) (own : List Int), s23 = .int .i64 (x : Int) ∧ Aside0 (x ≤ l0_1.length ∧ l0_1.length - x < gg ∧ kept.length ≤ x ∧ own.length ≤ x) ∧ Aside0 (Below w.heap.size w wr) ∧ Aside0 (wr.heap[gb]? = some (.cells #[.int .i64 a0_0, .slice A0_1 l0_1.length c0_1] 31 (0, 0))) ∧ Aside0 (Kd.R k53 53 wr w.heap.size (fun _ => True) s6 kept) ∧ Aside0 (Kd.R (Kd.int .i64) 2 wr w.heap.size (fun _ => True) s7 own) ∧ Aside0 (nbLoop k a0_0 l0_1 (l0_1.length - x) x kept own = some own0))
  case atStart => exact ⟨0, [], [], rfl, ⟨by simp⟩, HB4, HX4, HK4, HO4, HN⟩
  case round =>
   clear HB4 HX4 HK4 HO4 HN
   obtain ⟨x, kept, own, rfl, HX, HB, HCB, HK, HO, HN⟩ := hrel
   obtain ⟨Ak, ck, rfl⟩ := Kd.R_slice HK.out
   generalize hxi : (x : Int) = xi
   by_cases hlt : x < l0_1.length
   ·have hlt' : xi < (l0_1.length : Int) := by omega
    have h0' : (0 : Int) ≤ xi := by omega
    obtain ⟨d, hd⟩ : ∃ d, l0_1.length - x = d + 1 := ⟨l0_1.length - x - 1, by omega⟩
    have hn := HN.out
    rw [hd] at hn
    unfold nbLoop at hn
    rw [hxi] at hn
    obtain ⟨q, hq, hn⟩ := Option.bind_eq_some_iff.mp hn
    have hr := Kd.C_below HR.out HB.out
    obtain ⟨ad, e, h0, h1, h2⟩ := at_T53 hr xi h0' hlt'
    obtain ⟨⟨f0, f1, f2⟩, hx⟩ : ∃ z : S53, z = rd_T53 l0_1 xi := ⟨_, rfl⟩
    rw [← hx] at h0 h1 h2 hq hn
    dsimp only at h0 h1 h2 hq
    cases e
    have hlen := hr.2.1
    have c1 : decide ((0 : Int) ≤ xi) = true := decide_eq_true h0'
    have c2 : decide (xi < (l0_1.length : Int)) = true := decide_eq_true hlt'
    have p0 := eq_true h0'
    have p1 := eq_true hlt'
    have HXE := Aside0.mk hx
    have HXI := Aside0.mk hxi
    have HLT := Aside0.mk hlt
    have hk1 := HX.out.2.2.1
    have hl50 := HL.out
    obtain ⟨i53, hi53, hzz⟩ := Option.map_eq_some_iff.1 info53
    simp only [Prod.mk.injEq] at hzz
    have hcut := cut_from (P := Try.prog) 29 53 .i64 Try.underlying29 hi53 3 hzz.2.1 (some ad) l0_1.length c0_1 (xi + 1) (by omega) (by omega)
    have e1 : (xi + 1).toNat = x + 1 := by omega
    rw [e1] at hcut
    have hr7 := Kd.C_drop (m := x + 1) HR.out (by omega) HC.out
    obtain ⟨l7, hl7⟩ : ∃ z, z = l0_1.drop (x + 1) := ⟨_, rfl⟩
    have e2 : l0_1.length - (x + 1) = l7.length := by rw [hl7, List.length_drop]
    rw [e2] at hcut
    rw [← hl7] at hr7 hq
    obtain ⟨c7, hc7⟩ : ∃ z, z = c0_1 - (x + 1) := ⟨_, rfl⟩
    rw [← hc7] at hcut
    obtain ⟨A7, hA7⟩ : ∃ z, z = (if c0_1 = x + 1 then some ad else (some ad).map (·.add ((x + 1) * 3))) := ⟨_, rfl⟩
    rw [← hA7] at hcut
    replace hr7 : Kd.C k53 w (if c0_1 = x + 1 then some ad else (some ad).map (·.add ((x + 1) * 3))) l7.length l7 := hr7
    rw [← hA7] at hr7
    have HCUT := Aside0.mk hcut
    have HR7 := Aside0.mk hr7
    have HSUM : Aside0 (IntKind.i64.wrap (xi + 1) = xi + 1) := ⟨by rw [i64_w]; unfold wrap64; omega⟩
    have HLE : Aside0 (kept.length ≤ 100 ∧ l7.length ≤ 100) := ⟨by omega⟩
    obtain ⟨lk, hlk⟩ : ∃ z, z = kept ++ l7 := ⟨_, rfl⟩
    rw [← hlk] at hq
    have HLK := Aside0.mk hlk
    have HF := Aside0.mk hq
    have HNN := Aside0.mk hn
    have HD := Aside0.mk hd
    clear hxi hlk hq hn hd hx hlt hcut hr7 e1 e2 hc7 hA7 hl7 hzz hr HN
    go_wp2
    clear h0 h1 h2 c1 c2 p0 p1 h0' hlt' hlen hk1 hl50
    have A0 : Aside0 (Below wr.heap.size wr (wr.alloc (.cells #[.int .i64 f0, .int .i64 f1, .int .i64 f2] 53 (0, 0))).drew) := ⟨below_drew1 (below_alloc (Below.refl _ _) _)⟩
    have H9 : Aside0 ((wr.alloc (.cells #[.int .i64 f0, .int .i64 f1, .int .i64 f2] 53 (0, 0))).drew.heap[wr.heap.size]? = some (.cells #[.int .i64 f0, .int .i64 f1, .int .i64 f2] 53 (0, 0))) := ⟨blk_drew (blk_new wr _)⟩
    replace HB := Aside0.mk (below_step HB.out A0.out)
    replace HCB := Aside0.mk (blk_below HCB.out A0.out)
    replace HK := Aside0.mk (Kd.R_below HK.out A0.out)
    replace HO := Aside0.mk (Kd.R_below HO.out A0.out)
    generalize wr.heap.size = g9 at H9 ⊢
    clear A0
    refine start_ (n := 13) (S := fun w' => True) (ds := []) #[false, false, false, false, false, false, false, false, false, false, false, false, false] (by kernel_rfl) rfl rfl trivial (fun hHeld => ?_)
    refine with_tabW impl_NeededBounds.tab8 impl_NeededBounds.bits8 (fun HT_ HW_ => ?_)
    generalize (wr.alloc (.cells #[.int .i64 f0, .int .i64 f1, .int .i64 f2] 53 (0, 0))).drew = wk at HB HCB HK HO H9 hHeld ⊢
    refine pure_ (i := 0) (N := some 28) (v := ?_) (a' := ?_) #[true, false, false, false, false, false, false, false, false, false, false, false, false] rfl rfl (any_of HT_.out (by kernel_rfl)) (fun _ _ _ h => h) (Or.inl ⟨by rfl, ?_⟩) ?_ ?_
    rotate_left
    ·intro w'
     go_simp
     with_reducible rfl
    rotate_left
    ·simp only [Act.put, List.setIfInBounds_toArray, List.set_cons_zero, List.set_cons_succ, i64_w, i32_w]
     rfl
    refine pure_ (i := 2) (N := some 30) (v := ?_) (a' := ?_) #[true, false, true, false, false, false, false, false, false, false, false, false, false] rfl rfl (any_of HT_.out (by kernel_rfl)) (fun _ _ _ h => h) (Or.inl ⟨by rfl, ?_⟩) ?_ ?_
    rotate_left
    ·intro w'
     go_simp
     with_reducible rfl
    rotate_left
    ·simp only [Act.put, List.setIfInBounds_toArray, List.set_cons_zero, List.set_cons_succ, i64_w, i32_w]
     rfl
    refine pure_ (i := 3) (N := some 31) (v := ?_) (a' := ?_) #[true, false, true, true, false, false, false, false, false, false, false, false, false] rfl rfl (any_of HT_.out (by kernel_rfl)) (fun _ _ _ h => h) (Or.inl ⟨by rfl, ?_⟩) ?_ ?_
    rotate_left
    ·intro w'
     go_simp
     with_reducible rfl
    rotate_left
    ·simp only [Act.put, List.setIfInBounds_toArray, List.set_cons_zero, List.set_cons_succ, i64_w, i32_w]
     rfl
    refine pure_ (i := 5) (N := some 33) (v := ?_) (a' := ?_) #[true, false, true, true, false, true, false, false, false, false, false, false, false] rfl rfl (any_of HT_.out (by kernel_rfl)) (fun _ _ _ h => h) (Or.inl ⟨by rfl, ?_⟩) ?_ ?_
    rotate_left
    ·intro w'
     go_simp
     with_reducible rfl
    rotate_left
    ·simp only [Act.put, List.setIfInBounds_toArray, List.set_cons_zero, List.set_cons_succ, i64_w, i32_w]
     rfl
    refine inv_at [1, 4, 6, 7, 8, 9, 10, 11, 12] (fun a0_ b a w' => ∃ (g8 : Nat) (A9 : Option Addr) (c9 : Nat) (g10 : Nat) (m8_ : Value) (m9_ : Value) (m10_ : Value) (m11_ : Value), a = putSel a0_ b [(1, 29, .int .i64 a0_0), (4, 32, .slice (some ad) l0_1.length c0_1), (6, 34, .int .i64 (xi + 1)), (7, 35, .slice A7 l7.length c7), (8, 36, m8_), (9, 37, m9_), (10, 38, m10_), (11, 10, m11_)] ∧ (Below w.heap.size w w') ∧ (w'.heap[gb]? = some (.cells #[.int .i64 a0_0, .slice (some ad) l0_1.length c0_1] 31 (0, 0))) ∧ (Kd.R k53 53 w' w.heap.size (fun _ => True) (.slice Ak kept.length ck) kept) ∧ (Kd.R (Kd.int .i64) 2 w' w.heap.size (fun _ => True) u7 own) ∧ (w'.heap[g9]? = some (.cells #[.int .i64 f0, .int .i64 f1, .int .i64 f2] 53 (0, 0))) ∧ (b 8 = true → b 9 = false → w'.heap[g8]? = some (.cells #[.slice Ak kept.length ck, .slice A7 l7.length c7] 29 (0, 0))) ∧ (b 9 = true → Kd.R k53 53 w' w.heap.size (fun _ => True) (.slice A9 lk.length c9) lk) ∧ (b 11 = true → b 12 = false → w'.heap[g10]? = some (.cells #[.int .i64 0, .slice none 0 0] 31 (0, 0))) ∧ (b 12 = true → w'.heap[g10]? = some (.cells #[.int .i64 a0_0, .slice A9 lk.length c9] 31 (0, 0))) ∧ (b 11 = true → w.heap.size ≤ g10) ∧ (b 11 = true → gb ≠ g10 ∧ g9 ≠ g10) ∧ (b 8 = true → (m8_ : Value) = .slice (some ⟨g8, 0, none⟩) 2 2) ∧ (b 9 = true → (m9_ : Value) = .slice A9 lk.length c9) ∧ (b 10 = true → (m10_ : Value) = .agg #[.int .i64 a0_0, .slice A9 lk.length c9]) ∧ (b 11 = true → (m11_ : Value) = .pointer (some ⟨g10, 0, none⟩))) HT_.out HW_.out (by kernel_rfl) (by kernel_rfl) ?_ ?_ ?_
    ·exact ⟨0, none, 0, 0, .bool false, .bool false, .bool false, .bool false, by simp only [putSel, Bool.false_eq_true, if_false], HB.out, HCB.out, HK.out, HO.out, H9.out, fun h_ => absurd h_ (by decide), fun h_ => absurd h_ (by decide), fun h_ => absurd h_ (by decide), fun h_ => absurd h_ (by decide), fun h_ => absurd h_ (by decide), fun h_ => absurd h_ (by decide), fun h_ => absurd h_ (by decide), fun h_ => absurd h_ (by decide), fun h_ => absurd h_ (by decide), fun h_ => absurd h_ (by decide)⟩
    ·skip
     clear H9 HB HCB HK HO
     refine steps_cons ?_ ?_
     ·rintro b a w' ⟨g8, A9, c9, g10, m8_, m9_, m10_, m11_, ha, Q_HB, Q_HCB, Q_HK, Q_HO, Q_H9, Q_S8, Q_R9, Q_B10a, Q_B10b, Q_GE10, Q_N10, Q_X8_, Q_X9_, Q_X10_, Q_X11_⟩ hb_ hon hoff
      refine ⟨_, rfl, fun K hK => ?_⟩
      have e28 : a.tmps[28]? = some (.pointer (some ⟨gb, 0, none⟩)) := by rw [ha]; exact (putSel_off rfl).trans rfl
      replace ha := Aside0.mk ha
      have HB := Aside0.mk Q_HB
      have HCB := Aside0.mk Q_HCB
      have HK := Aside0.mk Q_HK
      have HO := Aside0.mk Q_HO
      have H9 := Aside0.mk Q_H9
      have hc_ : w'.cell? ⟨gb, 0, none⟩ = some (.int .i64 a0_0) := (blk_cell HCB.out 0).trans rfl
      refine value_ (w1 := w') (v := .int .i64 a0_0) (by rfl) rfl ?_ ?_
      ·go_simp
       (try simp only [i64_w])
       try rfl
      refine hK.out _ _ ⟨g8, A9, c9, g10, m8_, m9_, m10_, m11_, (by rw [ha.out]; exact putSel_upk 0 hb_ rfl rfl rfl), Q_HB, Q_HCB, Q_HK, Q_HO, Q_H9, Q_S8, Q_R9, Q_B10a, fun h0_ => absurd ((hoff 12 (by kernel_rfl)).symm.trans h0_) (by decide), Q_GE10, Q_N10, Q_X8_, Q_X9_, fun h0_ => absurd ((hoff 10 (by kernel_rfl)).symm.trans h0_) (by decide), Q_X11_⟩
     refine steps_cons ?_ ?_
     ·rintro b a w' ⟨g8, A9, c9, g10, m8_, m9_, m10_, m11_, ha, Q_HB, Q_HCB, Q_HK, Q_HO, Q_H9, Q_S8, Q_R9, Q_B10a, Q_B10b, Q_GE10, Q_N10, Q_X8_, Q_X9_, Q_X10_, Q_X11_⟩ hb_ hon hoff
      refine ⟨_, rfl, fun K hK => ?_⟩
      have e31 : a.tmps[31]? = some (.pointer (some ⟨gb, 1, none⟩)) := by rw [ha]; exact (putSel_off rfl).trans rfl
      replace ha := Aside0.mk ha
      have HB := Aside0.mk Q_HB
      have HCB := Aside0.mk Q_HCB
      have HK := Aside0.mk Q_HK
      have HO := Aside0.mk Q_HO
      have H9 := Aside0.mk Q_H9
      have hc_ : w'.cell? ⟨gb, 1, none⟩ = some (.slice (some ad) l0_1.length c0_1) := (blk_cell HCB.out 1).trans rfl
      refine value_ (w1 := w') (v := .slice (some ad) l0_1.length c0_1) (by rfl) rfl ?_ ?_
      ·go_simp
       (try simp only [i64_w])
       try rfl
      refine hK.out _ _ ⟨g8, A9, c9, g10, m8_, m9_, m10_, m11_, (by rw [ha.out]; exact putSel_upk 1 hb_ rfl rfl rfl), Q_HB, Q_HCB, Q_HK, Q_HO, Q_H9, fun h0_ _ => absurd ((hoff 8 (by kernel_rfl)).symm.trans h0_) (by decide), fun h0_ => absurd ((hoff 9 (by kernel_rfl)).symm.trans h0_) (by decide), Q_B10a, fun h0_ => absurd ((hoff 12 (by kernel_rfl)).symm.trans h0_) (by decide), Q_GE10, Q_N10, fun h0_ => absurd ((hoff 8 (by kernel_rfl)).symm.trans h0_) (by decide), fun h0_ => absurd ((hoff 9 (by kernel_rfl)).symm.trans h0_) (by decide), fun h0_ => absurd ((hoff 10 (by kernel_rfl)).symm.trans h0_) (by decide), Q_X11_⟩
     refine steps_cons ?_ ?_
     ·rintro b a w' ⟨g8, A9, c9, g10, m8_, m9_, m10_, m11_, ha, Q_HB, Q_HCB, Q_HK, Q_HO, Q_H9, Q_S8, Q_R9, Q_B10a, Q_B10b, Q_GE10, Q_N10, Q_X8_, Q_X9_, Q_X10_, Q_X11_⟩ hb_ hon hoff
      refine ⟨_, rfl, fun K hK => ?_⟩
      have e33 : a.tmps[33]? = some (.int .i64 xi) := by rw [ha]; exact (putSel_off rfl).trans rfl
      replace ha := Aside0.mk ha
      have HB := Aside0.mk Q_HB
      have HCB := Aside0.mk Q_HCB
      have HK := Aside0.mk Q_HK
      have HO := Aside0.mk Q_HO
      have H9 := Aside0.mk Q_H9
      have hs_ := HSUM.out
      refine value_ (w1 := w') (v := .int .i64 (xi + 1)) (by rfl) rfl ?_ ?_
      ·go_simp
       (try simp only [i64_w])
       try rfl
      refine hK.out _ _ ⟨g8, A9, c9, g10, m8_, m9_, m10_, m11_, (by rw [ha.out]; exact putSel_upk 2 hb_ rfl rfl rfl), Q_HB, Q_HCB, Q_HK, Q_HO, Q_H9, fun h0_ _ => absurd ((hoff 8 (by kernel_rfl)).symm.trans h0_) (by decide), fun h0_ => absurd ((hoff 9 (by kernel_rfl)).symm.trans h0_) (by decide), Q_B10a, fun h0_ => absurd ((hoff 12 (by kernel_rfl)).symm.trans h0_) (by decide), Q_GE10, Q_N10, fun h0_ => absurd ((hoff 8 (by kernel_rfl)).symm.trans h0_) (by decide), fun h0_ => absurd ((hoff 9 (by kernel_rfl)).symm.trans h0_) (by decide), fun h0_ => absurd ((hoff 10 (by kernel_rfl)).symm.trans h0_) (by decide), Q_X11_⟩
     refine steps_cons ?_ ?_
     ·rintro b a w' ⟨g8, A9, c9, g10, m8_, m9_, m10_, m11_, ha, Q_HB, Q_HCB, Q_HK, Q_HO, Q_H9, Q_S8, Q_R9, Q_B10a, Q_B10b, Q_GE10, Q_N10, Q_X8_, Q_X9_, Q_X10_, Q_X11_⟩ hb_ hon hoff
      refine ⟨_, rfl, fun K hK => ?_⟩
      have e32 : a.tmps[32]? = some (.slice (some ad) l0_1.length c0_1) := by rw [ha]; exact putSel_on (e := (4, 32, .slice (some ad) l0_1.length c0_1)) 1 rfl rfl (hon 4 (by kernel_rfl)) rfl
      have e34 : a.tmps[34]? = some (.int .i64 (xi + 1)) := by rw [ha]; exact putSel_on (e := (6, 34, .int .i64 (xi + 1))) 2 rfl rfl (hon 6 (by kernel_rfl)) rfl
      replace ha := Aside0.mk ha
      have HB := Aside0.mk Q_HB
      have HCB := Aside0.mk Q_HCB
      have HK := Aside0.mk Q_HK
      have HO := Aside0.mk Q_HO
      have H9 := Aside0.mk Q_H9
      have hs_ := HCUT.out
      refine value_ (w1 := w') (v := .slice A7 l7.length c7) (by rfl) rfl ?_ ?_
      ·go_simp
       (try simp only [i64_w])
       try rfl
      refine hK.out _ _ ⟨g8, A9, c9, g10, m8_, m9_, m10_, m11_, (by rw [ha.out]; exact putSel_upk 3 hb_ rfl rfl rfl), Q_HB, Q_HCB, Q_HK, Q_HO, Q_H9, fun h0_ _ => absurd ((hoff 8 (by kernel_rfl)).symm.trans h0_) (by decide), fun h0_ => absurd ((hoff 9 (by kernel_rfl)).symm.trans h0_) (by decide), Q_B10a, fun h0_ => absurd ((hoff 12 (by kernel_rfl)).symm.trans h0_) (by decide), Q_GE10, Q_N10, fun h0_ => absurd ((hoff 8 (by kernel_rfl)).symm.trans h0_) (by decide), fun h0_ => absurd ((hoff 9 (by kernel_rfl)).symm.trans h0_) (by decide), fun h0_ => absurd ((hoff 10 (by kernel_rfl)).symm.trans h0_) (by decide), Q_X11_⟩
     refine steps_cons ?_ ?_
     ·rintro b a w' ⟨g8, A9, c9, g10, m8_, m9_, m10_, m11_, ha, Q_HB, Q_HCB, Q_HK, Q_HO, Q_H9, Q_S8, Q_R9, Q_B10a, Q_B10b, Q_GE10, Q_N10, Q_X8_, Q_X9_, Q_X10_, Q_X11_⟩ hb_ hon hoff
      refine ⟨_, rfl, fun K hK => ?_⟩
      have e30 : a.tmps[30]? = some (.slice Ak kept.length ck) := by rw [ha]; exact (putSel_off rfl).trans rfl
      have e35 : a.tmps[35]? = some (.slice A7 l7.length c7) := by rw [ha]; exact putSel_on (e := (7, 35, .slice A7 l7.length c7)) 3 rfl rfl (hon 7 (by kernel_rfl)) rfl
      replace ha := Aside0.mk ha
      have HB := Aside0.mk Q_HB
      have HCB := Aside0.mk Q_HCB
      have HK := Aside0.mk Q_HK
      have HO := Aside0.mk Q_HO
      have H9 := Aside0.mk Q_H9
      refine event_step (by rfl) (w1 := w'.alloc (.cells #[.slice Ak kept.length ck, .slice A7 l7.length c7] 29 (0, 0))) (v := .slice (some ⟨w'.heap.size, 0, none⟩) 2 2) ?_ ?_
      ·first | (go_simp; done) | (go_simp; rfl)
      have hb : Below w'.heap.size w' (w'.alloc (.cells #[.slice Ak kept.length ck, .slice A7 l7.length c7] 29 (0, 0))) := below_alloc (Below.refl _ _) _
      have hnew := blk_new w' (.cells #[.slice Ak kept.length ck, .slice A7 l7.length c7] 29 (0, 0))
      refine hK.out _ _ ⟨w'.heap.size, A9, c9, g10, (.slice (some ⟨w'.heap.size, 0, none⟩) 2 2), m9_, m10_, m11_, (by rw [ha.out]; exact putSel_upk 4 hb_ rfl rfl rfl), below_step HB.out hb, blk_below HCB.out hb, Kd.R_below HK.out hb, Kd.R_below HO.out hb, blk_below H9.out hb, fun _ _ => hnew, fun h0_ => absurd ((hoff 9 (by kernel_rfl)).symm.trans h0_) (by decide), fun h0_ h1_ => blk_below (Q_B10a h0_ h1_) hb, fun h0_ => absurd ((hoff 12 (by kernel_rfl)).symm.trans h0_) (by decide), Q_GE10, Q_N10, fun _ => rfl, fun h0_ => absurd ((hoff 9 (by kernel_rfl)).symm.trans h0_) (by decide), fun h0_ => absurd ((hoff 10 (by kernel_rfl)).symm.trans h0_) (by decide), Q_X11_⟩
     refine steps_cons ?_ ?_
     ·rintro b a w' ⟨g8, A9, c9, g10, m8_, m9_, m10_, m11_, ha, Q_HB, Q_HCB, Q_HK, Q_HO, Q_H9, Q_S8, Q_R9, Q_B10a, Q_B10b, Q_GE10, Q_N10, Q_X8_, Q_X9_, Q_X10_, Q_X11_⟩ hb_ hon hoff
      refine ⟨_, rfl, fun K hK => ?_⟩
      have e36 : a.tmps[36]? = some (m8_) := by rw [ha]; exact putSel_on (e := (8, 36, m8_)) 4 rfl rfl (hon 8 (by kernel_rfl)) rfl
      rw [Q_X8_ (hon 8 (by kernel_rfl))] at e36
      replace ha := Aside0.mk ha
      have HB := Aside0.mk Q_HB
      have HCB := Aside0.mk Q_HCB
      have HK := Aside0.mk Q_HK
      have HO := Aside0.mk Q_HO
      have H9 := Aside0.mk Q_H9
      have S8 := Aside0.mk (Q_S8 (hon 8 (by kernel_rfl)) hb_)
      refine goes_ Try.func28 (by kernel_rfl) rfl #[.slice (some ⟨g8, 0, none⟩) 2 2] (by rfl) rfl rfl (by first | (simp only [List.map_toArray, List.map_cons, List.map_nil, Act.eval, Array.getD_eq_getD_getElem?, Option.getD_some, e36]; done) | (simp only [List.map_toArray, List.map_cons, List.map_nil, Act.eval, Array.getD_eq_getD_getElem?, Option.getD_some, e36]; rfl)) ?_
      refine (concat.calls g8 Ak A7 ck c7 kept l7 w' S8.out (Kd.R_reads' HK.out).2.2 (Kd.C_below HR7.out HB.out) HLE.out.1 HLE.out.2).mono ?_
      rintro e w5 ⟨v9, rfl, ho, hb⟩
      rw [← HLK.out] at ho
      obtain ⟨A9', c9', rfl⟩ := Kd.R_slice ho
      refine ⟨_, rfl, ?_⟩
      refine hK.out _ _ ⟨g8, A9', c9', g10, m8_, (.slice A9' lk.length c9'), m10_, m11_, (by rw [ha.out]; exact putSel_upk 5 hb_ rfl rfl rfl), below_step HB.out hb, blk_below HCB.out hb, Kd.R_below HK.out hb, Kd.R_below HO.out hb, blk_below H9.out hb, fun _ h1_ => absurd ((up_self b 9).symm.trans h1_) (by decide), fun _ => Kd.R_lower ho (below_size HB.out), fun h0_ h1_ => blk_below (Q_B10a h0_ h1_) hb, fun h0_ => absurd ((hoff 12 (by kernel_rfl)).symm.trans h0_) (by decide), Q_GE10, Q_N10, Q_X8_, fun _ => rfl, fun h0_ => absurd ((hoff 10 (by kernel_rfl)).symm.trans h0_) (by decide), Q_X11_⟩
     refine steps_cons ?_ ?_
     ·rintro b a w' ⟨g8, A9, c9, g10, m8_, m9_, m10_, m11_, ha, Q_HB, Q_HCB, Q_HK, Q_HO, Q_H9, Q_S8, Q_R9, Q_B10a, Q_B10b, Q_GE10, Q_N10, Q_X8_, Q_X9_, Q_X10_, Q_X11_⟩ hb_ hon hoff
      refine ⟨_, rfl, fun K hK => ?_⟩
      have e29 : a.tmps[29]? = some (.int .i64 a0_0) := by rw [ha]; exact putSel_on (e := (1, 29, .int .i64 a0_0)) 0 rfl rfl (hon 1 (by kernel_rfl)) rfl
      have e37 : a.tmps[37]? = some (m9_) := by rw [ha]; exact putSel_on (e := (9, 37, m9_)) 5 rfl rfl (hon 9 (by kernel_rfl)) rfl
      rw [Q_X9_ (hon 9 (by kernel_rfl))] at e37
      replace ha := Aside0.mk ha
      have HB := Aside0.mk Q_HB
      have HCB := Aside0.mk Q_HCB
      have HK := Aside0.mk Q_HK
      have HO := Aside0.mk Q_HO
      have H9 := Aside0.mk Q_H9
      have R9 := Aside0.mk (Q_R9 (hon 9 (by kernel_rfl)))
      refine value_ (w1 := w') (v := .agg #[.int .i64 a0_0, .slice A9 lk.length c9]) (by rfl) rfl ?_ ?_
      ·go_simp
       (try simp only [i64_w])
       try rfl
      refine hK.out _ _ ⟨g8, A9, c9, g10, m8_, m9_, (.agg #[.int .i64 a0_0, .slice A9 lk.length c9]), m11_, (by rw [ha.out]; exact putSel_upk 6 hb_ rfl rfl rfl), Q_HB, Q_HCB, Q_HK, Q_HO, Q_H9, fun _ h1_ => absurd ((hon 9 (by kernel_rfl)).symm.trans h1_) (by decide), Q_R9, Q_B10a, fun h0_ => absurd ((hoff 12 (by kernel_rfl)).symm.trans h0_) (by decide), Q_GE10, Q_N10, Q_X8_, Q_X9_, fun _ => rfl, Q_X11_⟩
     refine steps_cons ?_ ?_
     ·rintro b a w' ⟨g8, A9, c9, g10, m8_, m9_, m10_, m11_, ha, Q_HB, Q_HCB, Q_HK, Q_HO, Q_H9, Q_S8, Q_R9, Q_B10a, Q_B10b, Q_GE10, Q_N10, Q_X8_, Q_X9_, Q_X10_, Q_X11_⟩ hb_ hon hoff
      refine ⟨_, rfl, fun K hK => ?_⟩
      replace ha := Aside0.mk ha
      have HB := Aside0.mk Q_HB
      have HCB := Aside0.mk Q_HCB
      have HK := Aside0.mk Q_HK
      have HO := Aside0.mk Q_HO
      have H9 := Aside0.mk Q_H9
      refine box_step (by rfl) (N := 10) rfl (cs := #[.int .i64 0, .slice none 0 0]) (t := 31) ?_ ?_
      ·first | (go_simp; done) | (go_simp; rfl)
      intro gn hgn w5 hbox hb
      refine hK.out _ _ ⟨g8, A9, c9, gn, m8_, m9_, m10_, (.pointer (some ⟨gn, 0, none⟩)), (by rw [ha.out]; exact putSel_upk 7 hb_ rfl rfl rfl), below_step HB.out hb, blk_below HCB.out hb, Kd.R_below HK.out hb, Kd.R_below HO.out hb, blk_below H9.out hb, fun h0_ h1_ => blk_below (Q_S8 h0_ h1_) hb, fun h0_ => Kd.R_below (Q_R9 h0_) hb, fun _ _ => hbox, fun h0_ => absurd ((hoff 12 (by kernel_rfl)).symm.trans h0_) (by decide), fun _ => by rw [hgn]; exact below_size HB.out, fun _ => by rw [hgn]; exact ⟨Nat.ne_of_lt (blk_lt HCB.out), Nat.ne_of_lt (blk_lt H9.out)⟩, Q_X8_, Q_X9_, Q_X10_, fun _ => rfl⟩
     refine steps_cons ?_ ?_
     ·rintro b a w' ⟨g8, A9, c9, g10, m8_, m9_, m10_, m11_, ha, Q_HB, Q_HCB, Q_HK, Q_HO, Q_H9, Q_S8, Q_R9, Q_B10a, Q_B10b, Q_GE10, Q_N10, Q_X8_, Q_X9_, Q_X10_, Q_X11_⟩ hb_ hon hoff
      refine ⟨_, rfl, fun K hK => ?_⟩
      have e10 : a.tmps[10]? = some (m11_) := by rw [ha]; exact putSel_on (e := (11, 10, m11_)) 7 rfl rfl (hon 11 (by kernel_rfl)) rfl
      rw [Q_X11_ (hon 11 (by kernel_rfl))] at e10
      have e38 : a.tmps[38]? = some (m10_) := by rw [ha]; exact putSel_on (e := (10, 38, m10_)) 6 rfl rfl (hon 10 (by kernel_rfl)) rfl
      rw [Q_X10_ (hon 10 (by kernel_rfl))] at e38
      replace ha := Aside0.mk ha
      have HB := Aside0.mk Q_HB
      have HCB := Aside0.mk Q_HCB
      have HK := Aside0.mk Q_HK
      have HO := Aside0.mk Q_HO
      have H9 := Aside0.mk Q_H9
      have R9 := Aside0.mk (Q_R9 (hon 9 (by kernel_rfl)))
      have B10a := Aside0.mk (Q_B10a (hon 11 (by kernel_rfl)) hb_)
      have GE10 := Aside0.mk (Q_GE10 (hon 11 (by kernel_rfl)))
      have N10 := Aside0.mk (Q_N10 (hon 11 (by kernel_rfl)))
      have hz0_ := blk_cell B10a.out 0
      have hz1_ := blk_cell B10a.out 1
      have hf0_ := blk_frozen B10a.out 0
      have hf1_ := blk_frozen B10a.out 1
      refine skip_ (w1 := (w'.setCell ⟨g10, 0, none⟩ (.int .i64 a0_0)).setCell ⟨g10, 1, none⟩ (.slice A9 lk.length c9)) (by rfl) rfl ?_ ?_
      ·go_simp
      refine hK.out _ _ ⟨g8, A9, c9, g10, m8_, m9_, m10_, m11_, (by rw [ha.out]; exact putSel_none (v := undef) rfl), below_set (below_set HB.out GE10.out) GE10.out, blk_far (blk_far HCB.out (p := ⟨g10, 0, none⟩) N10.out.1 (.int .i64 a0_0)) (p := ⟨g10, 1, none⟩) N10.out.1 (.slice A9 lk.length c9), Kd.R_set (Kd.R_set HK.out B10a.out (by decide) 0 (.int .i64 a0_0)) (blk_put B10a.out 0 (.int .i64 a0_0) rfl) (by decide) 1 (.slice A9 lk.length c9), Kd.R_set (Kd.R_set HO.out B10a.out (by intro q hq; have hq : q ∈ [2] := hq; simp at hq; omega) 0 (.int .i64 a0_0)) (blk_put B10a.out 0 (.int .i64 a0_0) rfl) (by intro q hq; have hq : q ∈ [2] := hq; simp at hq; omega) 1 (.slice A9 lk.length c9), blk_far (blk_far H9.out (p := ⟨g10, 0, none⟩) N10.out.2 (.int .i64 a0_0)) (p := ⟨g10, 1, none⟩) N10.out.2 (.slice A9 lk.length c9), fun _ h1_ => absurd ((hon 9 (by kernel_rfl)).symm.trans h1_) (by decide), fun _ => Kd.R_set (Kd.R_set R9.out B10a.out (by decide) 0 (.int .i64 a0_0)) (blk_put B10a.out 0 (.int .i64 a0_0) rfl) (by decide) 1 (.slice A9 lk.length c9), fun _ h1_ => absurd ((up_self b 12).symm.trans h1_) (by decide), fun _ => blk_put (blk_put B10a.out 0 (.int .i64 a0_0) rfl) 1 (.slice A9 lk.length c9) rfl, Q_GE10, Q_N10, Q_X8_, Q_X9_, Q_X10_, Q_X11_⟩
     exact steps_nil
    rintro b a w15 hall ⟨g8, A9, c9, g10, m8_, m9_, m10_, m11_, ha, Q_HB, Q_HCB, Q_HK, Q_HO, Q_H9, Q_S8, Q_R9, Q_B10a, Q_B10b, Q_GE10, Q_N10, Q_X8_, Q_X9_, Q_X10_, Q_X11_⟩
    clear H9 HB HCB HK HO
    have hb1_ := hall 1 (by kernel_rfl)
    have hb4_ := hall 4 (by kernel_rfl)
    have hb6_ := hall 6 (by kernel_rfl)
    have hb7_ := hall 7 (by kernel_rfl)
    have hb8_ := hall 8 (by kernel_rfl)
    have hb9_ := hall 9 (by kernel_rfl)
    have hb10_ := hall 10 (by kernel_rfl)
    have hb11_ := hall 11 (by kernel_rfl)
    have hb12_ := hall 12 (by kernel_rfl)
    subst ha
    obtain rfl := Q_X8_ hb8_
    obtain rfl := Q_X9_ hb9_
    obtain rfl := Q_X10_ hb10_
    obtain rfl := Q_X11_ hb11_
    simp only [putSel, hb1_, hb4_, hb6_, hb7_, hb8_, hb9_, hb10_, hb11_, hb12_, if_true, Act.put, List.setIfInBounds_toArray, List.set_cons_zero, List.set_cons_succ]
    have HB := Aside0.mk Q_HB
    clear Q_HB
    have HCB := Aside0.mk Q_HCB
    clear Q_HCB
    have HK := Aside0.mk Q_HK
    clear Q_HK
    have HO := Aside0.mk Q_HO
    clear Q_HO
    have H9 := Aside0.mk Q_H9
    clear Q_H9
    clear Q_S8
    have R9 := Aside0.mk (Q_R9 hb9_)
    clear Q_R9
    clear Q_B10a
    have B10b := Aside0.mk (Q_B10b hb12_)
    clear Q_B10b
    have GE10 := Aside0.mk (Q_GE10 hb11_)
    clear Q_GE10
    have N10 := Aside0.mk (Q_N10 hb11_)
    clear Q_N10
    clear hall hb1_ hb4_ hb6_ hb7_ hb8_ hb9_ hb10_ hb11_ hb12_
    have k0 := blk_cell B10b.out 0
    have k1 := blk_cell B10b.out 1
    have m0 := blk_cell H9.out 0
    have m1 := blk_cell H9.out 1
    have m2 := blk_cell H9.out 2
    cases q with
    | true =>
     go_wp2_with (go_at_call 29; refine (impl_FollowsFrom.calls (hr0_1 := (Kd.R_reads' R9.out).2.2) (hc0_1 := (Kd.R_reads' R9.out).2.1) (h := HF.out)).mono ?_; rintro e w16 ⟨rfl, hb⟩; have HB16 := Aside0.mk hb; clear hb k0 k1 m0 m1 m2)
     have hx1 := HX.out
     have hxi := HXI.out
     have hlt := HLT.out
     have hl50 := HL.out
     go_roundg (l0_1.length - x)
     case measure => omega
     case rel =>
      refine ⟨x + 1, kept, own, by first | (rw [show wrap64 (xi + 1) = ((x + 1 : Nat) : Int) from by unfold wrap64; omega]) | (rw [i64_w, show wrap64 (xi + 1) = ((x + 1 : Nat) : Int) from by unfold wrap64; omega]) | (rw [show xi + 1 = ((x + 1 : Nat) : Int) from by omega]), ⟨by omega⟩, ⟨below_step HB.out HB16.out⟩, ⟨blk_below HCB.out HB16.out⟩, ⟨Kd.R_below HK.out HB16.out⟩, ⟨Kd.R_below HO.out HB16.out⟩, ⟨?_⟩⟩
      have hd := HD.out
      rw [show l0_1.length - (x + 1) = d by omega]
      exact HNN.out
    | false =>
     have hx1 := HX.out
     have hxi := HXI.out
     have hlt := HLT.out
     have hl50 := HL.out
     go_wp2_with (first | (go_at_call 29; refine (impl_FollowsFrom.calls (hr0_1 := (Kd.R_reads' R9.out).2.2) (hc0_1 := (Kd.R_reads' R9.out).2.1) (h := HF.out)).mono ?_; rintro e w16 ⟨rfl, hb⟩; have HB16 := Aside0.mk (below_step HB.out hb); have HCB16 := Aside0.mk (blk_below HCB.out hb); have HK16 := Aside0.mk (Kd.R_below HK.out hb); have HO16 := Aside0.mk (Kd.R_below HO.out hb); have H916 := Aside0.mk (blk_below H9.out hb); clear hb k0 k1 m0 m1 m2; have m0 := blk_cell H916.out 0; have m1 := blk_cell H916.out 1; have m2 := blk_cell H916.out 2) | ((with_reducible refine gate_builtin (b := .append) (xs := #[.tmp 43, .tmp 45]) rfl ?_); at_builtin; refine Kd.R_append k53 (w0 := w) w.heap.size rfl (.tmp 43) (.tmp 45) 29 53 (.agg #[(.int .i64 0), (.int .i64 0), (.int .i64 0)]) 24 rfl Try.underlying29 info53 rfl (by decide) (by omega) _ kept (⟨f0, f1, f2⟩ : S53) [.int .i64 f0, .int .i64 f1, .int .i64 f2] (fun _ => True) (fun _ => False) rfl rfl (k53_mkM _ _ _ (⟨f0, f1, f2⟩ : S53)) (fun _ hk => hk.elim) (fun _ _ => trivial) HK16.out HB16.out (below_size HB16.out) (by omega) ?_; intro v17 w17 ho hb hg hat; have HK17 := Aside0.mk ho; have HB17 := Aside0.mk hb; have HO17 := Aside0.mk (Kd.R_over' HO16.out (Kd.R_typed HK16.out) (by intro q hq; have hq : q ∈ [2] := hq; simp at hq; omega) hg); have HCB17 := Aside0.mk (blk_grown HCB16.out hg (Kd.R_ne HK16.out HCB16.out (by decide))); clear ho hb hg hat m0 m1 m2) | ((with_reducible refine gate_builtin (b := .append) (xs := #[.tmp 47, .tmp 49]) rfl ?_); at_builtin; refine Kd.R_append (Kd.int .i64) (w0 := w) w.heap.size rfl (.tmp 47) (.tmp 49) 26 2 (.int .i64 0) 8 rfl Try.underlying26 info2 rfl (by decide) (by omega) _ own xi [.int .i64 xi] (fun _ => True) (fun _ => False) rfl rfl rfl (fun _ hk => hk.elim) (fun _ _ => trivial) HO17.out HB17.out (below_size HB17.out) (by omega) ?_; intro v18 w18 ho hb hg hat; have HO18 := Aside0.mk ho; have HB18 := Aside0.mk hb; have HK18 := Aside0.mk (Kd.R_over' HK17.out (Kd.R_typed HO17.out) (by decide) hg); have HCB18 := Aside0.mk (blk_grown HCB17.out hg (Kd.R_ne HO17.out HCB17.out (by decide))); clear ho hb hg hat))
     go_roundg (l0_1.length - x)
     case measure => omega
     case rel =>
      refine ⟨x + 1, _, _, by first | (rw [show wrap64 (xi + 1) = ((x + 1 : Nat) : Int) from by unfold wrap64; omega]) | (rw [i64_w, show wrap64 (xi + 1) = ((x + 1 : Nat) : Int) from by unfold wrap64; omega]) | (rw [show xi + 1 = ((x + 1 : Nat) : Int) from by omega]), ⟨by simp; omega⟩, HB18, HCB18, HK18, HO18, ⟨?_⟩⟩
      have hd := HD.out
      rw [show l0_1.length - (x + 1) = d by omega]
      exact HNN.out
   ·have hlt' : ¬ (xi < (l0_1.length : Int)) := by omega
    have c2 : decide (xi < (l0_1.length : Int)) = false := decide_eq_false hlt'
    have p2 := eq_false hlt'
    have hn := HN.out
    rw [show l0_1.length - x = 0 by omega] at hn
    injection hn with hn
    subst hn
    clear HN hlt hxi
    go_wp2
    go_ret2
    exact ⟨_, rfl, HO.out, HB.out⟩

end Go.Proofs.Ytkdijegkoajdgaa.Pa

namespace Go.Proofs.Ytkdijegkoajdgaa.Pa
open Go.RowKit Go.Proofs.YtkdijegkoajdgaaW.PrintWords Go.Proofs.YtkdijegkoajdgaaW.PrintLast Go.Proofs.YtkdijegkoajdgaaW.PrintMore
attribute [local go_sem] max2_int min2_int max_two min_two max_three min_three max_four min_four   -- for this text's walks alone
set_option linter.unusedVariables false
set_option linter.unusedSimpArgs false

/-! ### spec_l00Own: function 25 -/
def spec_l00Own.f (l0 : List Int) : Option (List Int) := (some (([] : List Int) : List Int)).bind fun y107 => (if y107.length + l0.length < 17592186044416 then (some (y107 ++ l0)) else (none))
set_option maxHeartbeats 8000000 in
set_option maxRecDepth 100000 in
theorem spec_l00Own.calls (A0 : Option Addr) (c0 : Nat) (l0 : List Int) (r : List Int) (w : World) (hr0 : Kd.C (Kd.int .i64) w A0 l0.length l0) (hc0 : l0.length ≤ c0) (h : spec_l00Own.f l0 = some r) :
  Calls Try.prog 25 #[.slice A0 l0.length c0] w fun e w' => ∃ v0_ : Value, e = .returned (v0_) ∧ Kd.R (Kd.int .i64) 2 w' w.heap.size (fun _ => True) v0_ r ∧ Below w.heap.size w w' := by
 have HR0 := Aside0.mk hr0
 have HC0 := Aside0.mk hc0
 clear hr0 hc0
 have HB := Aside0.mk (Below.refl w.heap.size w)
 have H : ((some (([] : List Int) : List Int)).bind fun y107 => (if y107.length + l0.length < 17592186044416 then (some (y107 ++ l0)) else (none))) = some r := h
 clear h
 obtain ⟨y107, hy107⟩ : ∃ y_ : List Int, y_ = (([] : List Int)) := ⟨_, rfl⟩
 replace H : (if y107.length + l0.length < 17592186044416 then (some (y107 ++ l0)) else (none)) = some r := by first | (rw [hy107]; with_reducible exact H) | (have H2_ := (Option.bind_some _ _).symm.trans H; rw [hy107]; with_reducible exact H2_) | (have H2_ := (Option.bind_some _ _).symm.trans H; with_reducible exact H2_) | with_reducible exact H | (rw [hy107]; exact H) | exact H
 have Ny107 := Aside0.mk hy107
 clear hy107
 by_cases c2 : y107.length + l0.length < 17592186044416
 ·rw [if_pos c2] at H
  have LMc2 := Aside0.mk c2
  clear c2
  obtain ⟨y110, hy110⟩ : ∃ y_ : List Int, y_ = (y107 ++ l0) := ⟨_, rfl⟩
  replace H : (some y110) = some r := by first | (rw [hy110]; with_reducible exact H) | (have H2_ := (Option.bind_some _ _).symm.trans H; rw [hy110]; with_reducible exact H2_) | (have H2_ := (Option.bind_some _ _).symm.trans H; with_reducible exact H2_) | with_reducible exact H | (rw [hy110]; exact H) | exact H
  have Ny110 := Aside0.mk hy110
  clear hy110
  obtain rfl := Option.some.inj H
  go_enter Try.func25, Try.ntmps25
  go_wp2_with (first | ((with_reducible refine gate_dst (N := 3) rfl ?_); refine Kd.R_lit (Kd.int .i64) _ 2 ?hg (N := 3) ?hd (xs := ([] : List Int)) (inner := []) (ok := fun _ => True) (okp := fun _ => True) ?hr ?hp (fun _ hk => hk) trivial (Below.refl _ _) (Nat.le_refl _) (by simp) ?_; (case hd => rfl); (case hg => rfl); (case hr => first | (go_simp; done) | (go_simp; rfl)); (case hp => exact (Reps.none _ _)); intro v108 w3 ho4 hb hg_ hnew_; clear hg_ hnew_; (first | rw [← Ny107.out] at ho4 | (simp only [Int.reduceToNat] at ho4; rw [← Ny107.out] at ho4)); have n0_ := Aside0.mk (Kd.R_lower ho4 (below_size (by repeat (first | (with_reducible first | exact HB.out | apply below_alloc | apply pw_below_drewN | apply below_drew1) | exact HB.out)))); have n1_ := Aside0.mk (below_step (by repeat (first | (with_reducible first | exact HB.out | apply below_alloc | apply pw_below_drewN | apply below_drew1) | exact HB.out)) hb); clear HB; have HO109 := n0_; have HB := n1_; clear n0_ n1_; clear hb ho4) | ((with_reducible refine gate_builtin (b := .append) (xs := #[.tmp 3, .tmp 4]) rfl ?_); at_builtin; refine Kd.R_append_rows (Kd.int .i64) (w0 := w) w.heap.size rfl (.tmp 3) (.tmp 4) 26 2 (.int .i64 0) 8 rfl Try.underlying26 info2 rfl (by decide) (by omega) v108 y107 l0 _ _ _ (fun _ => True) (fun _ => False) rfl rfl ?aO ?aR (fun _ _ h => h) (fun _ h => h.elim) ?aF ?aB ?aS ?aL ?_; (case aR => repeat (first | exact (Kd.C_below HR0.out HB.out) | (with_reducible refine Kd.C_alloc ?_ _) | (with_reducible refine Kd.C_drewN ?_ _) | (with_reducible refine Kd.C_drew ?_))); (case aB => exact (by repeat (first | (with_reducible first | exact HB.out | apply below_alloc | apply pw_below_drewN | apply below_drew1) | exact HB.out))); (case aF => exact (fun _ _ => trivial)); (case aO => exact (by (with_reducible repeat (first | apply Kd.R_alloc | apply Kd.R_drewN | apply Kd.R_drew)); exact HO109.out)); (case aS => exact (below_size (by repeat (first | (with_reducible first | exact HB.out | apply below_alloc | apply pw_below_drewN | apply below_drew1) | exact HB.out)))); (case aL => have := LMc2.out; omega); intro v111 w5 ho hb hg hat; rw [← Ny110.out] at ho; have n0_ := Aside0.mk (hb); have n1_ := Aside0.mk (ho); clear HB; clear HO109; have HB := n0_; have HO112 := n1_; clear n0_ n1_; clear ho hb hg hat))
  go_ret
  exact ⟨_, by first | rfl | (simp [errW_none, errW_some] <;> rfl) | (simp [*, errW_none, errW_some] <;> rfl), by (with_reducible repeat (first | apply Kd.R_alloc | apply Kd.R_drewN | apply Kd.R_drew)); exact HO112.out, by repeat (first | (with_reducible first | exact HB.out | apply below_alloc | apply pw_below_drewN | apply below_drew1) | exact HB.out)⟩
 ·rw [if_neg c2] at H
  exact absurd H (by simp)

end Go.Proofs.Ytkdijegkoajdgaa.Pa

