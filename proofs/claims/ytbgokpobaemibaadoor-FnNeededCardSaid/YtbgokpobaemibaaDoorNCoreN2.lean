-- Written for this claim by a program of this session.
import Derived.Test.YtbgokpobaemibaaDoorNPax0
import Derived.Test.YtbgokpobaemibaaDoorNCoreN1
import Derived.Shelf.Abstract
namespace Go.Proofs.YtbgokpobaemibaaDoor.Pa
open Go.RowKit Go.Proofs.YtbgokpobaemibaaDoorW.PrintWords Go.Proofs.YtbgokpobaemibaaDoorW.PrintLast Go.Proofs.YtbgokpobaemibaaDoorW.PrintMore
attribute [local go_sem] max2_int min2_int max_two min_two max_three min_three max_four min_four   -- for this text's walks alone
set_option linter.unusedVariables false
set_option linter.unusedSimpArgs false

/-! ### impl_isBound: function 28 -/
def impl_isBound.f (a0_0 : Int) (a0_1 : Int) (a0_2 : Int) (a1 : Int) : Option (Bool) := (impl_within.f a0_0 0 (wrap64 (a1 - 1))).bind fun t173 => (if t173 = true then ((impl_within.f a0_1 0 (wrap64 (a1 - 1))).bind fun t174 => (if t174 = true then (if a0_0 = a0_1 then (some false) else ((impl_isLimit.f a0_2).bind fun t175 => (some t175))) else (some false))) else (some false))
set_option maxHeartbeats 8000000 in
set_option maxRecDepth 100000 in
theorem impl_isBound.calls (a0_0 : Int) (a0_1 : Int) (a0_2 : Int) (a1 : Int) (r : Bool) (w : World) (h : impl_isBound.f a0_0 a0_1 a0_2 a1 = some r) :
  Calls Tryd.prog 28 #[.agg #[.int .i64 a0_0, .int .i64 a0_1, .int .i64 a0_2], .int .i64 a1] w fun e w' => e = .returned (.bool r) ∧ Below w.heap.size w w' := by
 have hu39 := Tryd.underlying39
 have HB := Aside0.mk (Below.refl w.heap.size w)
 have H : ((impl_within.f a0_0 0 (wrap64 (a1 - 1))).bind fun t173 => (if t173 = true then ((impl_within.f a0_1 0 (wrap64 (a1 - 1))).bind fun t174 => (if t174 = true then (if a0_0 = a0_1 then (some false) else ((impl_isLimit.f a0_2).bind fun t175 => (some t175))) else (some false))) else (some false))) = some r := h
 clear h
 replace H := Option.bind_eq_some_iff.mp H
 obtain ⟨t173, A30, H⟩ := H
 replace H : (if t173 = true then ((impl_within.f a0_1 0 (wrap64 (a1 - 1))).bind fun t174 => (if t174 = true then (if a0_0 = a0_1 then (some false) else ((impl_isLimit.f a0_2).bind fun t175 => (some t175))) else (some false))) else (some false)) = some r := H
 have A3 := Aside0.mk A30
 clear A30
 by_cases c4 : t173 = true
 ·subst c4
  have H1 : ((impl_within.f a0_1 0 (wrap64 (a1 - 1))).bind fun t174 => (if t174 = true then (if a0_0 = a0_1 then (some false) else ((impl_isLimit.f a0_2).bind fun t175 => (some t175))) else (some false))) = some r := by rw [if_pos rfl] at H; exact H
  clear H
  have H := H1
  clear H1
  replace H := Option.bind_eq_some_iff.mp H
  obtain ⟨t174, A50, H⟩ := H
  replace H : (if t174 = true then (if a0_0 = a0_1 then (some false) else ((impl_isLimit.f a0_2).bind fun t175 => (some t175))) else (some false)) = some r := H
  have A5 := Aside0.mk A50
  clear A50
  by_cases c6 : t174 = true
  ·subst c6
   have H1 : (if a0_0 = a0_1 then (some false) else ((impl_isLimit.f a0_2).bind fun t175 => (some t175))) = some r := by rw [if_pos rfl] at H; exact H
   clear H
   have H := H1
   clear H1
   by_cases c7 : a0_0 = a0_1
   ·rw [if_pos c7] at H
    have c7b0 : (a0_0 == a0_1) = true := beq_iff_eq.mpr c7
    have c7b1 : (a0_0 != a0_1) = false := bne_eq_false_iff_eq.mpr c7
    clear c7
    obtain rfl := Option.some.inj H
    go_enter Tryd.func28, Tryd.ntmps28
    go_wp2_with (first | ((with_reducible refine gate_dst (N := 2) rfl ?_); refine box_event ?hg (N := 2) ?hd (cs := #[.int .i64 a0_0, .int .i64 a0_1, .int .i64 a0_2]) (t := 39) ?hr ?_; (case hd => rfl); (case hg => rfl); (case hr => first | (go_simp; done) | (go_simp; rfl)); intro gb172 hg w8 hbox hb; have n0_ := Aside0.mk (below_step (by repeat (first | (with_reducible first | exact HB.out | apply below_alloc | apply pw_below_drewN | apply below_drew1) | exact HB.out)) hb); have n1_ := Aside0.mk (hbox); have n2_ := Aside0.mk ((by rw [hg]; exact (below_size (by repeat (first | (with_reducible first | exact HB.out | apply below_alloc | apply pw_below_drewN | apply below_drew1) | exact HB.out))) : w.heap.size ≤ gb172)); have n3_ := Aside0.mk ((by rw [hg]; exact (below_size (by repeat (first | (with_reducible first | exact HB.out | apply below_alloc | apply pw_below_drewN | apply below_drew1) | exact HB.out))) : w.heap.size ≤ gb172)); clear HB; have HB := n0_; have BK172 := n1_; have GW172 := n2_; have GE172 := n3_; clear n0_ n1_ n2_ n3_; clear hb hbox hg; have hcz9_0 : w8.cell? ⟨gb172, 0, none⟩ = some (.int .i64 a0_0) := (blk_cell BK172.out 0).trans rfl; have hcz9_1 : w8.cell? ⟨gb172, 1, none⟩ = some (.int .i64 a0_1) := (blk_cell BK172.out 1).trans rfl; have hcz9_2 : w8.cell? ⟨gb172, 2, none⟩ = some (.int .i64 a0_2) := (blk_cell BK172.out 2).trans rfl; have hfz9_0 := blk_frozen BK172.out 0; have hfz9_1 := blk_frozen BK172.out 1; have hfz9_2 := blk_frozen BK172.out 2) | ((with_reducible refine gate_callee (f := 29) rfl ?_); refine goesL_ (some 9) rfl rfl Tryd.func29 (by kernel_rfl) rfl #[.int .i64 a0_0, .int .i64 0, .int .i64 (wrap64 (a1 - 1))] rfl (by (try simp only [List.map_toArray, List.map_cons, List.map_nil]); first | done | rfl | (simp only [List.length_drop, List.length_take]; rfl)) ?_; (with_reducible refine (impl_within.calls a0_0 0 (wrap64 (a1 - 1)) true _ A3.out).mono ?_); rintro e w' ⟨rfl, ⟨nd, rfl⟩⟩; refine ⟨_, rfl, ?_⟩) | (go_at_call 29; (with_reducible refine (impl_within.calls a0_1 0 (wrap64 (a1 - 1)) true _ A5.out).mono ?_); rintro e w' ⟨rfl, ⟨nd, rfl⟩⟩))
    go_ret
    exact ⟨by first | rfl | (simp [errW_none, errW_some] <;> rfl) | (simp [*, errW_none, errW_some] <;> rfl), by repeat (first | (with_reducible first | exact HB.out | apply below_alloc | apply pw_below_drewN | apply below_drew1 | refine below_set ?_ GE172.out) | exact HB.out)⟩
   ·rw [if_neg c7] at H
    have c7b0 : (a0_0 == a0_1) = false := beq_eq_false_iff_ne.mpr c7
    have c7b1 : (a0_0 != a0_1) = true := bne_iff_ne.mpr c7
    replace H := Option.bind_eq_some_iff.mp H
    obtain ⟨t175, A100, H⟩ := H
    replace H : (some t175) = some r := H
    have A10 := Aside0.mk A100
    clear A100
    obtain rfl := Option.some.inj H
    go_enter Tryd.func28, Tryd.ntmps28
    go_wp2_with (first | ((with_reducible refine gate_dst (N := 2) rfl ?_); refine box_event ?hg (N := 2) ?hd (cs := #[.int .i64 a0_0, .int .i64 a0_1, .int .i64 a0_2]) (t := 39) ?hr ?_; (case hd => rfl); (case hg => rfl); (case hr => first | (go_simp; done) | (go_simp; rfl)); intro gb172 hg w11 hbox hb; have n0_ := Aside0.mk (below_step (by repeat (first | (with_reducible first | exact HB.out | apply below_alloc | apply pw_below_drewN | apply below_drew1) | exact HB.out)) hb); have n1_ := Aside0.mk (hbox); have n2_ := Aside0.mk ((by rw [hg]; exact (below_size (by repeat (first | (with_reducible first | exact HB.out | apply below_alloc | apply pw_below_drewN | apply below_drew1) | exact HB.out))) : w.heap.size ≤ gb172)); have n3_ := Aside0.mk ((by rw [hg]; exact (below_size (by repeat (first | (with_reducible first | exact HB.out | apply below_alloc | apply pw_below_drewN | apply below_drew1) | exact HB.out))) : w.heap.size ≤ gb172)); clear HB; have HB := n0_; have BK172 := n1_; have GW172 := n2_; have GE172 := n3_; clear n0_ n1_ n2_ n3_; clear hb hbox hg; have hcz12_0 : w11.cell? ⟨gb172, 0, none⟩ = some (.int .i64 a0_0) := (blk_cell BK172.out 0).trans rfl; have hcz12_1 : w11.cell? ⟨gb172, 1, none⟩ = some (.int .i64 a0_1) := (blk_cell BK172.out 1).trans rfl; have hcz12_2 : w11.cell? ⟨gb172, 2, none⟩ = some (.int .i64 a0_2) := (blk_cell BK172.out 2).trans rfl; have hfz12_0 := blk_frozen BK172.out 0; have hfz12_1 := blk_frozen BK172.out 1; have hfz12_2 := blk_frozen BK172.out 2) | ((with_reducible refine gate_callee (f := 29) rfl ?_); refine goesL_ (some 9) rfl rfl Tryd.func29 (by kernel_rfl) rfl #[.int .i64 a0_0, .int .i64 0, .int .i64 (wrap64 (a1 - 1))] rfl (by (try simp only [List.map_toArray, List.map_cons, List.map_nil]); first | done | rfl | (simp only [List.length_drop, List.length_take]; rfl)) ?_; (with_reducible refine (impl_within.calls a0_0 0 (wrap64 (a1 - 1)) true _ A3.out).mono ?_); rintro e w' ⟨rfl, ⟨nd, rfl⟩⟩; refine ⟨_, rfl, ?_⟩) | (go_at_call 29; (with_reducible refine (impl_within.calls a0_1 0 (wrap64 (a1 - 1)) true _ A5.out).mono ?_); rintro e w' ⟨rfl, ⟨nd, rfl⟩⟩) | (go_at_call 46; (with_reducible refine (impl_isLimit.calls a0_2 t175 _ A10.out).mono ?_); rintro e w' ⟨rfl, ⟨nd, rfl⟩⟩))
    go_ret
    exact ⟨by first | rfl | (simp [errW_none, errW_some] <;> rfl) | (simp [*, errW_none, errW_some] <;> rfl), by repeat (first | (with_reducible first | exact HB.out | apply below_alloc | apply pw_below_drewN | apply below_drew1 | refine below_set ?_ GE172.out) | exact HB.out)⟩
  ·replace c6 := Bool.eq_false_iff.mpr c6
   subst c6
   have H1 : (some false) = some r := by rw [if_neg (show ¬ (false = true) by decide)] at H; exact H
   clear H
   have H := H1
   clear H1
   obtain rfl := Option.some.inj H
   go_enter Tryd.func28, Tryd.ntmps28
   go_wp2_with (first | ((with_reducible refine gate_dst (N := 2) rfl ?_); refine box_event ?hg (N := 2) ?hd (cs := #[.int .i64 a0_0, .int .i64 a0_1, .int .i64 a0_2]) (t := 39) ?hr ?_; (case hd => rfl); (case hg => rfl); (case hr => first | (go_simp; done) | (go_simp; rfl)); intro gb172 hg w13 hbox hb; have n0_ := Aside0.mk (below_step (by repeat (first | (with_reducible first | exact HB.out | apply below_alloc | apply pw_below_drewN | apply below_drew1) | exact HB.out)) hb); have n1_ := Aside0.mk (hbox); have n2_ := Aside0.mk ((by rw [hg]; exact (below_size (by repeat (first | (with_reducible first | exact HB.out | apply below_alloc | apply pw_below_drewN | apply below_drew1) | exact HB.out))) : w.heap.size ≤ gb172)); have n3_ := Aside0.mk ((by rw [hg]; exact (below_size (by repeat (first | (with_reducible first | exact HB.out | apply below_alloc | apply pw_below_drewN | apply below_drew1) | exact HB.out))) : w.heap.size ≤ gb172)); clear HB; have HB := n0_; have BK172 := n1_; have GW172 := n2_; have GE172 := n3_; clear n0_ n1_ n2_ n3_; clear hb hbox hg; have hcz14_0 : w13.cell? ⟨gb172, 0, none⟩ = some (.int .i64 a0_0) := (blk_cell BK172.out 0).trans rfl; have hcz14_1 : w13.cell? ⟨gb172, 1, none⟩ = some (.int .i64 a0_1) := (blk_cell BK172.out 1).trans rfl; have hcz14_2 : w13.cell? ⟨gb172, 2, none⟩ = some (.int .i64 a0_2) := (blk_cell BK172.out 2).trans rfl; have hfz14_0 := blk_frozen BK172.out 0; have hfz14_1 := blk_frozen BK172.out 1; have hfz14_2 := blk_frozen BK172.out 2) | ((with_reducible refine gate_callee (f := 29) rfl ?_); refine goesL_ (some 9) rfl rfl Tryd.func29 (by kernel_rfl) rfl #[.int .i64 a0_0, .int .i64 0, .int .i64 (wrap64 (a1 - 1))] rfl (by (try simp only [List.map_toArray, List.map_cons, List.map_nil]); first | done | rfl | (simp only [List.length_drop, List.length_take]; rfl)) ?_; (with_reducible refine (impl_within.calls a0_0 0 (wrap64 (a1 - 1)) true _ A3.out).mono ?_); rintro e w' ⟨rfl, ⟨nd, rfl⟩⟩; refine ⟨_, rfl, ?_⟩) | (go_at_call 29; (with_reducible refine (impl_within.calls a0_1 0 (wrap64 (a1 - 1)) false _ A5.out).mono ?_); rintro e w' ⟨rfl, ⟨nd, rfl⟩⟩))
   go_ret
   exact ⟨by first | rfl | (simp [errW_none, errW_some] <;> rfl) | (simp [*, errW_none, errW_some] <;> rfl), by repeat (first | (with_reducible first | exact HB.out | apply below_alloc | apply pw_below_drewN | apply below_drew1 | refine below_set ?_ GE172.out) | exact HB.out)⟩
 ·replace c4 := Bool.eq_false_iff.mpr c4
  subst c4
  have H1 : (some false) = some r := by rw [if_neg (show ¬ (false = true) by decide)] at H; exact H
  clear H
  have H := H1
  clear H1
  obtain rfl := Option.some.inj H
  go_enter Tryd.func28, Tryd.ntmps28
  go_wp2_with (first | ((with_reducible refine gate_dst (N := 2) rfl ?_); refine box_event ?hg (N := 2) ?hd (cs := #[.int .i64 a0_0, .int .i64 a0_1, .int .i64 a0_2]) (t := 39) ?hr ?_; (case hd => rfl); (case hg => rfl); (case hr => first | (go_simp; done) | (go_simp; rfl)); intro gb172 hg w15 hbox hb; have n0_ := Aside0.mk (below_step (by repeat (first | (with_reducible first | exact HB.out | apply below_alloc | apply pw_below_drewN | apply below_drew1) | exact HB.out)) hb); have n1_ := Aside0.mk (hbox); have n2_ := Aside0.mk ((by rw [hg]; exact (below_size (by repeat (first | (with_reducible first | exact HB.out | apply below_alloc | apply pw_below_drewN | apply below_drew1) | exact HB.out))) : w.heap.size ≤ gb172)); have n3_ := Aside0.mk ((by rw [hg]; exact (below_size (by repeat (first | (with_reducible first | exact HB.out | apply below_alloc | apply pw_below_drewN | apply below_drew1) | exact HB.out))) : w.heap.size ≤ gb172)); clear HB; have HB := n0_; have BK172 := n1_; have GW172 := n2_; have GE172 := n3_; clear n0_ n1_ n2_ n3_; clear hb hbox hg; have hcz16_0 : w15.cell? ⟨gb172, 0, none⟩ = some (.int .i64 a0_0) := (blk_cell BK172.out 0).trans rfl; have hcz16_1 : w15.cell? ⟨gb172, 1, none⟩ = some (.int .i64 a0_1) := (blk_cell BK172.out 1).trans rfl; have hcz16_2 : w15.cell? ⟨gb172, 2, none⟩ = some (.int .i64 a0_2) := (blk_cell BK172.out 2).trans rfl; have hfz16_0 := blk_frozen BK172.out 0; have hfz16_1 := blk_frozen BK172.out 1; have hfz16_2 := blk_frozen BK172.out 2) | ((with_reducible refine gate_callee (f := 29) rfl ?_); refine goesL_ (some 9) rfl rfl Tryd.func29 (by kernel_rfl) rfl #[.int .i64 a0_0, .int .i64 0, .int .i64 (wrap64 (a1 - 1))] rfl (by (try simp only [List.map_toArray, List.map_cons, List.map_nil]); first | done | rfl | (simp only [List.length_drop, List.length_take]; rfl)) ?_; (with_reducible refine (impl_within.calls a0_0 0 (wrap64 (a1 - 1)) false _ A3.out).mono ?_); rintro e w' ⟨rfl, ⟨nd, rfl⟩⟩; refine ⟨_, rfl, ?_⟩))
  go_ret
  exact ⟨by first | rfl | (simp [errW_none, errW_some] <;> rfl) | (simp [*, errW_none, errW_some] <;> rfl), by repeat (first | (with_reducible first | exact HB.out | apply below_alloc | apply pw_below_drewN | apply below_drew1 | refine below_set ?_ GE172.out) | exact HB.out)⟩

end Go.Proofs.YtbgokpobaemibaaDoor.Pa

namespace Go.Proofs.YtbgokpobaemibaaDoor.Pa
open Go.RowKit Go.Proofs.YtbgokpobaemibaaDoorW.PrintWords Go.Proofs.YtbgokpobaemibaaDoorW.PrintLast Go.Proofs.YtbgokpobaemibaaDoorW.PrintMore
attribute [local go_sem] max2_int min2_int max_two min_two max_three min_three max_four min_four   -- for this text's walks alone
set_option linter.unusedVariables false
set_option linter.unusedSimpArgs false

/-! ### AUX firstOf -/
/-- The place of the first element for which a test holds, or -1. -/
def firstOf {α : Type} (p : α → Bool) : List α → Int → Int
 | [], _ => -1
 | x :: l, i => if p x = true then i else firstOf p l (i + 1)
theorem firstOf_step {α : Type} (p : α → Bool) (x : α) (l : List α) (i : Int) : firstOf p (x :: l) i = if p x = true then i else firstOf p l (i + 1) := rfl
theorem firstOf_iff {α : Type} (p : α → Bool) (l : List α) : ∀ i, 0 ≤ i → (0 ≤ firstOf p l i ↔ l.any p = true) := by
 induction l with
 | nil => intro i hi; simp [firstOf]
 | cons x l ih =>
  intro i hi
  rw [firstOf_step, List.any_cons]
  by_cases hx : p x = true
  ·rw [if_pos hx, hx]
   simp [hi]
  ·rw [if_neg hx, Bool.eq_false_iff.mpr hx]
   simpa using ih (i + 1) (by omega)
theorem firstOf_any {α : Type} (p : α → Bool) (l : List α) : decide (0 ≤ firstOf p l 0) = l.any p := by
 rw [Bool.eq_iff_iff, decide_eq_true_iff]
 exact firstOf_iff p l 0 (by omega)
end Go.Proofs.YtbgokpobaemibaaDoor.Pa

namespace Go.Proofs.YtbgokpobaemibaaDoor.Pa
open Go.RowKit Go.Proofs.YtbgokpobaemibaaDoorW.PrintWords Go.Proofs.YtbgokpobaemibaaDoorW.PrintLast Go.Proofs.YtbgokpobaemibaaDoorW.PrintMore
attribute [local go_sem] max2_int min2_int max_two min_two max_three min_three max_four min_four   -- for this text's walks alone
set_option linter.unusedVariables false
set_option linter.unusedSimpArgs false

/-! ### AUX containsB -/
set_option maxHeartbeats 2000000 in
set_option maxRecDepth 100000 in
theorem indexB.calls (A : Option Addr) (c : Nat) (l : List S39) (g : Nat) (lb : Array Value) (p : S39 → Bool) (w : World) (hr : Kd.C k39 w A l.length l)
  (eg : ∀ args W, (callFunc g args).run Tryd.prog W = .ok (.enter g args) W)
  (hp : ∀ (W : World) (x : S39), x ∈ l → Below w.heap.size w W → Calls Tryd.prog g (#[.agg #[.int .i64 x.f0, .int .i64 x.f1, .int .i64 x.f2]] ++ lb) W fun e w' => e = .returned (.bool (p x)) ∧ Below w.heap.size w w') :
  Calls Tryd.prog 47 #[.slice A l.length c, .func (.func g) #[] lb] w fun e w' => e = .returned (.int .i64 (firstOf p l 0)) ∧ Below w.heap.size w w' := by
 have hu := Tryd.underlying39
 have HR := Aside0.mk hr
 have hlen : l.length ≤ 9223372036854775807 := hr.2.1
 clear hr
 have HP := Aside0.mk hp
 clear hp
 go_enter Tryd.func47, Tryd.ntmps47
 go_wp2
 go_loopg [5, 8] l.length (fun gg _ s8 wr => ∃ x : Int, s8 = .int .i64 x ∧ Aside0 (0 ≤ x ∧ x ≤ l.length ∧ (l.length : Int) - x ≤ gg) ∧ Aside0 (Below w.heap.size w wr) ∧ Aside0 (firstOf p l 0 = firstOf p (l.drop x.toNat) x))
 case atStart => exact ⟨0, rfl, ⟨by omega⟩, ⟨Below.refl _ w⟩, ⟨rfl⟩⟩
 case round =>
  obtain ⟨x, rfl, HX, HB, HF⟩ := hrel
  by_cases hlt : x < (l.length : Int)
  ·have c0 : decide (0 ≤ x) = true := decide_eq_true HX.out.1
   have c1 : decide (x < (l.length : Int)) = true := decide_eq_true hlt
   have HL := Aside0.mk hlt
   clear hlt
   obtain ⟨ad, e, h0, h1, h2⟩ := at_T39 HR.out x HX.out.1 HL.out
   cases e
   replace h0 := (HB.out.cell (World.block_lt_of_cell? w _ h0)).trans h0
   replace h1 := (HB.out.cell (World.block_lt_of_cell? w _ h1)).trans h1
   replace h2 := (HB.out.cell (World.block_lt_of_cell? w _ h2)).trans h2
   have hmem : rd_T39 l x ∈ l := by
    have hx := HX.out
    have hl := HL.out
    unfold rd_T39
    rw [List.getD_eq_getElem?_getD, List.getElem?_eq_getElem (by omega)]
    exact List.getElem_mem _
   have hcall := HP.out wr (rd_T39 l x) hmem HB.out
   clear hmem
   have hd : l.drop x.toNat = rd_T39 l x :: l.drop (x + 1).toNat := by
    have hx := HX.out
    have hl := HL.out
    rw [List.drop_eq_getElem_cons (by omega), show (x + 1).toNat = x.toNat + 1 from by omega]
    unfold rd_T39
    rw [List.getD_eq_getElem?_getD, List.getElem?_eq_getElem (by omega)]
    rfl
   have HD := Aside0.mk hd
   clear hd
   cases hq : p (rd_T39 l x) with
   | true =>
    rw [hq] at hcall
    have HQ := Aside0.mk hq
    clear hq
    have HC := Aside0.mk hcall
    clear hcall
    have p0 := eq_true HX.out.1
    have p1 := eq_true HL.out
    go_wp2_with (go_at_fn g; refine HC.out.mono ?_; rintro e w' ⟨rfl, hb'⟩)
    go_ret
    refine ⟨?_, hb'⟩
    rw [HF.out, HD.out, firstOf_step, if_pos HQ.out]
    rfl
   | false =>
    rw [hq] at hcall
    have HQ := Aside0.mk hq
    clear hq
    have HC := Aside0.mk hcall
    clear hcall
    have p0 := eq_true HX.out.1
    have p1 := eq_true HL.out
    go_wp2_with (go_at_fn g; refine HC.out.mono ?_; rintro e w' ⟨rfl, hb'⟩)
    have hx1 := HX.out
    have hl1 := HL.out
    go_roundg ((l.length : Int) - (x + 1)).toNat
    case measure => omega
    case rel =>
     have hw1 : wrap64 (x + 1) = x + 1 := by unfold wrap64; omega
     refine ⟨x + 1, by rw [hw1], ⟨by omega⟩, ⟨hb'⟩, ⟨?_⟩⟩
     rw [HF.out, HD.out, firstOf_step, if_neg (by rw [HQ.out]; simp)]
  ·have c1 : decide (x < (l.length : Int)) = false := decide_eq_false hlt
   have HL := Aside0.mk hlt
   clear hlt
   go_wp2
   go_ret
   refine ⟨?_, HB.out⟩
   have hx := HX.out
   have hl := HL.out
   rw [HF.out, List.drop_of_length_le (by omega)]
   rfl
set_option maxHeartbeats 1000000 in
theorem containsB.calls (A : Option Addr) (c : Nat) (l : List S39) (g : Nat) (lb : Array Value) (p : S39 → Bool) (w : World) (hr : Kd.C k39 w A l.length l)
  (eg : ∀ args W, (callFunc g args).run Tryd.prog W = .ok (.enter g args) W)
  (hp : ∀ (W : World) (x : S39), x ∈ l → Below w.heap.size w W → Calls Tryd.prog g (#[.agg #[.int .i64 x.f0, .int .i64 x.f1, .int .i64 x.f2]] ++ lb) W fun e w' => e = .returned (.bool (p x)) ∧ Below w.heap.size w w') :
  Calls Tryd.prog 30 #[.slice A l.length c, .func (.func g) #[] lb] w fun e w' => e = .returned (.bool (l.any p)) ∧ Below w.heap.size w w' := by
 have hcall := Aside0.mk (indexB.calls A c l g lb p w hr eg hp)
 clear hp hr eg
 rw [← firstOf_any p l]
 generalize firstOf p l 0 = r at hcall ⊢
 go_enter Tryd.func30, Tryd.ntmps30
 go_wp2_with (go_at_call 47; refine hcall.out.mono ?_; rintro e w' ⟨rfl, hb'⟩)
 go_ret
 exact ⟨rfl, hb'⟩

end Go.Proofs.YtbgokpobaemibaaDoor.Pa

namespace Go.Proofs.YtbgokpobaemibaaDoor.Pa
open Go.RowKit Go.Proofs.YtbgokpobaemibaaDoorW.PrintWords Go.Proofs.YtbgokpobaemibaaDoorW.PrintLast Go.Proofs.YtbgokpobaemibaaDoorW.PrintMore
attribute [local go_sem] max2_int min2_int max_two min_two max_three min_three max_four min_four   -- for this text's walks alone
set_option linter.unusedVariables false
set_option linter.unusedSimpArgs false

/-! ### impl_ValidDiagram: function 15 -/
/-- What a diagram must be. -/
def boundOk (n : Int) (b : S39) : Bool := decide (0 ≤ b.f0) && decide (b.f0 ≤ n - 1) && (decide (0 ≤ b.f1) && decide (b.f1 ≤ n - 1)) && !(b.f0 == b.f1) && (decide (-1000 ≤ b.f2) && decide (b.f2 ≤ 1000))
def diagramOk (n : Int) (l : List S39) : Bool := decide (1 ≤ n) && decide (n ≤ 10) && decide (l.length ≤ 24) && l.all (boundOk n)
theorem isBound_tells (a b c n : Int) (h0 : 1 ≤ n) (h1 : n ≤ 10) : impl_isBound.f a b c n = some (boundOk n ⟨a, b, c⟩) := by
 have hw : wrap64 (n - 1) = n - 1 := by unfold wrap64; omega
 have hin : ∀ x l u : Int, impl_within.f x l u = some (decide (l ≤ x) && decide (x ≤ u)) := by
  intro x l u
  unfold impl_within.f
  by_cases h : l ≤ x <;> simp [h]
 unfold impl_isBound.f impl_isLimit.f boundOk
 simp only [hin, hw, Option.bind_some]
 by_cases h2 : 0 ≤ a <;> by_cases h3 : a ≤ n - 1 <;> by_cases h4 : 0 ≤ b <;> by_cases h5 : b ≤ n - 1 <;> by_cases h6 : a = b <;> simp [h2, h3, h4, h5, h6]
def impl_ValidDiagram.f (a0_0 : Int) (l0_1 : List (S39)) : Option (Bool) := some (diagramOk a0_0 l0_1)
set_option maxHeartbeats 4000000 in
set_option maxRecDepth 100000 in
/-- The test that ValidDiagram hands on. -/
theorem ValidDiagram_test (n : Int) (A : Option Addr) (m c : Nat) (h0 : 1 ≤ n) (h1 : n ≤ 10) (B : Nat) (w : World) (hB : B < w.heap.size) (hc0 : w.cell? ⟨B, 0, none⟩ = some (.int .i64 n)) (W : World) (x : S39) (hb : Below w.heap.size w W) :
  Calls Tryd.prog 31 (#[.agg #[.int .i64 x.f0, .int .i64 x.f1, .int .i64 x.f2]] ++ #[.pointer (some ⟨B, 0, none⟩)]) W fun e w' => e = .returned (.bool (!boundOk n x)) ∧ Below w.heap.size w w' := by
 have hc : W.cell? ⟨B, 0, none⟩ = some (.int .i64 n) := (hb.cell (p := ⟨B, 0, none⟩) hB).trans hc0
 have hu := Tryd.underlying39
 have hu2 := Tryd.underlying26
 have hBW : B < W.heap.size := Nat.lt_of_lt_of_le hB hb.size
 have hne : B ≠ W.heap.size := by omega
 have hq := Aside0.mk (isBound_tells x.f0 x.f1 x.f2 n h0 h1)
 have HB := Aside0.mk hb
 clear hb hc0 h0 h1
 generalize boundOk n x = q at hq ⊢
 show Calls Tryd.prog 31 #[.agg #[.int .i64 x.f0, .int .i64 x.f1, .int .i64 x.f2], .pointer (some ⟨B, 0, none⟩)] W _
 go_enter Tryd.func31, Tryd.ntmps31
 go_wp2_with (go_at_call 28; refine (impl_isBound.calls _ _ _ _ q _ hq.out).mono ?_; rintro e w' ⟨rfl, hb'⟩)
 go_ret
 exact ⟨rfl, HB.out.trans (Below.mono ((below_alloc (Below.refl _ _) _).trans (hb'.mono (by simp))) HB.out.size)⟩
def anyBad (n : Int) (l : List S39) : Bool := l.any fun x => !boundOk n x
theorem anyBad_all (n : Int) (l : List S39) : (!anyBad n l) = l.all (boundOk n) := by
 unfold anyBad
 rw [List.all_eq_not_any_not]
theorem ValidDiagram_contains (n : Int) (A : Option Addr) (c : Nat) (l : List S39) (h0 : 1 ≤ n) (h1 : n ≤ 10) (B : Nat) (w : World) (hB : B < w.heap.size) (hc0 : w.cell? ⟨B, 0, none⟩ = some (.int .i64 n)) (hr : Kd.C k39 w A l.length l) :
  Calls Tryd.prog 30 #[.slice A l.length c, .func (.func 31) #[] #[.pointer (some ⟨B, 0, none⟩)]] w fun e w' => e = .returned (.bool (anyBad n l)) ∧ Below w.heap.size w w' :=
 containsB.calls A c l 31 #[.pointer (some ⟨B, 0, none⟩)] (fun x => !boundOk n x) w hr (enters_of Tryd.func31 (by kernel_rfl) rfl) (fun W x _ hb => ValidDiagram_test n A l.length c h0 h1 B w hB hc0 W x hb)
set_option maxHeartbeats 4000000 in
set_option maxRecDepth 100000 in
theorem impl_ValidDiagram.calls (a0_0 : Int) (A0_1 : Option Addr) (c0_1 : Nat) (l0_1 : List (S39)) (r : Bool) (w : World) (hr0_1 : Kd.C k39 w A0_1 l0_1.length l0_1) (hc0_1 : l0_1.length ≤ c0_1) (h : impl_ValidDiagram.f a0_0 l0_1 = some r) :
  Calls Tryd.prog 15 #[.agg #[.int .i64 a0_0, .slice A0_1 l0_1.length c0_1]] w fun e w' => e = .returned (.bool r) ∧ Below w.heap.size w w' := by
 obtain rfl := Option.some.inj h
 clear h
 have hu := Tryd.underlying26
 have HR := Aside0.mk hr0_1
 clear hr0_1 hc0_1
 by_cases hn : 1 ≤ a0_0 ∧ a0_0 ≤ 10
 ·obtain ⟨h0, h1⟩ := hn
  have HW : Aside0 (impl_within.f a0_0 1 10 = some true) := ⟨by unfold impl_within.f; rw [if_pos h0, decide_eq_true h1]⟩
  by_cases hl : l0_1.length ≤ 24
  ·have c1 : decide ((24 : Int) < (l0_1.length : Int)) = false := decide_eq_false (by omega)
   have c2 : decide (24 < l0_1.length) = false := decide_eq_false (by omega)
   have HE : Aside0 (diagramOk a0_0 l0_1 = !anyBad a0_0 l0_1) := ⟨by unfold diagramOk; rw [anyBad_all, decide_eq_true h0, decide_eq_true h1, decide_eq_true hl]; simp⟩
   have H0 := Aside0.mk h0
   have H1 := Aside0.mk h1
   clear h0 h1 hl
   generalize diagramOk a0_0 l0_1 = q at HE ⊢
   go_enter Tryd.func15, Tryd.ntmps15
   go_wp2_with (first | (go_at_call 29; refine (impl_within.calls _ _ _ true _ HW.out).mono ?_; rintro e w' ⟨rfl, ⟨nd, rfl⟩⟩) | (go_at_call 30; refine (ValidDiagram_contains a0_0 A0_1 c0_1 l0_1 H0.out H1.out w.heap.size _ (by simp) (by simp) (by repeat (first | exact HR.out | (with_reducible refine Kd.C_drewN ?_ _) | (with_reducible refine Kd.C_drew ?_) | (with_reducible refine Kd.C_alloc ?_ _)))).mono ?_; rintro e w' ⟨rfl, hb'⟩))
   go_ret
   exact ⟨by rw [HE.out]; rfl, (below_alloc (Below.refl _ _) _).trans (Below.mono (below_step (pw_below_drewN (Below.refl _ _) nd) hb') (by simp))⟩
  ·have c1 : decide ((24 : Int) < (l0_1.length : Int)) = true := decide_eq_true (by omega)
   have c2 : decide (24 < l0_1.length) = true := decide_eq_true (by omega)
   have HE : Aside0 (diagramOk a0_0 l0_1 = false) := ⟨by unfold diagramOk; rw [decide_eq_false hl]; simp⟩
   clear h0 h1 hl
   generalize diagramOk a0_0 l0_1 = q at HE ⊢
   go_enter Tryd.func15, Tryd.ntmps15
   go_wp2_with (go_at_call 29; refine (impl_within.calls _ _ _ true _ HW.out).mono ?_; rintro e w' ⟨rfl, ⟨nd, rfl⟩⟩)
   go_ret
   exact ⟨by rw [HE.out]; rfl, pw_below_drewN (below_alloc (Below.refl _ _) _) nd⟩
 ·have HW : Aside0 (impl_within.f a0_0 1 10 = some false) := ⟨by
   unfold impl_within.f
   split
   ·rw [decide_eq_false (by omega)]
   ·rfl⟩
  have HE : Aside0 (diagramOk a0_0 l0_1 = false) := ⟨by
   unfold diagramOk
   by_cases h0 : 1 ≤ a0_0
   ·rw [decide_eq_false (show ¬ a0_0 ≤ 10 by omega)]; simp
   ·rw [decide_eq_false h0]; simp⟩
  clear hn
  generalize diagramOk a0_0 l0_1 = q at HE ⊢
  go_enter Tryd.func15, Tryd.ntmps15
  go_wp2_with (go_at_call 29; refine (impl_within.calls _ _ _ false _ HW.out).mono ?_; rintro e w' ⟨rfl, ⟨nd, rfl⟩⟩)
  go_ret
  exact ⟨by rw [HE.out]; rfl, pw_below_drewN (below_alloc (Below.refl _ _) _) nd⟩

end Go.Proofs.YtbgokpobaemibaaDoor.Pa

/- The tightest bounds as a plain function of the rows: one step, the loops, the diagonal. -/
namespace Go.Proofs.YtbgokpobaemibaaDoor.Pure
open Go.RowKit Go.Proofs.YtbgokpobaemibaaDoor.Pa Go.Proofs.YtbgokpobaemibaaDoorW.PrintWords Go.Proofs.YtbgokpobaemibaaDoorW.PrintLast Go.Proofs.YtbgokpobaemibaaDoorW.PrintMore
set_option linter.unusedVariables false
set_option linter.unusedSimpArgs false

theorem rdB_get {l : List S39} {i : Nat} (h : i < l.length) : rd_T39 l (i : Int) = l[i] := by
 unfold rd_T39
 rw [List.getD_eq_getElem?_getD, Int.toNat_natCast, List.getElem?_eq_getElem h]
 rfl
def I64 (x : Int) : Prop := -9223372036854775808 ≤ x ∧ x ≤ 9223372036854775807
theorem I64_wrap (x : Int) : I64 (wrap64 x) := by unfold I64 wrap64; omega
theorem I64_mn {a b : Int} (ha : I64 a) (hb : I64 b) : I64 (mn a b) := by unfold mn; split <;> assumption
/-- Square, of int64 numbers. -/
def Sq (n : Nat) (M : List (List Int)) : Prop := M.length = n ∧ ∀ r ∈ M, r.length = n ∧ ∀ y ∈ r, I64 y
theorem row_mem {n : Nat} {M : List (List Int)} (h : Sq n M) {i : Nat} (hi : i < n) : rd_L6 M (i : Int) ∈ M := by
 unfold rd_L6
 rw [List.getD_eq_getElem?_getD, Int.toNat_natCast, List.getElem?_eq_getElem (by rw [h.1]; exact hi)]
 exact List.getElem_mem _
theorem row_len {n : Nat} {M : List (List Int)} (h : Sq n M) {i : Nat} (hi : i < n) : (rd_L6 M (i : Int)).length = n := (h.2 _ (row_mem h hi)).1
theorem cell_in {n : Nat} {M : List (List Int)} (h : Sq n M) {i j : Nat} (hi : i < n) (hj : j < n) : I64 (rd (rd_L6 M (i : Int)) (j : Int)) := by
 have hl := row_len h hi
 rw [rd_get (by omega)]
 exact (h.2 _ (row_mem h hi)).2 _ (List.getElem_mem _)
theorem Sq_put {n : Nat} {M : List (List Int)} (h : Sq n M) {i : Nat} (hi : i < n) (j : Nat) {v : Int} (hv : I64 v) : Sq n (M.set i ((rd_L6 M (i : Int)).set j v)) := by
 refine ⟨by simp [h.1], fun r hr => ?_⟩
 rcases List.mem_or_eq_of_mem_set hr with hr | rfl
 ·exact h.2 r hr
 ·refine ⟨by simp [row_len h hi], fun y hy => ?_⟩
  rcases List.mem_or_eq_of_mem_set hy with hy | rfl
  ·exact (h.2 _ (row_mem h hi)).2 y hy
  ·exact hv

/-- One step: from i to j by way of x. -/
def stepJ (M : List (List Int)) (x i j : Nat) : List (List Int) :=
 if rd (rd_L6 M (i : Int)) (x : Int) < 1000000 then
  (if rd (rd_L6 M (x : Int)) (j : Int) < 1000000 then M.set i ((rd_L6 M (i : Int)).set j (mn (rd (rd_L6 M (i : Int)) (j : Int)) (wrap64 (rd (rd_L6 M (i : Int)) (x : Int) + rd (rd_L6 M (x : Int)) (j : Int))))) else M)
 else M
def foldJ (x i : Nat) : Nat → List (List Int) → Nat → List (List Int)
 | 0, M, _ => M
 | d + 1, M, j => foldJ x i d (stepJ M x i j) (j + 1)
def foldI (n x : Nat) : Nat → List (List Int) → Nat → List (List Int)
 | 0, M, _ => M
 | d + 1, M, i => foldI n x d (foldJ x i n M 0) (i + 1)
def foldX (n : Nat) : Nat → List (List Int) → Nat → List (List Int)
 | 0, M, _ => M
 | d + 1, M, x => foldX n d (foldI n x n M 0) (x + 1)
def diag : Nat → List (List Int) → Nat → Bool
 | 0, _, _ => true
 | d + 1, M, i => if rd (rd_L6 M (i : Int)) (i : Int) < 0 then false else diag d M (i + 1)
theorem Sq_stepJ {n : Nat} {M : List (List Int)} (h : Sq n M) {x i j : Nat} (hi : i < n) (hj : j < n) : Sq n (stepJ M x i j) := by
 unfold stepJ
 split
 ·split
  ·exact Sq_put h hi _ (I64_mn (cell_in h hi hj) (I64_wrap _))
  ·exact h
 ·exact h
theorem Sq_foldJ {n : Nat} {x i : Nat} (hi : i < n) (d : Nat) : ∀ (M : List (List Int)) (j : Nat), Sq n M → j + d ≤ n → Sq n (foldJ x i d M j) := by
 induction d with
 | zero => intro M j h _; exact h
 | succ d ih => intro M j h hj; exact ih _ _ (Sq_stepJ h hi (by omega)) (by omega)
theorem Sq_foldI {n : Nat} {x : Nat} (d : Nat) : ∀ (M : List (List Int)) (i : Nat), Sq n M → i + d ≤ n → Sq n (foldI n x d M i) := by
 induction d with
 | zero => intro M j h _; exact h
 | succ d ih => intro M j h hj; exact ih _ _ (Sq_foldJ (by omega) _ _ _ h (by omega)) (by omega)
theorem Sq_foldX {n : Nat} (d : Nat) : ∀ (M : List (List Int)) (x : Nat), Sq n M → Sq n (foldX n d M x) := by
 induction d with
 | zero => intro M j h; exact h
 | succ d ih => intro M j h; exact ih _ _ (Sq_foldI _ _ _ h (by omega))

theorem impl_j {n : Nat} (hn : n ≤ 10) {x i : Nat} (hx : x < n) (hi : i < n) (d : Nat) : ∀ (k : Nat) (M : List (List Int)) (j : Nat), Sq n M → j + d = n →
  impl_tightest.l4 (k + d + 1) M (x : Int) (i : Int) (n : Int) (x : Int) (n : Int) (i : Int) (n : Int) (j : Int) = impl_tightest.l3 k (foldJ x i d M j) (x : Int) (n : Int) (x : Int) (n : Int) ((i + 1 : Nat) : Int) := by
 induction d with
 | zero =>
  intro k M j h hj
  simp only [Nat.add_zero, impl_tightest.l4, foldJ]
  rw [if_neg (by omega), wrap_id (by omega) (by omega), ← Int.natCast_succ]
 | succ d ih =>
  intro k M j h hj
  have next := ih k (stepJ M x i j) (j + 1) (Sq_stepJ h hi (by omega)) (by omega)
  rw [show k + (d + 1) + 1 = (k + d + 1) + 1 from rfl]
  have hl := h.1
  have hri := row_len h hi
  have hrx := row_len h hx
  simp only [foldJ]
  rw [← next, show ((j + 1 : Nat) : Int) = (j : Int) + 1 from by omega]
  generalize k + d + 1 = m
  simp only [impl_tightest.l4]
  rw [if_pos (by omega), if_pos (by omega), if_pos (by omega), if_pos (by omega), if_pos (by omega)]
  unfold stepJ
  by_cases c1 : rd (rd_L6 M (i : Int)) (x : Int) < 1000000
  ·rw [if_pos c1, if_pos c1, if_pos (show (x : Int) < (M.length : Int) by omega), if_pos (by omega), if_pos (by omega), wrap_id (x := (j : Int) + 1) (by omega) (by omega)]
   by_cases c2 : rd (rd_L6 M (x : Int)) (j : Int) < 1000000
   ·rw [if_pos c2, if_pos c2, if_pos (show (j : Int) < ((rd_L6 M (i : Int)).length : Int) by omega)]
    simp only [Int.toNat_natCast]
   ·rw [if_neg c2, if_neg c2]
  ·rw [if_neg c1, if_neg c1, wrap_id (x := (j : Int) + 1) (by omega) (by omega)]
theorem impl_i {n : Nat} (hn : n ≤ 10) {x : Nat} (hx : x < n) (d : Nat) : ∀ (k : Nat) (M : List (List Int)) (i : Nat), Sq n M → i + d = n →
  impl_tightest.l3 (k + d * (n + 2) + 1) M (x : Int) (n : Int) (x : Int) (n : Int) (i : Int) = impl_tightest.l2 k (foldI n x d M i) (n : Int) ((x + 1 : Nat) : Int) := by
 induction d with
 | zero =>
  intro k M i h hi
  simp only [Nat.zero_mul, Nat.add_zero, impl_tightest.l3, foldI]
  rw [if_neg (by omega), wrap_id (by omega) (by omega), ← Int.natCast_succ]
 | succ d ih =>
  intro k M i h hi
  have next := ih k (foldJ x i n M 0) (i + 1) (Sq_foldJ (by omega) _ _ _ h (by omega)) (by omega)
  have hj := impl_j hn hx (show i < n by omega) n (k + d * (n + 2) + 1) M 0 h (by omega)
  rw [show k + (d + 1) * (n + 2) + 1 = (k + d * (n + 2) + 1 + n + 1) + 1 by rw [Nat.add_mul]; omega]
  conv => lhs; simp only [impl_tightest.l3]
  rw [if_pos (by omega), h.1]
  rw [show ((0 : Nat) : Int) = 0 from rfl] at hj
  rw [hj, next, foldI]
theorem impl_d {n : Nat} (hn : n ≤ 10) (d : Nat) : ∀ (k : Nat) (M : List (List Int)) (i : Nat), Sq n M → i + d = n →
  impl_tightest.l5 (k + d + 1) M (n : Int) (i : Int) = some (if diag d M i = true then (M, true) else ([], false)) := by
 induction d with
 | zero =>
  intro k M i h hi
  simp only [Nat.add_zero, impl_tightest.l5, diag]
  rw [if_neg (by omega), if_pos trivial]
 | succ d ih =>
  intro k M i h hi
  have hl := h.1
  have hr := row_len h (show i < n by omega)
  have next := ih k M (i + 1) h (by omega)
  rw [show k + (d + 1) + 1 = (k + d + 1) + 1 from rfl]
  push_cast at next
  have ed : diag (d + 1) M i = if rd (rd_L6 M (i : Int)) (i : Int) < 0 then false else diag d M (i + 1) := rfl
  generalize k + d + 1 = m at next ⊢
  simp only [impl_tightest.l5]
  rw [if_pos (by omega), if_pos (by omega), if_pos (by omega), if_pos (by omega), wrap_id (by omega) (by omega)]
  by_cases c : rd (rd_L6 M (i : Int)) (i : Int) < 0
  ·rw [if_pos c] at ed
   rw [if_pos c, ed]; simp
  ·rw [if_neg c] at ed
   rw [if_neg c, ed]
   exact next
theorem impl_x {n : Nat} (hn : n ≤ 10) (d : Nat) : ∀ (k : Nat) (M : List (List Int)) (x : Nat), Sq n M → x + d = n →
  impl_tightest.l2 (k + d * (n * (n + 2) + 2) + 1) M (n : Int) (x : Int) = impl_tightest.l5 k (foldX n d M x) (n : Int) 0 := by
 induction d with
 | zero =>
  intro k M i h hi
  simp only [Nat.zero_mul, Nat.add_zero, impl_tightest.l2, foldX]
  rw [if_neg (by omega), h.1]
 | succ d ih =>
  intro k M x h hi
  have next := ih k (foldI n x n M 0) (x + 1) (Sq_foldI _ _ _ h (by omega)) (by omega)
  have hj := impl_i hn (show x < n by omega) n (k + d * (n * (n + 2) + 2) + 1) M 0 h (by omega)
  rw [show k + (d + 1) * (n * (n + 2) + 2) + 1 = (k + d * (n * (n + 2) + 2) + 1 + n * (n + 2) + 1) + 1 by rw [Nat.add_mul]; omega]
  conv => lhs; simp only [impl_tightest.l2]
  rw [if_pos (by omega), h.1]
  rw [show ((0 : Nat) : Int) = 0 from rfl] at hj
  rw [hj, next, foldX]
end Go.Proofs.YtbgokpobaemibaaDoor.Pure

/- One round of the tightest bounds, told entry by entry. -/
namespace Go.Proofs.YtbgokpobaemibaaDoor.Pure
open Go.RowKit Go.Proofs.YtbgokpobaemibaaDoor.Pa Go.Proofs.YtbgokpobaemibaaDoorW.PrintWords Go.Proofs.YtbgokpobaemibaaDoorW.PrintLast Go.Proofs.YtbgokpobaemibaaDoorW.PrintMore
set_option linter.unusedVariables false
set_option linter.unusedSimpArgs false

/-- The entry from i to j. -/
def V (M : List (List Int)) (i j : Nat) : Int := rd (rd_L6 M (i : Int)) (j : Int)
theorem row_set {n : Nat} {M : List (List Int)} (h : Sq n M) {i i' : Nat} (hi : i < n) (hi' : i' < n) (r : List Int) : rd_L6 (M.set i r) (i' : Int) = if i' = i then r else rd_L6 M (i' : Int) := by
 unfold rd_L6
 simp only [List.getD_eq_getElem?_getD, Int.toNat_natCast, List.getElem?_set]
 have hl := h.1
 by_cases e : i = i'
 ·subst e
  rw [if_pos rfl, if_pos (by omega), if_pos rfl]; rfl
 ·rw [if_neg e, if_neg (fun h => e h.symm)]
theorem rd_set {l : List Int} {j j' : Nat} (hj : j < l.length) (v : Int) : rd (l.set j v) (j' : Int) = if j' = j then v else rd l (j' : Int) := by
 unfold rd
 simp only [List.getD_eq_getElem?_getD, Int.toNat_natCast, List.getElem?_set]
 by_cases e : j = j'
 ·subst e
  rw [if_pos rfl, if_pos hj, if_pos rfl]; rfl
 ·rw [if_neg e, if_neg (fun h => e h.symm)]
theorem V_put {n : Nat} {M : List (List Int)} (h : Sq n M) {i j i' j' : Nat} (hi : i < n) (hj : j < n) (hi' : i' < n) (v : Int) : V (M.set i ((rd_L6 M (i : Int)).set j v)) i' j' = if i' = i ∧ j' = j then v else V M i' j' := by
 unfold V
 rw [row_set h hi hi']
 by_cases e : i' = i
 ·subst e
  rw [if_pos rfl, rd_set (by rw [row_len h hi]; exact hj)]
  by_cases e2 : j' = j
  ·rw [if_pos e2, if_pos ⟨rfl, e2⟩]
  ·rw [if_neg e2, if_neg (fun h => e2 h.2)]
 ·rw [if_neg e, if_neg (fun h => e h.1)]
theorem mn_le (a b : Int) : mn a b ≤ a := by unfold mn; split <;> omega
/-- One step only lowers. -/
theorem step_le {n : Nat} {M : List (List Int)} (h : Sq n M) {x i j : Nat} (hi : i < n) (hj : j < n) {i' j' : Nat} (hi' : i' < n) : V (stepJ M x i j) i' j' ≤ V M i' j' := by
 unfold stepJ
 split
 ·split
  ·rw [V_put h hi hj hi']
   split
   ·rename_i e
    obtain ⟨rfl, rfl⟩ := e
    exact mn_le _ _
   ·exact Int.le_refl _
  ·exact Int.le_refl _
 ·exact Int.le_refl _
theorem foldJ_le {n : Nat} {x i : Nat} (hi : i < n) (d : Nat) : ∀ (M : List (List Int)) (j : Nat), Sq n M → j + d ≤ n → ∀ i' j', i' < n → V (foldJ x i d M j) i' j' ≤ V M i' j' := by
 induction d with
 | zero => intro M j _ _ i' j' _; exact Int.le_refl _
 | succ d ih =>
  intro M j h hj i' j' hi'
  exact Int.le_trans (ih _ _ (Sq_stepJ h hi (by omega)) (by omega) i' j' hi') (step_le h hi (by omega) hi')
theorem foldI_le {n : Nat} {x : Nat} (d : Nat) : ∀ (M : List (List Int)) (i : Nat), Sq n M → i + d ≤ n → ∀ i' j', i' < n → V (foldI n x d M i) i' j' ≤ V M i' j' := by
 induction d with
 | zero => intro M j _ _ i' j' _; exact Int.le_refl _
 | succ d ih =>
  intro M i h hi i' j' hi'
  exact Int.le_trans (ih _ _ (Sq_foldJ (by omega) _ _ _ h (by omega)) (by omega) i' j' hi') (foldJ_le (by omega) _ _ _ h (by omega) i' j' hi')
theorem foldX_le {n : Nat} (d : Nat) : ∀ (M : List (List Int)) (x : Nat), Sq n M → ∀ i' j', i' < n → V (foldX n d M x) i' j' ≤ V M i' j' := by
 induction d with
 | zero => intro M j _ i' j' _; exact Int.le_refl _
 | succ d ih =>
  intro M x h i' j' hi'
  exact Int.le_trans (ih _ _ (Sq_foldI _ _ _ h (by omega)) i' j' hi') (foldI_le _ _ _ h (by omega) i' j' hi')
/-- What a round makes of the entry from i to j, where it starts from M. -/
def nw (M : List (List Int)) (x i j : Nat) : Int := if V M i x < 1000000 ∧ V M x j < 1000000 then mn (V M i j) (V M i x + V M x j) else V M i j
theorem nw_col {M : List (List Int)} {x : Nat} (h : 0 ≤ V M x x) (i : Nat) : nw M x i x = V M i x := by
 unfold nw mn
 split
 ·split <;> omega
 ·rfl
theorem nw_row {M : List (List Int)} {x : Nat} (h : 0 ≤ V M x x) (j : Nat) : nw M x x j = V M x j := by
 unfold nw mn
 split
 ·split <;> omega
 ·rfl
/-- How far a round has come: the entries before (i, j) are new. -/
def Half (n : Nat) (M0 M : List (List Int)) (x i j : Nat) : Prop := ∀ i' j', i' < n → j' < n → V M i' j' = if i' < i ∨ (i' = i ∧ j' < j) then nw M0 x i' j' else V M0 i' j'
/-- All entries lie between. -/
def Rg (n : Nat) (B : Int) (M : List (List Int)) : Prop := ∀ i j, i < n → j < n → -B ≤ V M i j ∧ V M i j ≤ 1000000
theorem Half_step {n : Nat} {M0 M : List (List Int)} {B : Int} (hB : B ≤ 4611686018427387904) (h0 : Rg n B M0) {x i j : Nat} (hx : x < n) (hi : i < n) (hj : j < n) (hd : 0 ≤ V M0 x x) (h : Sq n M) (hh : Half n M0 M x i j) : Half n M0 (stepJ M x i j) x i (j + 1) := by
 have a : V M i x = V M0 i x := by rw [hh i x hi hx, nw_col hd]; split <;> rfl
 have b : V M x j = V M0 x j := by rw [hh x j hx hj, nw_row hd]; split <;> rfl
 have c : V M i j = V M0 i j := by rw [hh i j hi hj, if_neg (by omega)]
 have ra := h0 i x hi hx
 have rb := h0 x j hx hj
 have key : ∀ i' j', i' < n → j' < n → V (stepJ M x i j) i' j' = if i' = i ∧ j' = j then nw M0 x i j else V M i' j' := by
  intro i' j' hi' hj'
  unfold stepJ
  have ea : rd (rd_L6 M (i : Int)) (x : Int) = V M0 i x := a
  have eb : rd (rd_L6 M (x : Int)) (j : Int) = V M0 x j := b
  have ec : rd (rd_L6 M (i : Int)) (j : Int) = V M0 i j := c
  rw [ea, eb, ec]
  by_cases c1 : V M0 i x < 1000000
  ·rw [if_pos c1]
   by_cases c2 : V M0 x j < 1000000
   ·have hw : wrap64 (V M0 i x + V M0 x j) = V M0 i x + V M0 x j := by unfold wrap64; omega
    have hn : nw M0 x i j = mn (V M0 i j) (V M0 i x + V M0 x j) := by unfold nw; rw [if_pos ⟨c1, c2⟩]
    rw [if_pos c2, hw, V_put h hi hj hi', hn]
   ·have hn : nw M0 x i j = V M i j := by unfold nw; rw [if_neg (fun h => c2 h.2), c]
    rw [if_neg c2, hn]
    split
    ·rename_i e; obtain ⟨rfl, rfl⟩ := e; rfl
    ·rfl
  ·have hn : nw M0 x i j = V M i j := by unfold nw; rw [if_neg (fun h => c1 h.1), c]
   rw [if_neg c1, hn]
   split
   ·rename_i e; obtain ⟨rfl, rfl⟩ := e; rfl
   ·rfl
 intro i' j' hi' hj'
 rw [key i' j' hi' hj']
 by_cases e : i' = i ∧ j' = j
 ·obtain ⟨rfl, rfl⟩ := e
  rw [if_pos ⟨rfl, rfl⟩, if_pos (by omega)]
 ·rw [if_neg e, hh i' j' hi' hj']
  by_cases c : i' < i ∨ (i' = i ∧ j' < j)
  ·rw [if_pos c, if_pos (by omega)]
  ·rw [if_neg c, if_neg (by omega)]
theorem Half_J {n : Nat} {M0 : List (List Int)} {B : Int} (hB : B ≤ 4611686018427387904) (h0 : Rg n B M0) {x i : Nat} (hx : x < n) (hi : i < n) (hd : 0 ≤ V M0 x x) (d : Nat) : ∀ (M : List (List Int)) (j : Nat), Sq n M → j + d = n → Half n M0 M x i j → Half n M0 (foldJ x i d M j) x i n := by
 induction d with
 | zero =>
  intro M j _ hj hh
  obtain rfl : j = n := by omega
  exact hh
 | succ d ih =>
  intro M j h hj hh
  exact ih _ _ (Sq_stepJ h hi (by omega)) (by omega) (Half_step hB h0 hx hi (by omega) hd h hh)
theorem Half_next {n : Nat} {M0 M : List (List Int)} {x i : Nat} (hh : Half n M0 M x i n) : Half n M0 M x (i + 1) 0 := by
 intro i' j' hi' hj'
 rw [hh i' j' hi' hj']
 by_cases c : i' < i ∨ (i' = i ∧ j' < n)
 ·rw [if_pos c, if_pos (by omega)]
 ·rw [if_neg c, if_neg (by omega)]
theorem Half_I {n : Nat} {M0 : List (List Int)} {B : Int} (hB : B ≤ 4611686018427387904) (h0 : Rg n B M0) {x : Nat} (hx : x < n) (hd : 0 ≤ V M0 x x) (d : Nat) : ∀ (M : List (List Int)) (i : Nat), Sq n M → i + d = n → Half n M0 M x i 0 → Half n M0 (foldI n x d M i) x n 0 := by
 induction d with
 | zero =>
  intro M i _ hi hh
  obtain rfl : i = n := by omega
  exact hh
 | succ d ih =>
  intro M i h hi hh
  exact ih _ _ (Sq_foldJ (by omega) _ _ _ h (by omega)) (by omega) (Half_next (Half_J hB h0 hx (by omega) hd n M 0 h (by omega) hh))
/-- A round, where the entry from x to x is not below 0. -/
theorem round_tells {n : Nat} {M : List (List Int)} {B : Int} (hB : B ≤ 4611686018427387904) (h0 : Rg n B M) (h : Sq n M) {x : Nat} (hx : x < n) (hd : 0 ≤ V M x x) {i j : Nat} (hi : i < n) (hj : j < n) : V (foldI n x n M 0) i j = nw M x i j := by
 have := Half_I hB h0 hx hd n M 0 h (by omega) (fun i' j' _ _ => by rw [if_neg (by omega)])
 rw [this i j hi hj, if_pos (by omega)]
end Go.Proofs.YtbgokpobaemibaaDoor.Pure

/- Walks over weights: their sums, and how a walk is cut down to a path without a vertex twice. -/
namespace Go.Proofs.YtbgokpobaemibaaDoor.Pure
open Go.RowKit Go.Proofs.YtbgokpobaemibaaDoor.Pa Go.Proofs.YtbgokpobaemibaaDoorW.PrintWords Go.Proofs.YtbgokpobaemibaaDoorW.PrintLast
set_option linter.unusedVariables false
set_option linter.unusedSimpArgs false

/-- The weight of the walk from i through l. -/
def wt (w : Nat → Nat → Int) : Nat → List Nat → Int
 | _, [] => 0
 | i, j :: l => w i j + wt w j l
/-- Each of its steps has a bound. -/
def okW (w : Nat → Nat → Int) : Nat → List Nat → Prop
 | _, [] => True
 | i, j :: l => w i j < 1000000 ∧ okW w j l
def endW : Nat → List Nat → Nat
 | i, [] => i
 | _, j :: l => endW j l
theorem wt_append (w : Nat → Nat → Int) (a b : List Nat) : ∀ i, wt w i (a ++ b) = wt w i a + wt w (endW i a) b := by
 induction a with
 | nil => intro i; simp [wt, endW]
 | cons x a ih => intro i; simp only [List.cons_append, wt, endW, ih]; omega
theorem ok_append (w : Nat → Nat → Int) (a b : List Nat) : ∀ i, okW w i (a ++ b) ↔ okW w i a ∧ okW w (endW i a) b := by
 induction a with
 | nil => intro i; simp [okW, endW]
 | cons x a ih => intro i; simp only [List.cons_append, okW, endW, ih, and_assoc]
theorem end_append (a b : List Nat) : ∀ i, endW i (a ++ b) = endW (endW i a) b := by
 induction a with
 | nil => intro i; rfl
 | cons x a ih => intro i; exact ih x
theorem end_last (a : List Nat) (j i : Nat) : endW i (a ++ [j]) = j := by rw [end_append]; rfl
theorem wt_most (w : Nat → Nat → Int) (h : ∀ i j, w i j < 1000000 → -1000 ≤ w i j ∧ w i j ≤ 1000) (l : List Nat) : ∀ i, okW w i l → -1000 * (l.length : Int) ≤ wt w i l ∧ wt w i l ≤ 1000 * (l.length : Int) := by
 induction l with
 | nil => intro i _; simp [wt]
 | cons x l ih =>
  intro i ho
  have h1 := h i x ho.1
  have h2 := ih x ho.2
  simp only [wt, List.length_cons]
  push_cast
  omega
/-- Where no cycle falls, a walk weighs no less than some path with its ends. -/
theorem cut_down (w : Nat → Nat → Int) (hc : ∀ v s, s.Nodup → v ∉ s → okW w v (s ++ [v]) → 0 ≤ wt w v (s ++ [v])) (l : List Nat) : ∀ i, okW w i l →
  ∃ p, (i :: p).Nodup ∧ okW w i p ∧ endW i p = endW i l ∧ wt w i p ≤ wt w i l ∧ ∀ v ∈ p, v ∈ l := by
 induction l with
 | nil => intro i _; exact ⟨[], by simp, trivial, rfl, Int.le_refl _, fun v hv => hv⟩
 | cons j l ih =>
  intro i ho
  obtain ⟨p, hn, hp, he, hw, hs⟩ := ih j ho.2
  by_cases hi : i ∈ j :: p
  ·obtain ⟨A, B, hAB⟩ := List.append_of_mem hi
   have hn' := hn
   rw [hAB] at hn'
   have hA : A.Nodup := (List.nodup_append.mp hn').1
   have hB : (i :: B).Nodup := (List.nodup_append.mp hn').2.1
   have hiA : i ∉ A := fun h => (List.nodup_append.mp hn').2.2 i h i (List.mem_cons_self ..) rfl
   have hok : okW w i (j :: p) := ⟨ho.1, hp⟩
   have e : j :: p = (A ++ [i]) ++ B := by rw [hAB]; simp
   rw [e, ok_append, end_last] at hok
   have hcyc := hc i A hA hiA hok.1
   have hwt : wt w i (j :: p) = wt w i (A ++ [i]) + wt w i B := by rw [e, wt_append, end_last]
   have hend : endW i (j :: p) = endW i B := by rw [e, end_append, end_last]
   refine ⟨B, hB, hok.2, ?_, ?_, ?_⟩
   ·rw [← hend]; exact he
   ·have : wt w i (j :: p) = w i j + wt w j p := rfl
    have : wt w i (j :: l) = w i j + wt w j l := rfl
    omega
   ·intro v hv
    have : v ∈ j :: p := by rw [e]; exact List.mem_append_right _ hv
    rcases List.mem_cons.mp this with rfl | h
    ·exact List.mem_cons_self ..
    ·exact List.mem_cons_of_mem _ (hs v h)
  ·refine ⟨j :: p, List.nodup_cons.mpr ⟨hi, hn⟩, ⟨ho.1, hp⟩, he, ?_, ?_⟩
   ·have : wt w i (j :: p) = w i j + wt w j p := rfl
    have : wt w i (j :: l) = w i j + wt w j l := rfl
    omega
   ·intro v hv
    rcases List.mem_cons.mp hv with rfl | h
    ·exact List.mem_cons_self ..
    ·exact List.mem_cons_of_mem _ (hs v h)
/-- A list of different numbers below n has at most n of them. -/
theorem nodup_below (n : Nat) : ∀ l : List Nat, l.Nodup → (∀ v ∈ l, v < n) → l.length ≤ n := by
 induction n with
 | zero =>
  intro l _ h
  cases l with
  | nil => simp
  | cons x l => exact absurd (h x (List.mem_cons_self ..)) (by omega)
 | succ n ih =>
  intro l hn h
  by_cases hx : n ∈ l
  ·have h1 : (l.erase n).Nodup := hn.erase n
   have h2 := ih (l.erase n) h1 (fun v hv => by
    have := h v (List.mem_of_mem_erase hv)
    have hne : v ≠ n := fun e => by
     subst e
     exact (List.Nodup.mem_erase_iff hn).mp hv |>.1 rfl
    omega)
   rw [List.length_erase_of_mem hx] at h2
   omega
  ·have := ih l hn (fun v hv => by
    have := h v hv
    have hne : v ≠ n := fun e => hx (e ▸ hv)
    omega)
   omega
end Go.Proofs.YtbgokpobaemibaaDoor.Pure

/- The tightest bounds are the least weights of walks, where no event must come before itself. -/
namespace Go.Proofs.YtbgokpobaemibaaDoor.Pure
open Go.RowKit Go.Proofs.YtbgokpobaemibaaDoor.Pa Go.Proofs.YtbgokpobaemibaaDoorW.PrintWords Go.Proofs.YtbgokpobaemibaaDoorW.PrintLast Go.Proofs.YtbgokpobaemibaaDoorW.PrintMore
set_option linter.unusedVariables false
set_option linter.unusedSimpArgs false

/-- The weights of single steps. -/
def wM (n : Nat) (M : List (List Int)) (i j : Nat) : Int := if i < n ∧ j < n then V M i j else 1000000
theorem ok_in (n : Nat) (M : List (List Int)) (l : List Nat) : ∀ i, okW (wM n M) i l → ∀ v ∈ l, v < n := by
 induction l with
 | nil => intro i _ v hv; simp at hv
 | cons x l ih =>
  intro i ho v hv
  rcases List.mem_cons.mp hv with rfl | hv
  ·have := ho.1
   unfold wM at this
   split at this
   ·rename_i e; exact e.2
   ·omega
  ·exact ih x ho.2 v hv
/-- No entry is above a path by way of vertices before x. -/
def LB (w : Nat → Nat → Int) (n x : Nat) (M : List (List Int)) : Prop := ∀ i (s : List Nat) j, i < n → j < n → (∀ v ∈ s, v < n ∧ v < x) → s.Nodup → i ∉ s → j ∉ s → okW w i (s ++ [j]) → V M i j ≤ wt w i (s ++ [j])
/-- Each entry below the top is a walk's weight. -/
def Att (w : Nat → Nat → Int) (n : Nat) (M : List (List Int)) : Prop := ∀ i j, i < n → j < n → V M i j < 1000000 → ∃ l, l ≠ [] ∧ okW w i l ∧ endW i l = j ∧ V M i j = wt w i l
theorem nw_le_old (M : List (List Int)) (x i j : Nat) : nw M x i j ≤ V M i j := by
 unfold nw
 split
 ·exact mn_le _ _
 ·exact Int.le_refl _
theorem nw_le_sum {M : List (List Int)} {x i j : Nat} (a : V M i x < 1000000) (b : V M x j < 1000000) : nw M x i j ≤ V M i x + V M x j := by
 unfold nw
 rw [if_pos ⟨a, b⟩]
 unfold mn
 split <;> omega
theorem LB_step {w : Nat → Nat → Int} {n x : Nat} (hn : n ≤ 10) (hx : x < n) (hw : ∀ i j, w i j < 1000000 → -1000 ≤ w i j ∧ w i j ≤ 1000) {M M' : List (List Int)} (h : LB w n x M) (hr : ∀ i j, i < n → j < n → V M' i j = nw M x i j) : LB w n (x + 1) M' := by
 intro i s j hi hj hs hnd his hjs hok
 rw [hr i j hi hj]
 by_cases hxs : x ∈ s
 ·obtain ⟨A, B, rfl⟩ := List.append_of_mem hxs
  have hnd' := List.nodup_append.mp hnd
  have hA : A.Nodup := hnd'.1
  have hB : (x :: B).Nodup := hnd'.2.1
  have hxA : x ∉ A := fun h => hnd'.2.2 x h x (List.mem_cons_self ..) rfl
  have hxB : x ∉ B := (List.nodup_cons.mp hB).1
  have e : A ++ x :: B ++ [j] = (A ++ [x]) ++ (B ++ [j]) := by simp
  rw [e, ok_append, end_last] at hok
  rw [e, wt_append, end_last]
  have a1 := h i A x hi hx (fun v hv => ⟨(hs v (by simp [hv])).1, by
   have := (hs v (by simp [hv])).2
   have hne : v ≠ x := fun e => hxA (e ▸ hv)
   omega⟩) hA (fun hh => his (by simp [hh])) hxA hok.1
  have a2 := h x B j hx hj (fun v hv => ⟨(hs v (by simp [hv])).1, by
   have := (hs v (by simp [hv])).2
   have hne : v ≠ x := fun e => hxB (e ▸ hv)
   omega⟩) (List.nodup_cons.mp hB).2 hxB (fun hh => hjs (by simp [hh])) hok.2
  have b1 := wt_most w hw _ i hok.1
  have b2 := wt_most w hw _ x hok.2
  have l1 := nodup_below n A hA (fun v hv => (hs v (by simp [hv])).1)
  have l2 := nodup_below n B (List.nodup_cons.mp hB).2 (fun v hv => (hs v (by simp [hv])).1)
  simp only [List.length_append, List.length_singleton] at b1 b2
  have := nw_le_sum (M := M) (x := x) (i := i) (j := j) (by omega) (by omega)
  omega
 ·have := h i s j hi hj (fun v hv => ⟨(hs v hv).1, by
   have := (hs v hv).2
   have hne : v ≠ x := fun e => hxs (e ▸ hv)
   omega⟩) hnd his hjs hok
  exact Int.le_trans (nw_le_old M x i j) this
theorem Att_step {w : Nat → Nat → Int} {n x : Nat} (hx : x < n) {M M' : List (List Int)} (h : Att w n M) (hr : ∀ i j, i < n → j < n → V M' i j = nw M x i j) : Att w n M' := by
 intro i j hi hj hv
 rw [hr i j hi hj] at hv ⊢
 unfold nw at hv ⊢
 split at hv
 ·rename_i c
  rw [if_pos c]
  unfold mn at hv ⊢
  split at hv
  ·rename_i c2
   rw [if_pos c2]
   obtain ⟨l1, n1, o1, e1, v1⟩ := h i x hi hx c.1
   obtain ⟨l2, n2, o2, e2, v2⟩ := h x j hx hj c.2
   refine ⟨l1 ++ l2, by simp [n1], ?_, ?_, ?_⟩
   ·rw [ok_append, e1]; exact ⟨o1, o2⟩
   ·rw [end_append, e1]; exact e2
   ·rw [wt_append, e1, v1, v2]
  ·rename_i c2
   rw [if_neg c2]
   exact h i j hi hj hv
 ·rename_i c
  rw [if_neg c]
  exact h i j hi hj hv
theorem Rg_step {n x : Nat} {B : Int} (hx : x < n) (hB : 1000000 ≤ B) {M M' : List (List Int)} (h : Rg n B M) (hr : ∀ i j, i < n → j < n → V M' i j = nw M x i j) : Rg n (2 * B) M' := by
 intro i j hi hj
 rw [hr i j hi hj]
 have a := h i j hi hj
 have b := h i x hi hx
 have c := h x j hx hj
 unfold nw mn
 split
 ·split <;> omega
 ·omega
def bnd : Nat → Int
 | 0 => 1000000
 | x + 1 => 2 * bnd x
theorem bnd_in (x : Nat) (hx : x ≤ 10) : 1000000 ≤ bnd x ∧ bnd x ≤ 4611686018427387904 := by
 have : ∀ y : Fin 11, 1000000 ≤ bnd y ∧ bnd y ≤ 4611686018427387904 := by decide
 exact this ⟨x, by omega⟩
theorem short {w : Nat → Nat → Int} {n : Nat} (hn : n ≤ 10) (hw : ∀ i j, w i j < 1000000 → -1000 ≤ w i j ∧ w i j ≤ 1000) (d : Nat) : ∀ (M : List (List Int)) (x : Nat), x + d = n → Sq n M → LB w n x M → Att w n M → Rg n (bnd x) M → (∀ v, v < n → 0 ≤ V (foldX n d M x) v v) →
  LB w n n (foldX n d M x) ∧ Att w n (foldX n d M x) := by
 induction d with
 | zero =>
  intro M x hx hS hL hA hR hd
  obtain rfl : x = n := by omega
  exact ⟨hL, hA⟩
 | succ d ih =>
  intro M x hx hS hL hA hR hd
  have hb := bnd_in x (by omega)
  have hxn : x < n := by omega
  have hdx : 0 ≤ V M x x := Int.le_trans (hd x hxn) (foldX_le (d + 1) M x hS x x hxn)
  have hr : ∀ i j, i < n → j < n → V (foldI n x n M 0) i j = nw M x i j := fun i j hi hj => round_tells hb.2 hR hS hxn hdx hi hj
  exact ih (foldI n x n M 0) (x + 1) (by omega) (Sq_foldI _ _ _ hS (by omega)) (LB_step hn hxn hw hL hr) (Att_step hxn hA hr) (Rg_step hxn hb.1 hR hr) hd
end Go.Proofs.YtbgokpobaemibaaDoor.Pure

/- The tightest bounds: what the program and the reference both compute. -/
namespace Go.Proofs.YtbgokpobaemibaaDoor.Pure
open Go.RowKit Go.Proofs.YtbgokpobaemibaaDoor.Pa Go.Proofs.YtbgokpobaemibaaDoorW.PrintWords Go.Proofs.YtbgokpobaemibaaDoorW.PrintLast Go.Proofs.YtbgokpobaemibaaDoorW.PrintMore
set_option linter.unusedVariables false
set_option linter.unusedSimpArgs false

/-- The first row i: 0 at i, else no bound. -/
def irow (i n : Nat) : List Int := (List.replicate n (1000000 : Int)).set i 0
def irows (n : Nat) : Nat → Nat → List (List Int)
 | 0, _ => []
 | d + 1, i => irow i n :: irows n d (i + 1)
theorem irows_length (n d : Nat) : ∀ i, (irows n d i).length = d := by
 induction d with
 | zero => intro i; rfl
 | succ d ih => intro i; simp [irows, ih]
theorem irows_mem (n d : Nat) : ∀ i, ∀ r ∈ irows n d i, r.length = n ∧ ∀ y ∈ r, I64 y := by
 induction d with
 | zero => intro i r hr; simp [irows] at hr
 | succ d ih =>
  intro i r hr
  simp only [irows, List.mem_cons] at hr
  rcases hr with rfl | hr
  ·refine ⟨by simp [irow], fun y hy => ?_⟩
   rcases List.mem_or_eq_of_mem_set hy with hy | rfl
   ·have := List.eq_of_mem_replicate hy
    subst this
    unfold I64; omega
   ·unfold I64; omega
  ·exact ih _ r hr
theorem irows_Sq (n : Nat) : Sq n (irows n n 0) := ⟨irows_length n n 0, irows_mem n n 0⟩
theorem impl_rows {n : Nat} (h0 : 1 ≤ n) (hn : n ≤ 10) (bs : List S39) (d : Nat) : ∀ (k : Nat) (acc : List (List Int)) (i : Nat), acc.length = i → i + d = n →
  impl_tightest.l0 (k + d + 1) (n : Int) bs acc (n : Int) (i : Int) = impl_tightest.l1 k (acc ++ irows n d i) bs (bs.length : Int) 0 := by
 induction d with
 | zero =>
  intro k acc i ha hi
  simp only [Nat.add_zero, impl_tightest.l0, irows, List.append_nil]
  rw [if_neg (by omega)]
 | succ d ih =>
  intro k acc i ha hi
  have next := ih k (acc ++ [irow i n]) (i + 1) (by simp [ha]) (by omega)
  rw [irows, show acc ++ irow i n :: irows n d (i + 1) = acc ++ [irow i n] ++ irows n d (i + 1) by simp, ← next, show ((i + 1 : Nat) : Int) = (i : Int) + 1 from by omega]
  rw [show k + (d + 1) + 1 = (k + d + 1) + 1 from rfl]
  generalize k + d + 1 = m
  simp only [impl_tightest.l0]
  have e : slices_Repeat_int64_int64.f [1000000] (n : Int) = some (List.replicate n (1000000 : Int)) := by
   unfold slices_Repeat_int64_int64.f
   rw [if_pos ⟨rfl, by omega, by omega⟩]
   rfl
  rw [if_pos (by omega), e]
  simp only [Option.bind_some, List.length_replicate, Int.toNat_natCast]
  rw [if_pos (by omega), if_pos (by omega), if_pos (by omega), wrap_id (by omega) (by omega)]
  rfl
/-- One bound laid into the rows. -/
def bput (M : List (List Int)) (b : S39) : List (List Int) := M.set b.f0.toNat ((rd_L6 M b.f0).set b.f1.toNat (mn (rd (rd_L6 M b.f0) b.f1) b.f2))
/-- The bounds, but for those whose places are listed. -/
def bputs (w : List Int) : List S39 → Nat → List (List Int) → List (List Int)
 | [], _, M => M
 | b :: bs, i, M => bputs w bs (i + 1) (if w.contains (i : Int) then M else bput M b)
theorem bputs_nil_cons (b : S39) (bs : List S39) (i : Nat) (M : List (List Int)) : bputs [] (b :: bs) i M = bputs [] bs (i + 1) (bput M b) := rfl
/-- A bound between events below n. -/
def Bd (n : Nat) (b : S39) : Prop := 0 ≤ b.f0 ∧ b.f0 < (n : Int) ∧ 0 ≤ b.f1 ∧ b.f1 < (n : Int) ∧ I64 b.f2
theorem Sq_bput {n : Nat} {M : List (List Int)} (h : Sq n M) {b : S39} (hb : Bd n b) : Sq n (bput M b) := by
 obtain ⟨h0, h1, h2, h3, h4⟩ := hb
 have e0 : b.f0 = ((b.f0.toNat : Nat) : Int) := by omega
 have e1 : b.f1 = ((b.f1.toNat : Nat) : Int) := by omega
 have c := cell_in h (i := b.f0.toNat) (j := b.f1.toNat) (by omega) (by omega)
 have s := Sq_put h (i := b.f0.toNat) (by omega) b.f1.toNat (I64_mn c h4)
 rw [← e0, ← e1] at s
 exact s
theorem Sq_bputs {n : Nat} (w : List Int) (bs : List S39) : ∀ (i : Nat) (M : List (List Int)), Sq n M → (∀ b ∈ bs, Bd n b) → Sq n (bputs w bs i M) := by
 induction bs with
 | nil => intro i M h _; exact h
 | cons b bs ih =>
  intro i M h hb
  refine ih _ _ ?_ (fun x hx => hb x (List.mem_cons_of_mem _ hx))
  split
  ·exact h
  ·exact Sq_bput h (hb b (List.mem_cons_self ..))
theorem impl_bs {n : Nat} (all : List S39) (hall : all.length ≤ 100) (hb : ∀ b ∈ all, Bd n b) (bs : List S39) : ∀ (k : Nat) (M : List (List Int)) (i : Nat), Sq n M → all.drop i = bs → i + bs.length = all.length →
  impl_tightest.l1 (k + bs.length + 1) M all (all.length : Int) (i : Int) = impl_tightest.l2 k (bputs [] bs i M) (n : Int) 0 := by
 induction bs with
 | nil =>
  intro k M i h hd hl
  simp only [List.length_nil, Nat.add_zero] at hl ⊢
  simp only [impl_tightest.l1, bputs]
  rw [if_neg (by omega), h.1]
 | cons b bs ih =>
  intro k M i h hd hl
  simp only [List.length_cons] at hl ⊢
  have hi : i < all.length := by omega
  have hd' := List.drop_eq_getElem_cons hi
  rw [hd] at hd'
  obtain ⟨e1, e2⟩ := List.cons.inj hd'
  have hB := hb b (by rw [e1]; exact List.getElem_mem _)
  obtain ⟨b0, b1, b2, b3, b4⟩ := hB
  have hrow : (rd_L6 M b.f0).length = n := by
   have := row_len h (i := b.f0.toNat) (by omega)
   rwa [show ((b.f0.toNat : Nat) : Int) = b.f0 by omega] at this
  have hM := h.1
  have next := ih k (bput M b) (i + 1) (Sq_bput h ⟨b0, b1, b2, b3, b4⟩) e2.symm (by omega)
  rw [bputs_nil_cons, ← next, show ((i + 1 : Nat) : Int) = (i : Int) + 1 from by omega, show k + (bs.length + 1) + 1 = (k + bs.length + 1) + 1 from rfl]
  generalize k + bs.length + 1 = m
  simp only [impl_tightest.l1, rdB_get hi, ← e1]
  rw [if_pos (by omega), if_pos (by omega), if_pos (by omega), if_pos b0, if_pos (by omega), if_pos b2, if_pos (by omega), wrap_id (by omega) (by omega)]
  rfl
/-- The tightest bounds of n events, but for the bounds whose places are listed. -/
def tight (n : Nat) (bs : List S39) (w : List Int) : List (List Int) := foldX n n (bputs w bs 0 (irows n n 0)) 0
def feasible (n : Nat) (bs : List S39) (w : List Int) : Bool := diag n (tight n bs w) 0
theorem tight_Sq {n : Nat} {bs : List S39} (hb : ∀ b ∈ bs, Bd n b) (w : List Int) : Sq n (tight n bs w) := Sq_foldX _ _ _ (Sq_bputs _ _ _ _ (irows_Sq n) hb)
theorem impl_tight {n : Nat} (h0 : 1 ≤ n) (hn : n ≤ 10) (bs : List S39) (hl : bs.length ≤ 24) (hb : ∀ b ∈ bs, Bd n b) : ∃ K, ∀ k, K ≤ k →
  impl_tightest.f k (n : Int) bs = some (if feasible n bs [] = true then (tight n bs [], true) else ([], false)) := by
 refine ⟨n + 1 + n * (n * (n + 2) + 2) + 1 + bs.length + 1 + n + 1, fun k hk => ?_⟩
 obtain ⟨q, rfl⟩ : ∃ q, k = q + n + 1 + n * (n * (n + 2) + 2) + 1 + bs.length + 1 + n + 1 := ⟨k - (n + 1 + n * (n * (n + 2) + 2) + 1 + bs.length + 1 + n + 1), by omega⟩
 unfold impl_tightest.f
 have h1 := impl_rows h0 hn bs n (q + n + 1 + n * (n * (n + 2) + 2) + 1 + bs.length + 1) [] 0 rfl (by omega)
 have h2 := impl_bs bs (by omega) hb bs (q + n + 1 + n * (n * (n + 2) + 2) + 1) (irows n n 0) 0 (irows_Sq n) rfl (by omega)
 have hS := Sq_bputs (n := n) [] bs 0 _ (irows_Sq n) hb
 have h3 := impl_x hn n (q + n + 1) _ 0 hS (by omega)
 have h4 := impl_d hn n q _ 0 (Sq_foldX n _ 0 hS) (by omega)
 rw [show ((0 : Nat) : Int) = 0 from rfl] at h1 h2 h3 h4
 rw [h1, List.nil_append, h2, h3, h4]
 rfl
/-- What a diagram in bounds says. -/
theorem dia_ok {n : Int} {bs : List S39} (h : diagramOk n bs = true) : ∃ m : Nat, n = (m : Int) ∧ 1 ≤ m ∧ m ≤ 10 ∧ bs.length ≤ 24 ∧ ∀ b ∈ bs, Bd m b := by
 unfold diagramOk at h
 simp only [Bool.and_eq_true, decide_eq_true_eq, List.all_eq_true] at h
 obtain ⟨⟨⟨h0, h1⟩, h2⟩, h3⟩ := h
 refine ⟨n.toNat, by omega, by omega, by omega, h2, fun b hb => ?_⟩
 have := h3 b hb
 unfold boundOk at this
 simp only [Bool.and_eq_true, decide_eq_true_eq] at this
 obtain ⟨⟨⟨⟨a, b'⟩, c, d⟩, _⟩, e, f⟩ := this
 unfold Bd I64
 omega
end Go.Proofs.YtbgokpobaemibaaDoor.Pure

/- What the tightest bounds of a diagram that can be kept are. -/
namespace Go.Proofs.YtbgokpobaemibaaDoor.Pure
open Go.RowKit Go.Proofs.YtbgokpobaemibaaDoor.Pa Go.Proofs.YtbgokpobaemibaaDoorW.PrintWords Go.Proofs.YtbgokpobaemibaaDoorW.PrintLast Go.Proofs.YtbgokpobaemibaaDoorW.PrintMore
set_option linter.unusedVariables false
set_option linter.unusedSimpArgs false

theorem diag_all (d : Nat) : ∀ (M : List (List Int)) (i : Nat), diag d M i = true ↔ ∀ v, i ≤ v → v < i + d → 0 ≤ V M v v := by
 induction d with
 | zero => intro M i; simp only [diag, true_iff]; intro v h1 h2; omega
 | succ d ih =>
  intro M i
  have e : diag (d + 1) M i = if V M i i < 0 then false else diag d M (i + 1) := rfl
  rw [e]
  by_cases c : V M i i < 0
  ·rw [if_pos c]
   constructor
   ·intro h; simp at h
   ·intro h
    have := h i (Nat.le_refl _) (by omega)
    omega
  ·rw [if_neg c, ih]
   constructor
   ·intro h v h1 h2
    by_cases e : v = i
    ·subst e; omega
    ·exact h v (by omega) (by omega)
   ·intro h v h1 h2
    exact h v (by omega) (by omega)
/-- A first entry: no bound, or a small one. -/
def Ent (n : Nat) (M : List (List Int)) : Prop := ∀ i j, i < n → j < n → V M i j = 1000000 ∨ (-1000 ≤ V M i j ∧ V M i j ≤ 1000)
def Lim (b : S39) : Prop := -1000 ≤ b.f2 ∧ b.f2 ≤ 1000
theorem bput_V {n : Nat} {M : List (List Int)} (h : Sq n M) {b : S39} (hb : Bd n b) {i j : Nat} (hi : i < n) : V (bput M b) i j = if i = b.f0.toNat ∧ j = b.f1.toNat then mn (V M i j) b.f2 else V M i j := by
 obtain ⟨h0, h1, h2, h3, _⟩ := hb
 have e0 : ((b.f0.toNat : Nat) : Int) = b.f0 := by omega
 have e1 : ((b.f1.toNat : Nat) : Int) = b.f1 := by omega
 have := V_put h (i := b.f0.toNat) (j := b.f1.toNat) (i' := i) (j' := j) (by omega) (by omega) hi (mn (V M b.f0.toNat b.f1.toNat) b.f2)
 unfold bput
 unfold V at this ⊢
 rw [e0, e1] at this
 rw [this]
 by_cases e : i = b.f0.toNat ∧ j = b.f1.toNat
 ·obtain ⟨rfl, rfl⟩ := e
  rw [if_pos ⟨rfl, rfl⟩, if_pos ⟨rfl, rfl⟩, e0, e1]
 ·rw [if_neg e, if_neg e]
theorem bput_le {n : Nat} {M : List (List Int)} (h : Sq n M) {b : S39} (hb : Bd n b) {i j : Nat} (hi : i < n) : V (bput M b) i j ≤ V M i j := by
 rw [bput_V h hb hi]
 split
 ·exact mn_le _ _
 ·exact Int.le_refl _
theorem bput_Ent {n : Nat} {M : List (List Int)} (h : Sq n M) {b : S39} (hb : Bd n b) (hl : Lim b) (he : Ent n M) : Ent n (bput M b) := by
 intro i j hi hj
 have := he i j hi hj
 obtain ⟨l1, l2⟩ := hl
 rw [bput_V h hb hi]
 unfold mn
 split
 ·split <;> omega
 ·exact this
theorem bputs_le {n : Nat} (w : List Int) (bs : List S39) : ∀ (q : Nat) (M : List (List Int)), Sq n M → (∀ b ∈ bs, Bd n b) → ∀ i j, i < n → V (bputs w bs q M) i j ≤ V M i j := by
 induction bs with
 | nil => intro q M _ _ i j _; exact Int.le_refl _
 | cons b bs ih =>
  intro q M h hb i j hi
  have hb0 := hb b (List.mem_cons_self ..)
  have hbs := fun x hx => hb x (List.mem_cons_of_mem b hx)
  rw [bputs]
  by_cases c : w.contains (q : Int) = true
  ·rw [if_pos c]; exact ih (q + 1) M h hbs i j hi
  ·rw [if_neg c]; exact Int.le_trans (ih (q + 1) _ (Sq_bput h hb0) hbs i j hi) (bput_le h hb0 hi)
theorem bputs_Ent {n : Nat} (w : List Int) (bs : List S39) : ∀ (q : Nat) (M : List (List Int)), Sq n M → (∀ b ∈ bs, Bd n b) → (∀ b ∈ bs, Lim b) → Ent n M → Ent n (bputs w bs q M) := by
 induction bs with
 | nil => intro q M _ _ _ he; exact he
 | cons b bs ih =>
  intro q M h hb hl he
  have hb0 := hb b (List.mem_cons_self ..)
  have hl0 := hl b (List.mem_cons_self ..)
  have hbs := fun x hx => hb x (List.mem_cons_of_mem b hx)
  have hls := fun x hx => hl x (List.mem_cons_of_mem b hx)
  rw [bputs]
  by_cases c : w.contains (q : Int) = true
  ·rw [if_pos c]; exact ih (q + 1) M h hbs hls he
  ·rw [if_neg c]; exact ih (q + 1) _ (Sq_bput h hb0) hbs hls (bput_Ent h hb0 hl0 he)
/-- A bound that is not left out is kept by its entry. -/
theorem bputs_has {n : Nat} (w : List Int) (bs : List S39) : ∀ (q : Nat) (M : List (List Int)), Sq n M → (∀ b ∈ bs, Bd n b) → ∀ p (hp : p < bs.length), w.contains ((q + p : Nat) : Int) = false → V (bputs w bs q M) bs[p].f0.toNat bs[p].f1.toNat ≤ bs[p].f2 := by
 induction bs with
 | nil => intro q M _ _ p hp; simp at hp
 | cons b bs ih =>
  intro q M h hb p hp hc
  have hb0 := hb b (List.mem_cons_self ..)
  have hbs := fun x hx => hb x (List.mem_cons_of_mem b hx)
  rw [bputs]
  cases p with
  | zero =>
   rw [Nat.add_zero] at hc
   rw [if_neg (by rw [hc]; simp)]
   obtain ⟨h0, h1, _⟩ := id hb0
   refine Int.le_trans (bputs_le w bs (q + 1) _ (Sq_bput h hb0) hbs _ _ (by simp only [List.getElem_cons_zero]; omega)) ?_
   simp only [List.getElem_cons_zero]
   rw [bput_V h hb0 (by omega), if_pos ⟨rfl, rfl⟩]
   unfold mn
   split <;> omega
  | succ p =>
   have hS : Sq n (if w.contains (q : Int) then M else bput M b) := by
    split
    ·exact h
    ·exact Sq_bput h hb0
   simp only [List.getElem_cons_succ]
   exact ih (q + 1) _ hS hbs p (by simpa using hp) (by rw [← hc]; congr 2; omega)
theorem irows_get (n d : Nat) : ∀ i p, p < d → (irows n d i)[p]? = some (irow (i + p) n) := by
 induction d with
 | zero => intro i p h; omega
 | succ d ih =>
  intro i p h
  cases p with
  | zero => rfl
  | succ p =>
   have := ih (i + 1) p (by omega)
   simp only [irows, List.getElem?_cons_succ, this]
   congr 2
   omega
theorem irows_V (n i j : Nat) (hi : i < n) (hj : j < n) : V (irows n n 0) i j = if j = i then 0 else 1000000 := by
 unfold V rd_L6
 rw [List.getD_eq_getElem?_getD, Int.toNat_natCast, irows_get n n 0 i hi, Nat.zero_add]
 simp only [Option.getD_some]
 unfold irow
 rw [rd_set (by simpa using hi)]
 by_cases e : j = i
 ·rw [if_pos e, if_pos e]
 ·rw [if_neg e, if_neg e, rd_get (by simpa using hj)]
  simp
theorem irows_Ent (n : Nat) : Ent n (irows n n 0) := by
 intro i j hi hj
 rw [irows_V n i j hi hj]
 split
 ·right; omega
 ·left; rfl
/-- The first entries of a diagram. -/
def first (n : Nat) (bs : List S39) (w : List Int) : List (List Int) := bputs w bs 0 (irows n n 0)
section
variable {n : Nat} {bs : List S39} {w : List Int}
theorem first_Sq (hb : ∀ b ∈ bs, Bd n b) : Sq n (first n bs w) := Sq_bputs _ _ _ _ (irows_Sq n) hb
theorem first_Ent (hb : ∀ b ∈ bs, Bd n b) (hl : ∀ b ∈ bs, Lim b) : Ent n (first n bs w) := bputs_Ent _ _ _ _ (irows_Sq n) hb hl (irows_Ent n)
theorem wM_lim (hb : ∀ b ∈ bs, Bd n b) (hl : ∀ b ∈ bs, Lim b) : ∀ i j, wM n (first n bs w) i j < 1000000 → -1000 ≤ wM n (first n bs w) i j ∧ wM n (first n bs w) i j ≤ 1000 := by
 intro i j h
 unfold wM at h ⊢
 split at h
 ·rename_i c
  rw [if_pos c]
  have := first_Ent (w := w) hb hl i j c.1 c.2
  omega
 ·omega
/-- Least weights: below every path, and each of them a walk's. -/
theorem tight_short (hn : n ≤ 10) (hb : ∀ b ∈ bs, Bd n b) (hl : ∀ b ∈ bs, Lim b) (hf : feasible n bs w = true) :
  (∀ v, v < n → 0 ≤ V (tight n bs w) v v) ∧ LB (wM n (first n bs w)) n n (tight n bs w) ∧ Att (wM n (first n bs w)) n (tight n bs w) := by
 have hd : ∀ v, v < n → 0 ≤ V (tight n bs w) v v := fun v hv => (diag_all n _ 0).1 hf v (by omega) (by omega)
 have hE := first_Ent (w := w) hb hl
 have hL : LB (wM n (first n bs w)) n 0 (first n bs w) := by
  intro i s j hi hj hs _ _ _ _
  cases s with
  | nil =>
   simp only [List.nil_append, wt]
   unfold wM
   rw [if_pos ⟨hi, hj⟩]
   omega
  | cons x s => have := (hs x (List.mem_cons_self ..)).2; omega
 have hA : Att (wM n (first n bs w)) n (first n bs w) := by
  intro i j hi hj hv
  have e : wM n (first n bs w) i j = V (first n bs w) i j := by unfold wM; rw [if_pos ⟨hi, hj⟩]
  refine ⟨[j], by simp, ⟨by rw [e]; exact hv, trivial⟩, rfl, ?_⟩
  simp only [wt, e]
  omega
 have hR : Rg n (bnd 0) (first n bs w) := by
  intro i j hi hj
  have := hE i j hi hj
  unfold bnd
  omega
 exact ⟨hd, short hn (wM_lim hb hl) n (first n bs w) 0 (by omega) (first_Sq hb) hL hA hR hd⟩
theorem tight_self (hn : n ≤ 10) (hb : ∀ b ∈ bs, Bd n b) (hl : ∀ b ∈ bs, Lim b) (hf : feasible n bs w = true) {v : Nat} (hv : v < n) : V (tight n bs w) v v = 0 := by
 have h1 := (tight_short hn hb hl hf).1 v hv
 have h2 : V (tight n bs w) v v ≤ V (first n bs w) v v := foldX_le n _ 0 (first_Sq hb) v v hv
 have h3 : V (first n bs w) v v ≤ V (irows n n 0) v v := bputs_le w bs 0 _ (irows_Sq n) hb v v hv
 rw [irows_V n v v hv hv, if_pos rfl] at h3
 omega
/-- No entry is above a walk. -/
theorem tight_walk (hn : n ≤ 10) (hb : ∀ b ∈ bs, Bd n b) (hl : ∀ b ∈ bs, Lim b) (hf : feasible n bs w = true) {i : Nat} (hi : i < n) (l : List Nat) (ho : okW (wM n (first n bs w)) i l) :
  V (tight n bs w) i (endW i l) ≤ wt (wM n (first n bs w)) i l ∧ (V (tight n bs w) i (endW i l) ≤ 10000) ∧ -10000 ≤ wt (wM n (first n bs w)) i l := by
 obtain ⟨hd, hL, _⟩ := tight_short hn hb hl hf
 obtain ⟨p, pn, po, pe, pw, ps⟩ := cut_down (wM n (first n bs w)) (fun v s hs hvs hok => by
  have hin := ok_in n _ _ _ hok
  have hvn : v < n := hin v (by simp)
  have := hL v s v hvn hvn (fun u hu => ⟨hin u (by simp [hu]), hin u (by simp [hu])⟩) hs hvs hvs hok
  have := hd v hvn
  omega) l i ho
 have hin := ok_in n _ _ _ po
 have hlen : p.length ≤ 10 := Nat.le_trans (nodup_below n p (List.nodup_cons.mp pn).2 hin) hn
 have hmost := wt_most _ (wM_lim hb hl) p i po
 rcases List.eq_nil_or_concat p with rfl | ⟨s, j, rfl⟩
 ·have e : endW i l = i := pe.symm
  have := tight_self hn hb hl hf hi
  have e2 : wt (wM n (first n bs w)) i [] = 0 := rfl
  rw [e, this]
  omega
 ·rw [List.concat_eq_append] at *
  have e : endW i l = j := by rw [← pe, end_last]
  have hjn : j < n := hin j (by simp)
  have hn2 := List.nodup_cons.mp pn
  have hn3 := List.nodup_append.mp hn2.2
  have := hL i s j hi hjn (fun u hu => ⟨hin u (by simp [hu]), hin u (by simp [hu])⟩) hn3.1 (fun h => hn2.1 (by simp [h])) (fun h => hn3.2.2 j h j (by simp) rfl) po
  rw [e]
  omega
theorem tight_range (hn : n ≤ 10) (hb : ∀ b ∈ bs, Bd n b) (hl : ∀ b ∈ bs, Lim b) (hf : feasible n bs w = true) {i j : Nat} (hi : i < n) (hj : j < n) (hv : V (tight n bs w) i j < 1000000) : -10000 ≤ V (tight n bs w) i j ∧ V (tight n bs w) i j ≤ 10000 := by
 obtain ⟨l, _, ho, he, hw⟩ := (tight_short hn hb hl hf).2.2 i j hi hj hv
 have := tight_walk hn hb hl hf hi l ho
 rw [he] at this
 omega
theorem tight_le (hb : ∀ b ∈ bs, Bd n b) {i j : Nat} (hi : i < n) (hj : j < n) : V (tight n bs w) i j ≤ 1000000 := by
 have h2 : V (tight n bs w) i j ≤ V (first n bs w) i j := foldX_le n _ 0 (first_Sq hb) i j hi
 have h3 : V (first n bs w) i j ≤ V (irows n n 0) i j := bputs_le w bs 0 _ (irows_Sq n) hb i j hi
 rw [irows_V n i j hi hj] at h3
 split at h3 <;> omega
/-- By way of a third event. -/
theorem tight_via (hn : n ≤ 10) (hb : ∀ b ∈ bs, Bd n b) (hl : ∀ b ∈ bs, Lim b) (hf : feasible n bs w = true) {i k j : Nat} (hi : i < n) (hk : k < n) (hj : j < n) (h1 : V (tight n bs w) i k < 1000000) (h2 : V (tight n bs w) k j < 1000000) : V (tight n bs w) i j ≤ V (tight n bs w) i k + V (tight n bs w) k j := by
 obtain ⟨l1, _, o1, e1, v1⟩ := (tight_short hn hb hl hf).2.2 i k hi hk h1
 obtain ⟨l2, _, o2, e2, v2⟩ := (tight_short hn hb hl hf).2.2 k j hk hj h2
 have := (tight_walk hn hb hl hf hi (l1 ++ l2) (by rw [ok_append, e1]; exact ⟨o1, o2⟩)).1
 rw [end_append, e1, e2, wt_append, e1, ← v1, ← v2] at this
 exact this
/-- A bound is kept. -/
theorem tight_bound (hn : n ≤ 10) (hb : ∀ b ∈ bs, Bd n b) {p : Nat} (hp : p < bs.length) (hc : w.contains (p : Int) = false) : V (tight n bs w) bs[p].f0.toNat bs[p].f1.toNat ≤ bs[p].f2 := by
 obtain ⟨h0, h1, _⟩ := hb _ (List.getElem_mem hp)
 have h2 := foldX_le n (first n bs w) 0 (first_Sq hb) bs[p].f0.toNat bs[p].f1.toNat (by omega)
 have h3 := bputs_has w bs 0 _ (irows_Sq n) hb p hp (by rw [Nat.zero_add]; exact hc)
 exact Int.le_trans h2 h3
/-- Times that keep each single step keep each entry. -/
theorem tight_timed (hn : n ≤ 10) (hb : ∀ b ∈ bs, Bd n b) (hl : ∀ b ∈ bs, Lim b) (hf : feasible n bs w = true) (t : Nat → Int) (ht : ∀ i j, wM n (first n bs w) i j < 1000000 → t j - t i ≤ wM n (first n bs w) i j) {i j : Nat} (hi : i < n) (hj : j < n) (hv : V (tight n bs w) i j < 1000000) : t j - t i ≤ V (tight n bs w) i j := by
 obtain ⟨l, _, ho, he, hw⟩ := (tight_short hn hb hl hf).2.2 i j hi hj hv
 have key : ∀ (l : List Nat) (i : Nat), okW (wM n (first n bs w)) i l → t (endW i l) - t i ≤ wt (wM n (first n bs w)) i l := by
  intro l
  induction l with
  | nil => intro i _; simp [endW, wt]
  | cons x l ih =>
   intro i ho
   have h1 := ht i x ho.1
   have h2 := ih x ho.2
   simp only [endW, wt]
   omega
 have := key l i ho
 rw [he] at this
 omega
end
end Go.Proofs.YtbgokpobaemibaaDoor.Pure

/- Diagrams whose bounds change: what allows the same, what can be left out, how far a bound can be made less. -/
namespace Go.Proofs.YtbgokpobaemibaaDoor.Pure
open Go.RowKit Go.Proofs.YtbgokpobaemibaaDoor.Pa Go.Proofs.YtbgokpobaemibaaDoorW.PrintWords Go.Proofs.YtbgokpobaemibaaDoorW.PrintLast Go.Proofs.YtbgokpobaemibaaDoorW.PrintMore
set_option linter.unusedVariables false
set_option linter.unusedSimpArgs false

section
variable {n : Nat} {bs : List S39}
/-- Times that keep each bound keep each single step. -/
theorem bputs_timed (t : Nat → Int) (bs : List S39) : ∀ (q : Nat) (M : List (List Int)), Sq n M → (∀ b ∈ bs, Bd n b) → (∀ b ∈ bs, t b.f1.toNat - t b.f0.toNat ≤ b.f2) →
  (∀ i j, i < n → j < n → V M i j < 1000000 → t j - t i ≤ V M i j) → ∀ i j, i < n → j < n → V (bputs [] bs q M) i j < 1000000 → t j - t i ≤ V (bputs [] bs q M) i j := by
 induction bs with
 | nil => intro q M _ _ _ h; exact h
 | cons b bs ih =>
  intro q M hS hb ht h
  have hb0 := hb b (List.mem_cons_self ..)
  have ht0 := ht b (List.mem_cons_self ..)
  rw [bputs_nil_cons]
  refine ih (q + 1) (bput M b) (Sq_bput hS hb0) (fun x hx => hb x (List.mem_cons_of_mem _ hx)) (fun x hx => ht x (List.mem_cons_of_mem _ hx)) (fun i j hi hj hv => ?_)
  rw [bput_V hS hb0 hi] at hv ⊢
  by_cases e : i = b.f0.toNat ∧ j = b.f1.toNat
  ·rw [if_pos e] at hv ⊢
   obtain ⟨rfl, rfl⟩ := e
   unfold mn at hv ⊢
   split
   ·exact ht0
   ·rename_i hc
    rw [if_neg hc] at hv
    exact h _ _ hi hj hv
  ·rw [if_neg e] at hv ⊢
   exact h i j hi hj hv
theorem first_timed (t : Nat → Int) (hb : ∀ b ∈ bs, Bd n b) (ht : ∀ b ∈ bs, t b.f1.toNat - t b.f0.toNat ≤ b.f2) : ∀ i j, wM n (first n bs []) i j < 1000000 → t j - t i ≤ wM n (first n bs []) i j := by
 intro i j hv
 unfold wM at hv ⊢
 split at hv
 ·rename_i c
  rw [if_pos c]
  refine bputs_timed t bs 0 (irows n n 0) (irows_Sq n) hb ht (fun i j hi hj hv => ?_) i j c.1 c.2 hv
  rw [irows_V n i j hi hj] at hv ⊢
  split
  ·rename_i e
   rw [e]; omega
  ·rename_i e
   rw [if_neg e] at hv
   omega
 ·omega
theorem times_in (hn : n ≤ 10) (hb : ∀ b ∈ bs, Bd n b) (hl : ∀ b ∈ bs, Lim b) (hf : feasible n bs [] = true) (t : Nat → Int) (ht : ∀ b ∈ bs, t b.f1.toNat - t b.f0.toNat ≤ b.f2) {i j : Nat} (hi : i < n) (hj : j < n) (hv : V (tight n bs []) i j < 1000000) : t j - t i ≤ V (tight n bs []) i j :=
 tight_timed hn hb hl hf t (first_timed t hb ht) hi hj hv
theorem bound_V (hn : n ≤ 10) (hb : ∀ b ∈ bs, Bd n b) {b : S39} (h : b ∈ bs) : V (tight n bs []) b.f0.toNat b.f1.toNat ≤ b.f2 := by
 obtain ⟨p, hp, rfl⟩ := List.getElem_of_mem h
 exact tight_bound hn hb hp (by simp)
/-- Each entry of the first rows is a bound's limit, or 0 on the diagonal, or no bound. -/
theorem bputs_from (all : List S39) (bs : List S39) : ∀ (q : Nat) (M : List (List Int)), Sq n M → (∀ b ∈ bs, Bd n b) → (∀ b ∈ bs, b ∈ all) → (∀ i j, i < n → j < n → V M i j = (if j = i then 0 else 1000000) ∨ ∃ b ∈ all, b.f0 = (i : Int) ∧ b.f1 = (j : Int) ∧ V M i j = b.f2) →
  ∀ i j, i < n → j < n → V (bputs [] bs q M) i j = (if j = i then 0 else 1000000) ∨ ∃ b ∈ all, b.f0 = (i : Int) ∧ b.f1 = (j : Int) ∧ V (bputs [] bs q M) i j = b.f2 := by
 induction bs with
 | nil => intro q M _ _ _ h; exact h
 | cons b bs ih =>
  intro q M hS hb ha h
  have hb0 := hb b (List.mem_cons_self ..)
  rw [bputs_nil_cons]
  refine ih (q + 1) (bput M b) (Sq_bput hS hb0) (fun x hx => hb x (List.mem_cons_of_mem _ hx)) (fun x hx => ha x (List.mem_cons_of_mem _ hx)) (fun i j hi hj => ?_)
  rw [bput_V hS hb0 hi]
  by_cases e : i = b.f0.toNat ∧ j = b.f1.toNat
  ·rw [if_pos e]
   unfold mn
   split
   ·unfold Bd at hb0
    exact Or.inr ⟨b, ha b (List.mem_cons_self ..), by omega, by omega, rfl⟩
   ·exact h i j hi hj
  ·rw [if_neg e]
   exact h i j hi hj
theorem step_from (hb : ∀ b ∈ bs, Bd n b) {i j : Nat} (hw : wM n (first n bs []) i j < 1000000) : i < n ∧ j < n ∧ ((i = j ∧ wM n (first n bs []) i j = 0) ∨ ∃ b ∈ bs, b.f0 = (i : Int) ∧ b.f1 = (j : Int) ∧ wM n (first n bs []) i j = b.f2) := by
 unfold wM at hw ⊢
 split at hw
 ·rename_i c
  rw [if_pos c]
  refine ⟨c.1, c.2, ?_⟩
  have := bputs_from bs bs 0 (irows n n 0) (irows_Sq n) hb (fun b h => h) (fun i j hi hj => Or.inl (irows_V n i j hi hj)) i j c.1 c.2
  unfold first at hw ⊢
  rcases this with h | h
  ·split at h
   ·rename_i e; exact Or.inl ⟨e.symm, h⟩
   ·omega
  ·exact Or.inr h
 ·omega
/-- Where an entry comes to be below 0 on the diagonal, a closed walk falls. -/
theorem falls {w : Nat → Nat → Int} (hn : n ≤ 10) (d : Nat) : ∀ (M : List (List Int)) (x : Nat), x + d = n → Sq n M → Att w n M → Rg n (bnd x) M → (∃ v, v < n ∧ V (foldX n d M x) v v < 0) →
  ∃ v l, v < n ∧ okW w v l ∧ endW v l = v ∧ wt w v l < 0 := by
 induction d with
 | zero =>
  intro M x hx hS hA hR ⟨v, hv, h⟩
  obtain ⟨l, _, ho, he, hw⟩ := hA v v hv hv (by simp only [foldX] at h; omega)
  simp only [foldX] at h
  exact ⟨v, l, hv, ho, he, by omega⟩
 | succ d ih =>
  intro M x hx hS hA hR h
  have hb := bnd_in x (by omega)
  have hxn : x < n := by omega
  by_cases hdx : 0 ≤ V M x x
  ·have hr : ∀ i j, i < n → j < n → V (foldI n x n M 0) i j = nw M x i j := fun i j hi hj => round_tells hb.2 hR hS hxn hdx hi hj
   exact ih (foldI n x n M 0) (x + 1) (by omega) (Sq_foldI _ _ _ hS (by omega)) (Att_step hxn hA hr) (Rg_step hxn hb.1 hR hr) h
  ·obtain ⟨l, _, ho, he, hw⟩ := hA x x hxn hxn (by omega)
   exact ⟨x, l, hxn, ho, he, by omega⟩
/-- Times that keep all bounds: there is no contradiction. -/
theorem timed_feasible (hn : n ≤ 10) (hb : ∀ b ∈ bs, Bd n b) (hl : ∀ b ∈ bs, Lim b) (t : Nat → Int) (ht : ∀ b ∈ bs, t b.f1.toNat - t b.f0.toNat ≤ b.f2) : feasible n bs [] = true := by
 apply Classical.byContradiction
 intro hf
 have hE := first_Ent (w := []) hb hl
 have hA : Att (wM n (first n bs [])) n (first n bs []) := by
  intro i j hi hj hv
  have e : wM n (first n bs []) i j = V (first n bs []) i j := by unfold wM; rw [if_pos ⟨hi, hj⟩]
  refine ⟨[j], by simp, ⟨by rw [e]; exact hv, trivial⟩, rfl, ?_⟩
  simp only [wt, e]
  omega
 have hR : Rg n (bnd 0) (first n bs []) := by
  intro i j hi hj
  have := hE i j hi hj
  unfold bnd
  omega
 have hd : ∃ v, v < n ∧ V (foldX n n (first n bs []) 0) v v < 0 := by
  apply Classical.byContradiction
  intro hno
  exact hf ((diag_all n _ 0).2 fun v _ hv => by
   apply Classical.byContradiction
   intro hneg
   have hneg' : ¬ 0 ≤ V (foldX n n (first n bs []) 0) v v := hneg
   exact hno ⟨v, by omega, by omega⟩)
 obtain ⟨v, l, hv, ho, he, hw⟩ := falls hn n (first n bs []) 0 (by omega) (first_Sq hb) hA hR hd
 have key : ∀ (l : List Nat) (i : Nat), okW (wM n (first n bs [])) i l → t (endW i l) - t i ≤ wt (wM n (first n bs [])) i l := by
  intro l
  induction l with
  | nil => intro i _; simp [endW, wt]
  | cons x l ih =>
   intro i ho
   have h1 := first_timed t hb ht i x ho.1
   have h2 := ih x ho.2
   simp only [endW, wt]
   omega
 have := key l v ho
 rw [he] at this
 omega
/-- Times that keep all bounds, out of the least entries of the columns. -/
def pot (M : List (List Int)) : Nat → Nat → Int
 | 0, _ => 0
 | d + 1, j => mn (pot M d j) (V M d j)
theorem pot_le (M : List (List Int)) (j : Nat) : ∀ d, pot M d j ≤ 0
 | 0 => Int.le_refl _
 | d + 1 => Int.le_trans (mn_le _ _) (pot_le M j d)
theorem mn_cases (a b : Int) : mn a b = a ∨ mn a b = b := by unfold mn; split <;> simp
theorem mn_right (a b : Int) : mn a b ≤ b := by unfold mn; split <;> omega
theorem pot_at (M : List (List Int)) (j : Nat) : ∀ d i, i < d → pot M d j ≤ V M i j
 | 0, i, h => by omega
 | d + 1, i, h => by
  by_cases e : i = d
  ·subst e; exact mn_right _ _
  ·exact Int.le_trans (mn_le _ _) (pot_at M j d i (by omega))
theorem pot_is (M : List (List Int)) (j : Nat) : ∀ d, pot M d j = 0 ∨ ∃ i, i < d ∧ pot M d j = V M i j
 | 0 => .inl rfl
 | d + 1 => by
  rcases mn_cases (pot M d j) (V M d j) with h | h
  ·rcases pot_is M j d with h2 | ⟨i, hi, h2⟩
   ·exact .inl (h.trans h2)
   ·exact .inr ⟨i, by omega, h.trans h2⟩
  ·exact .inr ⟨d, by omega, h⟩
theorem Bd_in {b : S39} (h : Bd n b) : b.f0.toNat < n ∧ b.f1.toNat < n ∧ b.f0 = (b.f0.toNat : Int) ∧ b.f1 = (b.f1.toNat : Int) := by
 unfold Bd at h
 omega
theorem pot_keeps (hn : n ≤ 10) (hb : ∀ b ∈ bs, Bd n b) (hl : ∀ b ∈ bs, Lim b) (hf : feasible n bs [] = true) : ∀ b ∈ bs, pot (tight n bs []) n b.f1.toNat - pot (tight n bs []) n b.f0.toNat ≤ b.f2 := by
 intro b hm
 obtain ⟨h0, h1, _, _⟩ := Bd_in (hb b hm)
 have hv := bound_V hn hb hm
 have hlb := hl b hm
 unfold Lim at hlb
 rcases pot_is (tight n bs []) b.f0.toNat n with h | ⟨k, hk, h⟩
 ·have := pot_at (tight n bs []) b.f1.toNat n b.f0.toNat h0
  omega
 ·have hz := pot_le (tight n bs []) b.f0.toNat n
  have := tight_via hn hb hl hf hk h0 h1 (by omega) (by omega)
  have := pot_at (tight n bs []) b.f1.toNat n k hk
  omega
theorem pot_in (hn : n ≤ 10) (hb : ∀ b ∈ bs, Bd n b) (hl : ∀ b ∈ bs, Lim b) (hf : feasible n bs [] = true) (j : Nat) (hj : j < n) : -10000 ≤ pot (tight n bs []) n j ∧ pot (tight n bs []) n j ≤ 0 := by
 have hz := pot_le (tight n bs []) j n
 rcases pot_is (tight n bs []) j n with h | ⟨k, hk, h⟩
 ·omega
 ·have := tight_range hn hb hl hf hk hj (by omega)
  omega
/-- What is left of a diagram without contradiction has none. -/
theorem sub_feasible (hn : n ≤ 10) (hb : ∀ b ∈ bs, Bd n b) (hl : ∀ b ∈ bs, Lim b) (hf : feasible n bs [] = true) (cs : List S39) (hs : ∀ b ∈ cs, b ∈ bs) : feasible n cs [] = true :=
 timed_feasible hn (fun b h => hb b (hs b h)) (fun b h => hl b (hs b h)) _ (fun b h => pot_keeps hn hb hl hf b (hs b h))
/-- Bounds that follow: the tightest ones are no greater. -/
theorem tight_mono (hn : n ≤ 10) (hb : ∀ b ∈ bs, Bd n b) (hl : ∀ b ∈ bs, Lim b) (hf : feasible n bs [] = true) (cs : List S39) (hb' : ∀ b ∈ cs, Bd n b) (hl' : ∀ b ∈ cs, Lim b) (hf' : feasible n cs [] = true)
  (h : ∀ b ∈ bs, V (tight n cs []) b.f0.toNat b.f1.toNat ≤ b.f2) {i j : Nat} (hi : i < n) (hj : j < n) : V (tight n cs []) i j ≤ V (tight n bs []) i j := by
 by_cases hv : V (tight n bs []) i j < 1000000
 case neg =>
  have := tight_le (w := []) hb' hi hj
  omega
 obtain ⟨l, _, ho, he, hw⟩ := (tight_short hn hb hl hf).2.2 i j hi hj hv
 have key : ∀ (l : List Nat) (i : Nat), i < n → okW (wM n (first n bs [])) i l → V (tight n cs []) i (endW i l) ≤ wt (wM n (first n bs [])) i l ∧ V (tight n cs []) i (endW i l) < 1000000 := by
  intro l
  induction l with
  | nil =>
   intro i hi _
   have := tight_self hn hb' hl' hf' hi
   simp only [endW, wt]
   omega
  | cons x l ih =>
   intro i hi ho
   obtain ⟨_, hx, hst⟩ := step_from hb ho.1
   have h1 : V (tight n cs []) i x ≤ wM n (first n bs []) i x ∧ V (tight n cs []) i x < 1000000 := by
    rcases hst with ⟨rfl, h0⟩ | ⟨b, hm, e0, e1, e2⟩
    ·have := tight_self hn hb' hl' hf' hi
     omega
    ·have h3 := h b hm
     have h4 := ho.1
     rw [show b.f0.toNat = i by omega, show b.f1.toNat = x by omega] at h3
     omega
   have h2 := ih x hx ho.2
   simp only [endW, wt]
   have he : endW x l < n := by
    rcases List.eq_nil_or_concat l with rfl | ⟨s, y, rfl⟩
    ·exact hx
    ·rw [List.concat_eq_append] at ho ⊢
     rw [end_last]
     exact ok_in n _ _ _ ho.2 y (by simp)
   have h3 := tight_via hn hb' hl' hf' hi hx he h1.2 h2.2
   have h4 := tight_range hn hb' hl' hf' hi hx h1.2
   have h5 := tight_range hn hb' hl' hf' hx he h2.2
   omega
 have := key l i hi ho
 rw [he] at this
 omega
/-- Square rows with the same entries are the same. -/
theorem Sq_ext {A B : List (List Int)} (hA : Sq n A) (hB : Sq n B) (h : ∀ i j, i < n → j < n → V A i j = V B i j) : A = B := by
 refine List.ext_getElem (by rw [hA.1, hB.1]) fun i h1 h2 => ?_
 have hi : i < n := by rw [← hA.1]; exact h1
 have ra : rd_L6 A (i : Int) = A[i] := by unfold rd_L6; rw [List.getD_eq_getElem?_getD, Int.toNat_natCast, List.getElem?_eq_getElem h1]; rfl
 have rb : rd_L6 B (i : Int) = B[i] := by unfold rd_L6; rw [List.getD_eq_getElem?_getD, Int.toNat_natCast, List.getElem?_eq_getElem h2]; rfl
 have la := row_len hA hi
 have lb := row_len hB hi
 rw [ra] at la
 rw [rb] at lb
 refine List.ext_getElem (by rw [la, lb]) fun j h3 h4 => ?_
 have := h i j hi (by omega)
 unfold V at this
 rw [ra, rb, rd_get h3, rd_get h4] at this
 exact this
theorem tight_same (hn : n ≤ 10) (hb : ∀ b ∈ bs, Bd n b) (hl : ∀ b ∈ bs, Lim b) (hf : feasible n bs [] = true) (cs : List S39) (hs : ∀ b ∈ cs, b ∈ bs)
  (h : ∀ b ∈ bs, V (tight n cs []) b.f0.toNat b.f1.toNat ≤ b.f2) : tight n cs [] = tight n bs [] := by
 have hb' : ∀ b ∈ cs, Bd n b := fun b h => hb b (hs b h)
 have hl' : ∀ b ∈ cs, Lim b := fun b h => hl b (hs b h)
 have hf' := sub_feasible hn hb hl hf cs hs
 refine Sq_ext (tight_Sq hb' _) (tight_Sq hb _) fun i j hi hj => ?_
 have h1 := tight_mono hn hb hl hf cs hb' hl' hf' h hi hj
 have h2 := tight_mono hn hb' hl' hf' bs hb hl hf (fun b hm => bound_V hn hb (hs b hm)) hi hj
 omega
end
end Go.Proofs.YtbgokpobaemibaaDoor.Pure

namespace Go.Proofs.YtbgokpobaemibaaDoor.Pa
open Go.RowKit Go.Proofs.YtbgokpobaemibaaDoorW.PrintWords Go.Proofs.YtbgokpobaemibaaDoorW.PrintLast Go.Proofs.YtbgokpobaemibaaDoorW.PrintMore
attribute [local go_sem] max2_int min2_int max_two min_two max_three min_three max_four min_four   -- for this text's walks alone
set_option linter.unusedVariables false
set_option linter.unusedSimpArgs false

/-! ### laws_r8Long: function 5 -/
def laws_r8Long.f (l0 : List Int) (l1 : List Int) : Option (Bool) := if (l0.length : Int) > 48 then (some true) else (some (decide ((l1.length : Int) > 48)))
set_option maxHeartbeats 8000000 in
set_option maxRecDepth 100000 in
theorem laws_r8Long.calls (A0 : Option Addr) (c0 : Nat) (l0 : List Int) (A1 : Option Addr) (c1 : Nat) (l1 : List Int) (r : Bool) (w : World) (hr0 : Kd.C (Kd.int .u8) w A0 l0.length l0) (hc0 : l0.length ≤ c0) (hr1 : Kd.C (Kd.int .u8) w A1 l1.length l1) (hc1 : l1.length ≤ c1) (h : laws_r8Long.f l0 l1 = some r) :
  Calls Tryd.prog 5 #[.slice A0 l0.length c0, .slice A1 l1.length c1] w fun e w' => e = .returned (.bool r) ∧ Drawn0 w w' := by
 have HR0 := Aside0.mk hr0
 have HC0 := Aside0.mk hc0
 clear hr0 hc0
 have HR1 := Aside0.mk hr1
 have HC1 := Aside0.mk hc1
 clear hr1 hc1
 have H : (if (l0.length : Int) > 48 then (some true) else (some (decide ((l1.length : Int) > 48)))) = some r := h
 clear h
 by_cases c3 : (l0.length : Int) > 48
 ·rw [if_pos c3] at H
  have c3b0 : decide (48 < (l0.length : Int)) = true := decide_eq_true c3
  have c3b1 : decide (48 < l0.length) = true := decide_eq_true (by omega)
  clear c3
  obtain rfl := Option.some.inj H
  go_enter Tryd.func5, Tryd.ntmps5
  go_wp2
  go_ret
  exact ⟨by first | rfl | (simp; done) | (simp [*]; done), by repeat (first | exact Drawn0.refl _ | apply Drawn0.step)⟩
 ·rw [if_neg c3] at H
  have c3b0 : decide (48 < (l0.length : Int)) = false := decide_eq_false c3
  have c3b1 : decide (48 < l0.length) = false := decide_eq_false (by omega)
  clear c3
  obtain rfl := Option.some.inj H
  go_enter Tryd.func5, Tryd.ntmps5
  go_wp2
  go_ret
  exact ⟨by first | rfl | (simp; done) | (simp [*]; done), by repeat (first | exact Drawn0.refl _ | apply Drawn0.step)⟩

end Go.Proofs.YtbgokpobaemibaaDoor.Pa

namespace Go.Proofs.YtbgokpobaemibaaDoor.Pa
open Go.RowKit Go.Proofs.YtbgokpobaemibaaDoorW.PrintWords Go.Proofs.YtbgokpobaemibaaDoorW.PrintLast Go.Proofs.YtbgokpobaemibaaDoorW.PrintMore
attribute [local go_sem] max2_int min2_int max_two min_two max_three min_three max_four min_four   -- for this text's walks alone
set_option linter.unusedVariables false
set_option linter.unusedSimpArgs false

/-- A state of type 73 at block g of W; what its slices lead to came in by w0. -/
def IsS73 (w0 W : World) (g : Nat) (f0 : List Int) (f1 : Int) (f2 : Int) : Prop := ∃ A0 c0, W.heap[g]? = some (.cells #[.slice A0 f0.length c0, .int .i64 f1, .int .u64 f2] 73 (0, 0)) ∧ w0.heap.size ≤ g ∧ Kd.C (Kd.int .u8) w0 A0 f0.length f0
theorem IsS73.grown {w0 W : World} {g : Nat} {f0 : List Int} {f1 : Int} {f2 : Int} {W1 : World} {row : Option Nat} (h : IsS73 w0 W g f0 f1 f2) (hw : W.grownBy W1 row) (hne : some g ≠ row) : IsS73 w0 W1 g f0 f1 f2 := by
 obtain ⟨A0, c0, hb, hg, hr0⟩ := h
 exact ⟨A0, c0, blk_grown hb hw hne, hg, hr0⟩
theorem IsS73.below {w0 W : World} {g : Nat} {f0 : List Int} {f1 : Int} {f2 : Int} {W1 : World} (h : IsS73 w0 W g f0 f1 f2) (hw : Below W.heap.size W W1) : IsS73 w0 W1 g f0 f1 f2 := h.grown (grown_of_below hw none) (by simp)
theorem IsS73.drewN {w0 W : World} {g : Nat} {f0 : List Int} {f1 : Int} {f2 : Int} (h : IsS73 w0 W g f0 f1 f2) (m : Nat) : IsS73 w0 (W.drewN m) g f0 f1 f2 := h
theorem IsS73.drew {w0 W : World} {g : Nat} {f0 : List Int} {f1 : Int} {f2 : Int} (h : IsS73 w0 W g f0 f1 f2) : IsS73 w0 W.drew g f0 f1 f2 := h
theorem IsS73.apart {w0 W : World} {g : Nat} {f0 : List Int} {f1 : Int} {f2 : Int} {α : Type} {d : Kd α} {e : Nat} {base : Nat} {ok : Nat → Prop} {v : Value} {xs : List α} (h : IsS73 w0 W g f0 f1 f2) (ho : d.R e W base ok v xs) (ht : ∀ q, q ∈ e :: d.E → q ≠ 73) : d.R e W base (fun k => ok k ∧ k ≠ g) v xs := by
 obtain ⟨A0, c0, hb, hg, hr0⟩ := h
 exact Kd.R_types ho hb ht
theorem IsS73.own_ne {w0 W : World} {g : Nat} {f0 : List Int} {f1 : Int} {f2 : Int} {α : Type} {d : Kd α} {e : Nat} {base : Nat} {ok : Nat → Prop} {v : Value} {xs : List α} (h : IsS73 w0 W g f0 f1 f2) (ho : d.R e W base ok v xs) (ht : e ≠ 73) : some g ≠ v.ownBlock := by
 obtain ⟨A0, c0, hb, hg, hr0⟩ := h
 exact Kd.R_ne ho hb ht
theorem IsS73.lt {w0 W : World} {g : Nat} {f0 : List Int} {f1 : Int} {f2 : Int} (h : IsS73 w0 W g f0 f1 f2) : g < W.heap.size := by
 obtain ⟨A0, c0, hb, hg, hr0⟩ := h
 exact blk_lt hb
theorem IsS73.ge {w0 W : World} {g : Nat} {f0 : List Int} {f1 : Int} {f2 : Int} (h : IsS73 w0 W g f0 f1 f2) : w0.heap.size ≤ g := by
 obtain ⟨A0, c0, hb, hg, hr0⟩ := h
 exact hg
theorem IsS73.ne_blk {w0 W : World} {g : Nat} {f0 : List Int} {f1 : Int} {f2 : Int} {a : Nat} {cs : Array Value} {t : TypeId} {fr : Nat × Nat} (h : IsS73 w0 W g f0 f1 f2) (hb2 : W.heap[a]? = some (.cells cs t fr)) (ht : t ≠ 73) : g ≠ a := by
 obtain ⟨A0, c0, hb, hg, hr0⟩ := h
 rintro rfl
 rw [hb] at hb2
 injection hb2 with hb2
 injection hb2 with _ ht2
 exact ht ht2.symm
theorem IsS73.far {w0 W : World} {g : Nat} {f0 : List Int} {f1 : Int} {f2 : Int} {p : Addr} (h : IsS73 w0 W g f0 f1 f2) (hne : g ≠ p.block) (u : Value) : IsS73 w0 (W.setCell p u) g f0 f1 f2 := by
 obtain ⟨A0, c0, hb, hg, hr0⟩ := h
 exact ⟨A0, c0, blk_far hb hne u, hg, hr0⟩
theorem cellS73_0 {W : World} {g : Nat} {A0 : Option Addr} {c0 : Nat} {f0 : List Int} {f1 : Int} {f2 : Int} (h : W.heap[g]? = some (.cells #[.slice A0 f0.length c0, .int .i64 f1, .int .u64 f2] 73 (0, 0))) : W.cell? ⟨g, 0, none⟩ = some (.slice A0 f0.length c0) := (blk_cell h 0).trans rfl
theorem cellS73_1 {W : World} {g : Nat} {A0 : Option Addr} {c0 : Nat} {f0 : List Int} {f1 : Int} {f2 : Int} (h : W.heap[g]? = some (.cells #[.slice A0 f0.length c0, .int .i64 f1, .int .u64 f2] 73 (0, 0))) : W.cell? ⟨g, 1, none⟩ = some (.int .i64 f1) := (blk_cell h 1).trans rfl
theorem IsS73.set_1 {w0 W : World} {g : Nat} {f0 : List Int} {f1 : Int} {f2 : Int} (h : IsS73 w0 W g f0 f1 f2) (x : Int) : IsS73 w0 (W.setCell ⟨g, 1, none⟩ (.int .i64 x)) g f0 x f2 := by
 obtain ⟨A0, c0, hb, hg, hr0⟩ := h
 exact ⟨A0, c0, by simpa using blk_set hb 1 (.int .i64 x), hg, hr0⟩
theorem cellS73_2 {W : World} {g : Nat} {A0 : Option Addr} {c0 : Nat} {f0 : List Int} {f1 : Int} {f2 : Int} (h : W.heap[g]? = some (.cells #[.slice A0 f0.length c0, .int .i64 f1, .int .u64 f2] 73 (0, 0))) : W.cell? ⟨g, 2, none⟩ = some (.int .u64 f2) := (blk_cell h 2).trans rfl
theorem IsS73.set_2 {w0 W : World} {g : Nat} {f0 : List Int} {f1 : Int} {f2 : Int} (h : IsS73 w0 W g f0 f1 f2) (x : Int) : IsS73 w0 (W.setCell ⟨g, 2, none⟩ (.int .u64 x)) g f0 f1 x := by
 obtain ⟨A0, c0, hb, hg, hr0⟩ := h
 exact ⟨A0, c0, by simpa using blk_set hb 2 (.int .u64 x), hg, hr0⟩
/-! ### spec_l00From: function 20 -/
def spec_l00From.f (l0 : List Int) : Option (List Int × Int × Int) := some (l0, 0, 0)
set_option maxHeartbeats 8000000 in
set_option maxRecDepth 100000 in
theorem spec_l00From.calls (A0 : Option Addr) (c0 : Nat) (l0 : List Int) (r1 : List Int) (r2 : Int) (r3 : Int) (w0 w : World) (hB : Below w0.heap.size w0 w) (hr0 : Kd.C (Kd.int .u8) w0 A0 l0.length l0) (hc0 : l0.length ≤ c0) (h : spec_l00From.f l0 = some (r1, r2, r3)) :
  Calls Tryd.prog 20 #[.slice A0 l0.length c0] w fun e w' => ∃ g_ : Nat, e = .returned (.pointer (some ⟨g_, 0, none⟩)) ∧ IsS73 w0 w' g_ r1 r2 r3 ∧ Below w0.heap.size w0 w' ∧ Below w.heap.size w w' := by
 have hu73 := Tryd.underlying73
 have HR0 := Aside0.mk hr0
 have HC0 := Aside0.mk hc0
 clear hr0 hc0
 have HBW := Aside0.mk (Below.refl w.heap.size w)
 have HW0 := Aside0.mk hB.size
 have HB := Aside0.mk hB
 clear hB
 have H : (some (l0, 0, 0)) = some (r1, r2, r3) := h
 clear h
 simp only [Option.some.injEq, Prod.mk.injEq] at H
 obtain ⟨rfl, rfl, rfl⟩ := H
 go_enter Tryd.func20, Tryd.ntmps20
 go_wp2_with (first | ((with_reducible refine gate_dst (N := 5) rfl ?_); refine box_event ?hg (N := 5) ?hd (cs := #[.slice A0 l0.length c0, .int .i64 0, .int .u64 0]) (t := 73) ?hr ?_; (case hd => rfl); (case hg => rfl); (case hr => first | (go_simp; done) | (go_simp; rfl)); intro gb101 hg w2 hbox hb; have n0_ := Aside0.mk (below_step HBW.out hb); have n1_ := Aside0.mk (below_step (by repeat (first | (with_reducible first | exact HB.out | apply below_alloc | apply pw_below_drewN | apply below_drew1) | exact HB.out)) hb); have n2_ := Aside0.mk (hbox); have n3_ := Aside0.mk ((by rw [hg]; exact (below_size (by repeat (first | (with_reducible first | exact HBW.out | apply below_alloc | apply pw_below_drewN | apply below_drew1) | exact HBW.out))) : w.heap.size ≤ gb101)); have n4_ := Aside0.mk ((Nat.le_trans HW0.out (by rw [hg]; exact (below_size (by repeat (first | (with_reducible first | exact HBW.out | apply below_alloc | apply pw_below_drewN | apply below_drew1) | exact HBW.out))) : w.heap.size ≤ gb101) : w0.heap.size ≤ gb101)); clear HBW; clear HB; have HBW := n0_; have HB := n1_; have BK101 := n2_; have GW101 := n3_; have GE101 := n4_; clear n0_ n1_ n2_ n3_ n4_; clear hb hbox hg))
 go_ret
 exact ⟨_, rfl, (show IsS73 w0 _ gb101 l0 0 0 from ⟨_, _, by (with_reducible repeat (first | refine blk_drewN ?_ _ | refine blk_drew ?_ | refine blk_alloc ?_ _)); exact BK101.out, GE101.out, HR0.out⟩), by repeat (first | (with_reducible first | exact HB.out | apply below_alloc | apply pw_below_drewN | apply below_drew1 | refine below_set ?_ GE101.out) | exact HB.out), by repeat (first | (with_reducible first | exact HBW.out | apply below_alloc | apply pw_below_drewN | apply below_drew1 | refine below_set ?_ GW101.out) | exact HBW.out)⟩

end Go.Proofs.YtbgokpobaemibaaDoor.Pa

namespace Go.Proofs.YtbgokpobaemibaaDoor.Pa
open Go.RowKit Go.Proofs.YtbgokpobaemibaaDoorW.PrintWords Go.Proofs.YtbgokpobaemibaaDoorW.PrintLast Go.Proofs.YtbgokpobaemibaaDoorW.PrintMore
attribute [local go_sem] max2_int min2_int max_two min_two max_three min_three max_four min_four   -- for this text's walks alone
set_option linter.unusedVariables false
set_option linter.unusedSimpArgs false

/-! ### spec_l00Src_next: function 53 -/
def spec_l00Src_next.f (s0_0 : List Int) (s0_1 : Int) (s0_2 : Int) : Option (Int × Int × Int) := if s0_1 < (s0_0.length : Int) then (if 0 ≤ s0_1 then (if (wrap64 (s0_1 + 1)) ≤ (s0_0.length : Int) then (some (wrap64 (rd s0_0 s0_1), wrap64 (s0_1 + 1), IntKind.u64.wrap ((IntKind.u64.wrap ((IntKind.u64.wrap (s0_2 * 6364136223846793005)) + (IntKind.u64.wrap (wrap64 (rd s0_0 s0_1))))) + 1442695040888963407))) else (some (wrap64 (Go.bits .and .u64 ((IntKind.u64.wrap ((IntKind.u64.wrap ((IntKind.u64.wrap (s0_2 * 6364136223846793005)) + (IntKind.u64.wrap (wrap64 (rd s0_0 s0_1))))) + 1442695040888963407)) / 1099511627776) 255), wrap64 (s0_1 + 1), IntKind.u64.wrap ((IntKind.u64.wrap ((IntKind.u64.wrap (s0_2 * 6364136223846793005)) + (IntKind.u64.wrap (wrap64 (rd s0_0 s0_1))))) + 1442695040888963407)))) else (none)) else (if (wrap64 (s0_1 + 1)) ≤ (s0_0.length : Int) then (some (0, wrap64 (s0_1 + 1), IntKind.u64.wrap ((IntKind.u64.wrap ((IntKind.u64.wrap (s0_2 * 6364136223846793005)) + 0)) + 1442695040888963407))) else (some (wrap64 (Go.bits .and .u64 ((IntKind.u64.wrap ((IntKind.u64.wrap ((IntKind.u64.wrap (s0_2 * 6364136223846793005)) + 0)) + 1442695040888963407)) / 1099511627776) 255), wrap64 (s0_1 + 1), IntKind.u64.wrap ((IntKind.u64.wrap ((IntKind.u64.wrap (s0_2 * 6364136223846793005)) + 0)) + 1442695040888963407))))
set_option maxHeartbeats 8000000 in
set_option maxRecDepth 100000 in
theorem spec_l00Src_next.calls (g : Nat) (s0_0 : List Int) (s0_1 : Int) (s0_2 : Int) (r1 : Int) (r2 : Int) (r3 : Int) (w0 w : World) (hI : IsS73 w0 w g s0_0 s0_1 s0_2) (hB : Below w0.heap.size w0 w) (h : spec_l00Src_next.f s0_0 s0_1 s0_2 = some (r1, r2, r3)) :
  Calls Tryd.prog 53 #[.pointer (some ⟨g, 0, none⟩)] w fun e w' => e = .returned (.int .i64 r1) ∧ IsS73 w0 w' g s0_0 r2 r3 ∧ Below w0.heap.size w0 w' ∧ KeepBut w w' g none := by
 have HI0 := Aside0.mk hI
 have HK := Aside0.mk (KeepBut.refl w g none)
 have HL := Aside0.mk hB.size
 clear hI
 have HW0 := Aside0.mk hB.size
 have HB := Aside0.mk hB
 clear hB
 have H : (if s0_1 < (s0_0.length : Int) then (if 0 ≤ s0_1 then (if (wrap64 (s0_1 + 1)) ≤ (s0_0.length : Int) then (some (wrap64 (rd s0_0 s0_1), wrap64 (s0_1 + 1), IntKind.u64.wrap ((IntKind.u64.wrap ((IntKind.u64.wrap (s0_2 * 6364136223846793005)) + (IntKind.u64.wrap (wrap64 (rd s0_0 s0_1))))) + 1442695040888963407))) else (some (wrap64 (Go.bits .and .u64 ((IntKind.u64.wrap ((IntKind.u64.wrap ((IntKind.u64.wrap (s0_2 * 6364136223846793005)) + (IntKind.u64.wrap (wrap64 (rd s0_0 s0_1))))) + 1442695040888963407)) / 1099511627776) 255), wrap64 (s0_1 + 1), IntKind.u64.wrap ((IntKind.u64.wrap ((IntKind.u64.wrap (s0_2 * 6364136223846793005)) + (IntKind.u64.wrap (wrap64 (rd s0_0 s0_1))))) + 1442695040888963407)))) else (none)) else (if (wrap64 (s0_1 + 1)) ≤ (s0_0.length : Int) then (some (0, wrap64 (s0_1 + 1), IntKind.u64.wrap ((IntKind.u64.wrap ((IntKind.u64.wrap (s0_2 * 6364136223846793005)) + 0)) + 1442695040888963407))) else (some (wrap64 (Go.bits .and .u64 ((IntKind.u64.wrap ((IntKind.u64.wrap ((IntKind.u64.wrap (s0_2 * 6364136223846793005)) + 0)) + 1442695040888963407)) / 1099511627776) 255), wrap64 (s0_1 + 1), IntKind.u64.wrap ((IntKind.u64.wrap ((IntKind.u64.wrap (s0_2 * 6364136223846793005)) + 0)) + 1442695040888963407))))) = some (r1, r2, r3) := h
 clear h
 by_cases c2 : s0_1 < (s0_0.length : Int)
 ·rw [if_pos c2] at H
  have c2b0 : decide (s0_1 < (s0_0.length : Int)) = true := decide_eq_true c2
  clear c2
  by_cases c3 : 0 ≤ s0_1
  ·rw [if_pos c3] at H
   have c3b0 : decide (0 ≤ s0_1) = true := decide_eq_true c3
   clear c3
   by_cases c4 : (wrap64 (s0_1 + 1)) ≤ (s0_0.length : Int)
   ·rw [if_pos c4] at H
    have c4b0 : decide ((wrap64 (s0_1 + 1)) ≤ (s0_0.length : Int)) = true := decide_eq_true c4
    clear c4
    simp only [Option.some.injEq, Prod.mk.injEq] at H
    obtain ⟨rfl, rfl, rfl⟩ := H
    obtain ⟨ASz5_0, cSz5_0, HGz5, hgz5, HSz5_0⟩ := HI0.out
    have hcz5_0 := cellS73_0 HGz5
    have hcz5_1 := cellS73_1 HGz5
    have hcz5_2 := cellS73_2 HGz5
    have hfz5_1 := blk_frozen HGz5 1
    have hfz5_2 := blk_frozen HGz5 2
    clear HGz5 hgz5
    have p102 : 0 ≤ (s0_1 : Int) := of_decide_eq_true (by with_reducible assumption)
    have q102 : s0_1 < (s0_0.length : Int) := of_decide_eq_true (by with_reducible assumption)
    obtain ⟨ad102, e102, hx102_0⟩ := Kd.at_int HSz5_0 s0_1 p102 q102
    cases e102
    replace hx102_0 := pw_cell_below HB.out hx102_0
    replace p102 := eq_true p102
    replace q102 := eq_true q102
    go_enter Tryd.func53, Tryd.ntmps53
    go_wp2
    repeat (go_quiet (fail); try go_wp2)
    go_ret
    (try simp only [Int.add_zero])
    exact ⟨by first | rfl | (simp [errW_none, errW_some] <;> rfl) | (simp [*, errW_none, errW_some] <;> rfl), by repeat (first | (with_reducible first | exact HI0.out | apply IsS73.alloc | apply IsS73.drewN | apply IsS73.drew | apply IsS73.set_1 | apply IsS73.set_2) | exact HI0.out), by repeat (first | (with_reducible first | exact HB.out | apply below_alloc | apply pw_below_drewN | apply below_drew1 | refine below_set ?_ (IsS73.ge HI0.out)) | exact HB.out), by repeat (first | (with_reducible first | exact HK.out | apply KeepBut.set_ | apply keep_drewN | apply keep_drew | apply keep_alloc) | exact HK.out)⟩
   ·rw [if_neg c4] at H
    have c4b0 : decide ((wrap64 (s0_1 + 1)) ≤ (s0_0.length : Int)) = false := decide_eq_false c4
    clear c4
    simp only [Option.some.injEq, Prod.mk.injEq] at H
    obtain ⟨rfl, rfl, rfl⟩ := H
    obtain ⟨ASz6_0, cSz6_0, HGz6, hgz6, HSz6_0⟩ := HI0.out
    have hcz6_0 := cellS73_0 HGz6
    have hcz6_1 := cellS73_1 HGz6
    have hcz6_2 := cellS73_2 HGz6
    have hfz6_1 := blk_frozen HGz6 1
    have hfz6_2 := blk_frozen HGz6 2
    clear HGz6 hgz6
    have p102 : 0 ≤ (s0_1 : Int) := of_decide_eq_true (by with_reducible assumption)
    have q102 : s0_1 < (s0_0.length : Int) := of_decide_eq_true (by with_reducible assumption)
    obtain ⟨ad102, e102, hx102_0⟩ := Kd.at_int HSz6_0 s0_1 p102 q102
    cases e102
    replace hx102_0 := pw_cell_below HB.out hx102_0
    replace p102 := eq_true p102
    replace q102 := eq_true q102
    go_enter Tryd.func53, Tryd.ntmps53
    go_wp2
    repeat (go_quiet (fail); try go_wp2)
    go_ret
    (try simp only [Int.add_zero])
    exact ⟨by first | rfl | (simp [errW_none, errW_some] <;> rfl) | (simp [*, errW_none, errW_some] <;> rfl), by repeat (first | (with_reducible first | exact HI0.out | apply IsS73.alloc | apply IsS73.drewN | apply IsS73.drew | apply IsS73.set_1 | apply IsS73.set_2) | exact HI0.out), by repeat (first | (with_reducible first | exact HB.out | apply below_alloc | apply pw_below_drewN | apply below_drew1 | refine below_set ?_ (IsS73.ge HI0.out)) | exact HB.out), by repeat (first | (with_reducible first | exact HK.out | apply KeepBut.set_ | apply keep_drewN | apply keep_drew | apply keep_alloc) | exact HK.out)⟩
  ·rw [if_neg c3] at H
   exact absurd H (by simp)
 ·rw [if_neg c2] at H
  have c2b0 : decide (s0_1 < (s0_0.length : Int)) = false := decide_eq_false c2
  clear c2
  by_cases c7 : (wrap64 (s0_1 + 1)) ≤ (s0_0.length : Int)
  ·rw [if_pos c7] at H
   have c7b0 : decide ((wrap64 (s0_1 + 1)) ≤ (s0_0.length : Int)) = true := decide_eq_true c7
   clear c7
   simp only [Option.some.injEq, Prod.mk.injEq] at H
   obtain ⟨rfl, rfl, rfl⟩ := H
   obtain ⟨ASz8_0, cSz8_0, HGz8, hgz8, HSz8_0⟩ := HI0.out
   have hcz8_0 := cellS73_0 HGz8
   have hcz8_1 := cellS73_1 HGz8
   have hcz8_2 := cellS73_2 HGz8
   have hfz8_1 := blk_frozen HGz8 1
   have hfz8_2 := blk_frozen HGz8 2
   clear HGz8 hgz8
   go_enter Tryd.func53, Tryd.ntmps53
   go_wp2
   repeat (go_quiet (fail); try go_wp2)
   go_ret
   (try simp only [Int.add_zero])
   exact ⟨by first | rfl | (simp [errW_none, errW_some] <;> rfl) | (simp [*, errW_none, errW_some] <;> rfl), by repeat (first | (with_reducible first | exact HI0.out | apply IsS73.alloc | apply IsS73.drewN | apply IsS73.drew | apply IsS73.set_1 | apply IsS73.set_2) | exact HI0.out), by repeat (first | (with_reducible first | exact HB.out | apply below_alloc | apply pw_below_drewN | apply below_drew1 | refine below_set ?_ (IsS73.ge HI0.out)) | exact HB.out), by repeat (first | (with_reducible first | exact HK.out | apply KeepBut.set_ | apply keep_drewN | apply keep_drew | apply keep_alloc) | exact HK.out)⟩
  ·rw [if_neg c7] at H
   have c7b0 : decide ((wrap64 (s0_1 + 1)) ≤ (s0_0.length : Int)) = false := decide_eq_false c7
   clear c7
   simp only [Option.some.injEq, Prod.mk.injEq] at H
   obtain ⟨rfl, rfl, rfl⟩ := H
   obtain ⟨ASz9_0, cSz9_0, HGz9, hgz9, HSz9_0⟩ := HI0.out
   have hcz9_0 := cellS73_0 HGz9
   have hcz9_1 := cellS73_1 HGz9
   have hcz9_2 := cellS73_2 HGz9
   have hfz9_1 := blk_frozen HGz9 1
   have hfz9_2 := blk_frozen HGz9 2
   clear HGz9 hgz9
   go_enter Tryd.func53, Tryd.ntmps53
   go_wp2
   repeat (go_quiet (fail); try go_wp2)
   go_ret
   (try simp only [Int.add_zero])
   exact ⟨by first | rfl | (simp [errW_none, errW_some] <;> rfl) | (simp [*, errW_none, errW_some] <;> rfl), by repeat (first | (with_reducible first | exact HI0.out | apply IsS73.alloc | apply IsS73.drewN | apply IsS73.drew | apply IsS73.set_1 | apply IsS73.set_2) | exact HI0.out), by repeat (first | (with_reducible first | exact HB.out | apply below_alloc | apply pw_below_drewN | apply below_drew1 | refine below_set ?_ (IsS73.ge HI0.out)) | exact HB.out), by repeat (first | (with_reducible first | exact HK.out | apply KeepBut.set_ | apply keep_drewN | apply keep_drew | apply keep_alloc) | exact HK.out)⟩

end Go.Proofs.YtbgokpobaemibaaDoor.Pa

namespace Go.Proofs.YtbgokpobaemibaaDoor.Pa
open Go.RowKit Go.Proofs.YtbgokpobaemibaaDoorW.PrintWords Go.Proofs.YtbgokpobaemibaaDoorW.PrintLast Go.Proofs.YtbgokpobaemibaaDoorW.PrintMore
attribute [local go_sem] max2_int min2_int max_two min_two max_three min_three max_four min_four   -- for this text's walks alone
set_option linter.unusedVariables false
set_option linter.unusedSimpArgs false

/-! ### spec_l00Src_pick: function 39 -/
def spec_l00Src_pick.f (s0_0 : List Int) (s0_1 : Int) (s0_2 : Int) (a1 : Int) : Option (Int × Int × Int) := if a1 ≤ 1 then (some (0, s0_1, s0_2)) else ((spec_l00Src_next.f s0_0 s0_1 s0_2).bind fun bt103 => (if a1 > 200 then ((spec_l00Src_next.f s0_0 bt103.2.1 bt103.2.2).bind fun bt106 => (if a1 = 0 then (none) else (some (Int.tmod (wrap64 ((wrap64 (bt103.1 * 256)) + bt106.1)) a1, bt106.2.1, bt106.2.2)))) else (if a1 = 0 then (none) else (some (Int.tmod bt103.1 a1, bt103.2.1, bt103.2.2)))))
set_option maxHeartbeats 8000000 in
set_option maxRecDepth 100000 in
theorem spec_l00Src_pick.calls (g : Nat) (s0_0 : List Int) (s0_1 : Int) (s0_2 : Int) (a1 : Int) (r1 : Int) (r2 : Int) (r3 : Int) (w0 w : World) (hI : IsS73 w0 w g s0_0 s0_1 s0_2) (hB : Below w0.heap.size w0 w) (h : spec_l00Src_pick.f s0_0 s0_1 s0_2 a1 = some (r1, r2, r3)) :
  Calls Tryd.prog 39 #[.pointer (some ⟨g, 0, none⟩), .int .i64 a1] w fun e w' => e = .returned (.int .i64 r1) ∧ IsS73 w0 w' g s0_0 r2 r3 ∧ Below w0.heap.size w0 w' ∧ KeepBut w w' g none := by
 have HI0 := Aside0.mk hI
 have HK := Aside0.mk (KeepBut.refl w g none)
 have HL := Aside0.mk hB.size
 clear hI
 have HW0 := Aside0.mk hB.size
 have HB := Aside0.mk hB
 clear hB
 have H : (if a1 ≤ 1 then (some (0, s0_1, s0_2)) else ((spec_l00Src_next.f s0_0 s0_1 s0_2).bind fun bt103 => (if a1 > 200 then ((spec_l00Src_next.f s0_0 bt103.2.1 bt103.2.2).bind fun bt106 => (if a1 = 0 then (none) else (some (Int.tmod (wrap64 ((wrap64 (bt103.1 * 256)) + bt106.1)) a1, bt106.2.1, bt106.2.2)))) else (if a1 = 0 then (none) else (some (Int.tmod bt103.1 a1, bt103.2.1, bt103.2.2)))))) = some (r1, r2, r3) := h
 clear h
 by_cases c3 : a1 ≤ 1
 ·rw [if_pos c3] at H
  have c3b0 : decide (a1 ≤ 1) = true := decide_eq_true c3
  clear c3
  simp only [Option.some.injEq, Prod.mk.injEq] at H
  obtain ⟨rfl, rfl, rfl⟩ := H
  go_enter Tryd.func39, Tryd.ntmps39
  go_wp2
  go_ret
  exact ⟨by first | rfl | (simp [errW_none, errW_some] <;> rfl) | (simp [*, errW_none, errW_some] <;> rfl), by repeat (first | (with_reducible first | exact HI0.out | apply IsS73.alloc | apply IsS73.drewN | apply IsS73.drew | apply IsS73.set_1 | apply IsS73.set_2) | exact HI0.out), by repeat (first | (with_reducible first | exact HB.out | apply below_alloc | apply pw_below_drewN | apply below_drew1 | refine below_set ?_ (IsS73.ge HI0.out)) | exact HB.out), by repeat (first | (with_reducible first | exact HK.out | apply KeepBut.set_ | apply keep_drewN | apply keep_drew | apply keep_alloc) | exact HK.out)⟩
 ·rw [if_neg c3] at H
  have c3b0 : decide (a1 ≤ 1) = false := decide_eq_false c3
  clear c3
  replace H := Option.bind_eq_some_iff.mp H
  obtain ⟨⟨t103, t104, t105⟩, A40, H⟩ := H
  replace H : (if a1 > 200 then ((spec_l00Src_next.f s0_0 t104 t105).bind fun bt106 => (if a1 = 0 then (none) else (some (Int.tmod (wrap64 ((wrap64 (t103 * 256)) + bt106.1)) a1, bt106.2.1, bt106.2.2)))) else (if a1 = 0 then (none) else (some (Int.tmod t103 a1, t104, t105)))) = some (r1, r2, r3) := H
  have A4 := Aside0.mk A40
  clear A40
  by_cases c5 : a1 > 200
  ·rw [if_pos c5] at H
   have c5b0 : decide (200 < a1) = true := decide_eq_true c5
   clear c5
   replace H := Option.bind_eq_some_iff.mp H
   obtain ⟨⟨t106, t107, t108⟩, A60, H⟩ := H
   replace H : (if a1 = 0 then (none) else (some (Int.tmod (wrap64 ((wrap64 (t103 * 256)) + t106)) a1, t107, t108))) = some (r1, r2, r3) := H
   have A6 := Aside0.mk A60
   clear A60
   by_cases c7 : a1 = 0
   ·rw [if_pos c7] at H
    exact absurd H (by simp)
   ·rw [if_neg c7] at H
    have c7b0 : (a1 == 0) = false := beq_eq_false_iff_ne.mpr c7
    have c7b1 : (a1 != 0) = true := bne_iff_ne.mpr c7
    simp only [Option.some.injEq, Prod.mk.injEq] at H
    obtain ⟨rfl, rfl, rfl⟩ := H
    go_enter Tryd.func39, Tryd.ntmps39
    go_wp2_with (first | ((with_reducible refine gate_callee (f := 53) rfl ?_); refine goesL_ (some 9) rfl rfl Tryd.func53 (by kernel_rfl) rfl #[.pointer (some ⟨g, 0, none⟩)] rfl (by (try simp only [List.map_toArray, List.map_cons, List.map_nil]); first | done | rfl | (simp only [List.length_drop, List.length_take]; rfl)) ?_; (with_reducible refine (spec_l00Src_next.calls g s0_0 s0_1 s0_2 t103 t104 t105 w0 _ ?side1 ?side2 A4.out).mono ?_); (case side1 => repeat (first | (with_reducible first | exact HI0.out | apply IsS73.alloc | apply IsS73.drewN | apply IsS73.drew | apply IsS73.set_1 | apply IsS73.set_2) | exact HI0.out)); (case side2 => repeat (first | (with_reducible first | exact HB.out | apply below_alloc | apply pw_below_drewN | apply below_drew1 | refine below_set ?_ (IsS73.ge HI0.out)) | exact HB.out)); rintro e w8 ⟨rfl, hi, hb, hk⟩; refine ⟨_, rfl, ?_⟩; have n0_ := Aside0.mk (KeepBut.trans (by repeat (first | (with_reducible first | exact HK.out | apply KeepBut.set_ | apply keep_drewN | apply keep_drew | apply keep_alloc) | exact HK.out)) hk (.inl rfl)); have n1_ := Aside0.mk (hb); have n2_ := Aside0.mk (hi); clear HK; clear HB; clear HI0; have HK := n0_; have HB := n1_; have HI0 := n2_; clear n0_ n1_ n2_; (try clear hb); (try clear hb2); (try clear hk); (try clear hi)) | ((with_reducible refine gate_callee (f := 53) rfl ?_); refine goesL_ (some 15) rfl rfl Tryd.func53 (by kernel_rfl) rfl #[.pointer (some ⟨g, 0, none⟩)] rfl (by (try simp only [List.map_toArray, List.map_cons, List.map_nil]); first | done | rfl | (simp only [List.length_drop, List.length_take]; rfl)) ?_; (with_reducible refine (spec_l00Src_next.calls g s0_0 t104 t105 t106 t107 t108 w0 _ ?side1 ?side2 A6.out).mono ?_); (case side1 => repeat (first | (with_reducible first | exact HI0.out | apply IsS73.alloc | apply IsS73.drewN | apply IsS73.drew | apply IsS73.set_1 | apply IsS73.set_2) | exact HI0.out)); (case side2 => repeat (first | (with_reducible first | exact HB.out | apply below_alloc | apply pw_below_drewN | apply below_drew1 | refine below_set ?_ (IsS73.ge HI0.out)) | exact HB.out)); rintro e w9 ⟨rfl, hi, hb, hk⟩; refine ⟨_, rfl, ?_⟩; have n0_ := Aside0.mk (KeepBut.trans (by repeat (first | (with_reducible first | exact HK.out | apply KeepBut.set_ | apply keep_drewN | apply keep_drew | apply keep_alloc) | exact HK.out)) hk (.inl rfl)); have n1_ := Aside0.mk (hb); have n2_ := Aside0.mk (hi); clear HK; clear HB; clear HI0; have HK := n0_; have HB := n1_; have HI0 := n2_; clear n0_ n1_ n2_; (try clear hb); (try clear hb2); (try clear hk); (try clear hi)))
    go_ret
    exact ⟨by first | rfl | (simp [errW_none, errW_some] <;> rfl) | (simp [*, errW_none, errW_some] <;> rfl), by repeat (first | (with_reducible first | exact HI0.out | apply IsS73.alloc | apply IsS73.drewN | apply IsS73.drew | apply IsS73.set_1 | apply IsS73.set_2) | exact HI0.out), by repeat (first | (with_reducible first | exact HB.out | apply below_alloc | apply pw_below_drewN | apply below_drew1 | refine below_set ?_ (IsS73.ge HI0.out)) | exact HB.out), by repeat (first | (with_reducible first | exact HK.out | apply KeepBut.set_ | apply keep_drewN | apply keep_drew | apply keep_alloc) | exact HK.out)⟩
  ·rw [if_neg c5] at H
   have c5b0 : decide (200 < a1) = false := decide_eq_false c5
   clear c5
   by_cases c10 : a1 = 0
   ·rw [if_pos c10] at H
    exact absurd H (by simp)
   ·rw [if_neg c10] at H
    have c10b0 : (a1 == 0) = false := beq_eq_false_iff_ne.mpr c10
    have c10b1 : (a1 != 0) = true := bne_iff_ne.mpr c10
    simp only [Option.some.injEq, Prod.mk.injEq] at H
    obtain ⟨rfl, rfl, rfl⟩ := H
    go_enter Tryd.func39, Tryd.ntmps39
    go_wp2_with (first | ((with_reducible refine gate_callee (f := 53) rfl ?_); refine goesL_ (some 9) rfl rfl Tryd.func53 (by kernel_rfl) rfl #[.pointer (some ⟨g, 0, none⟩)] rfl (by (try simp only [List.map_toArray, List.map_cons, List.map_nil]); first | done | rfl | (simp only [List.length_drop, List.length_take]; rfl)) ?_; (with_reducible refine (spec_l00Src_next.calls g s0_0 s0_1 s0_2 t103 t104 t105 w0 _ ?side1 ?side2 A4.out).mono ?_); (case side1 => repeat (first | (with_reducible first | exact HI0.out | apply IsS73.alloc | apply IsS73.drewN | apply IsS73.drew | apply IsS73.set_1 | apply IsS73.set_2) | exact HI0.out)); (case side2 => repeat (first | (with_reducible first | exact HB.out | apply below_alloc | apply pw_below_drewN | apply below_drew1 | refine below_set ?_ (IsS73.ge HI0.out)) | exact HB.out)); rintro e w11 ⟨rfl, hi, hb, hk⟩; refine ⟨_, rfl, ?_⟩; have n0_ := Aside0.mk (KeepBut.trans (by repeat (first | (with_reducible first | exact HK.out | apply KeepBut.set_ | apply keep_drewN | apply keep_drew | apply keep_alloc) | exact HK.out)) hk (.inl rfl)); have n1_ := Aside0.mk (hb); have n2_ := Aside0.mk (hi); clear HK; clear HB; clear HI0; have HK := n0_; have HB := n1_; have HI0 := n2_; clear n0_ n1_ n2_; (try clear hb); (try clear hb2); (try clear hk); (try clear hi)))
    go_ret
    exact ⟨by first | rfl | (simp [errW_none, errW_some] <;> rfl) | (simp [*, errW_none, errW_some] <;> rfl), by repeat (first | (with_reducible first | exact HI0.out | apply IsS73.alloc | apply IsS73.drewN | apply IsS73.drew | apply IsS73.set_1 | apply IsS73.set_2) | exact HI0.out), by repeat (first | (with_reducible first | exact HB.out | apply below_alloc | apply pw_below_drewN | apply below_drew1 | refine below_set ?_ (IsS73.ge HI0.out)) | exact HB.out), by repeat (first | (with_reducible first | exact HK.out | apply KeepBut.set_ | apply keep_drewN | apply keep_drew | apply keep_alloc) | exact HK.out)⟩

end Go.Proofs.YtbgokpobaemibaaDoor.Pa

namespace Go.Proofs.YtbgokpobaemibaaDoor.Pa
open Go.RowKit Go.Proofs.YtbgokpobaemibaaDoorW.PrintWords Go.Proofs.YtbgokpobaemibaaDoorW.PrintLast Go.Proofs.YtbgokpobaemibaaDoorW.PrintMore
attribute [local go_sem] max2_int min2_int max_two min_two max_three min_three max_four min_four   -- for this text's walks alone
set_option linter.unusedVariables false
set_option linter.unusedSimpArgs false

/-! ### spec_l00Src_one: function 40 -/
def spec_l00Src_one.f (s0_0 : List Int) (s0_1 : Int) (s0_2 : Int) (a1 : Int) : Option (Bool × Int × Int) := (spec_l00Src_pick.f s0_0 s0_1 s0_2 a1).bind fun bt109 => (some ((bt109.1 == 0), bt109.2.1, bt109.2.2))
set_option maxHeartbeats 8000000 in
set_option maxRecDepth 100000 in
theorem spec_l00Src_one.calls (g : Nat) (s0_0 : List Int) (s0_1 : Int) (s0_2 : Int) (a1 : Int) (r1 : Bool) (r2 : Int) (r3 : Int) (w0 w : World) (hI : IsS73 w0 w g s0_0 s0_1 s0_2) (hB : Below w0.heap.size w0 w) (h : spec_l00Src_one.f s0_0 s0_1 s0_2 a1 = some (r1, r2, r3)) :
  Calls Tryd.prog 40 #[.pointer (some ⟨g, 0, none⟩), .int .i64 a1] w fun e w' => e = .returned (.bool r1) ∧ IsS73 w0 w' g s0_0 r2 r3 ∧ Below w0.heap.size w0 w' ∧ KeepBut w w' g none := by
 have HI0 := Aside0.mk hI
 have HK := Aside0.mk (KeepBut.refl w g none)
 have HL := Aside0.mk hB.size
 clear hI
 have HW0 := Aside0.mk hB.size
 have HB := Aside0.mk hB
 clear hB
 have H : ((spec_l00Src_pick.f s0_0 s0_1 s0_2 a1).bind fun bt109 => (some ((bt109.1 == 0), bt109.2.1, bt109.2.2))) = some (r1, r2, r3) := h
 clear h
 replace H := Option.bind_eq_some_iff.mp H
 obtain ⟨⟨t109, t110, t111⟩, A30, H⟩ := H
 replace H : (some ((t109 == 0), t110, t111)) = some (r1, r2, r3) := H
 have A3 := Aside0.mk A30
 clear A30
 simp only [Option.some.injEq, Prod.mk.injEq] at H
 obtain ⟨rfl, rfl, rfl⟩ := H
 go_enter Tryd.func40, Tryd.ntmps40
 go_wp2_with (first | ((with_reducible refine gate_callee (f := 39) rfl ?_); refine goesL_ (some 7) rfl rfl Tryd.func39 (by kernel_rfl) rfl #[.pointer (some ⟨g, 0, none⟩), .int .i64 a1] rfl (by (try simp only [List.map_toArray, List.map_cons, List.map_nil]); first | done | rfl | (simp only [List.length_drop, List.length_take]; rfl)) ?_; (with_reducible refine (spec_l00Src_pick.calls g s0_0 s0_1 s0_2 a1 t109 t110 t111 w0 _ ?side1 ?side2 A3.out).mono ?_); (case side1 => repeat (first | (with_reducible first | exact HI0.out | apply IsS73.alloc | apply IsS73.drewN | apply IsS73.drew | apply IsS73.set_1 | apply IsS73.set_2) | exact HI0.out)); (case side2 => repeat (first | (with_reducible first | exact HB.out | apply below_alloc | apply pw_below_drewN | apply below_drew1 | refine below_set ?_ (IsS73.ge HI0.out)) | exact HB.out)); rintro e w4 ⟨rfl, hi, hb, hk⟩; refine ⟨_, rfl, ?_⟩; have n0_ := Aside0.mk (KeepBut.trans (by repeat (first | (with_reducible first | exact HK.out | apply KeepBut.set_ | apply keep_drewN | apply keep_drew | apply keep_alloc) | exact HK.out)) hk (.inl rfl)); have n1_ := Aside0.mk (hb); have n2_ := Aside0.mk (hi); clear HK; clear HB; clear HI0; have HK := n0_; have HB := n1_; have HI0 := n2_; clear n0_ n1_ n2_; (try clear hb); (try clear hb2); (try clear hk); (try clear hi)))
 go_ret
 exact ⟨by first | rfl | (simp [errW_none, errW_some] <;> rfl) | (simp [*, errW_none, errW_some] <;> rfl), by repeat (first | (with_reducible first | exact HI0.out | apply IsS73.alloc | apply IsS73.drewN | apply IsS73.drew | apply IsS73.set_1 | apply IsS73.set_2) | exact HI0.out), by repeat (first | (with_reducible first | exact HB.out | apply below_alloc | apply pw_below_drewN | apply below_drew1 | refine below_set ?_ (IsS73.ge HI0.out)) | exact HB.out), by repeat (first | (with_reducible first | exact HK.out | apply KeepBut.set_ | apply keep_drewN | apply keep_drew | apply keep_alloc) | exact HK.out)⟩

end Go.Proofs.YtbgokpobaemibaaDoor.Pa

