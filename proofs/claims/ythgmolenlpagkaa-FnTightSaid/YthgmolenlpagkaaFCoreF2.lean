-- Written for this claim by a program of this session.
import Derived.Test.YthgmolenlpagkaaFPax0
import Derived.Test.YthgmolenlpagkaaFCoreF1
import Derived.Shelf.Abstract
namespace Go.Proofs.Ythgmolenlpagkaa.Pa
open Go.RowKit Go.Proofs.YthgmolenlpagkaaW.PrintWords Go.Proofs.YthgmolenlpagkaaW.PrintLast Go.Proofs.YthgmolenlpagkaaW.PrintMore
attribute [local go_sem] max2_int min2_int max_two min_two max_three min_three max_four min_four   -- for this text's walks alone
set_option linter.unusedVariables false
set_option linter.unusedSimpArgs false

/-! ### impl_isBound: function 19 -/
def impl_isBound.f (a0_0 : Int) (a0_1 : Int) (a0_2 : Int) (a1 : Int) : Option (Bool) := (impl_within.f a0_0 0 (wrap64 (a1 - 1))).bind fun t173 => (if t173 = true then ((impl_within.f a0_1 0 (wrap64 (a1 - 1))).bind fun t174 => (if t174 = true then (if a0_0 = a0_1 then (some false) else ((impl_isLimit.f a0_2).bind fun t175 => (some t175))) else (some false))) else (some false))
set_option maxHeartbeats 8000000 in
set_option maxRecDepth 100000 in
theorem impl_isBound.calls (a0_0 : Int) (a0_1 : Int) (a0_2 : Int) (a1 : Int) (r : Bool) (w : World) (h : impl_isBound.f a0_0 a0_1 a0_2 a1 = some r) :
  Calls Try.prog 19 #[.agg #[.int .i64 a0_0, .int .i64 a0_1, .int .i64 a0_2], .int .i64 a1] w fun e w' => e = .returned (.bool r) ∧ Below w.heap.size w w' := by
 have hu36 := Try.underlying36
 have HB := Aside0.mk (Below.refl w.heap.size w)
 have H : ((impl_within.f a0_0 0 (wrap64 (a1 - 1))).bind fun t173 => (if t173 = true then ((impl_within.f a0_1 0 (wrap64 (a1 - 1))).bind fun t174 => (if t174 = true then (if a0_0 = a0_1 then (some false) else ((impl_isLimit.f a0_2).bind fun t175 => (some t175))) else (some false))) else (some false))) = some r := h
 clear h
 replace H := Option.bind_eq_some_iff.mp H
 obtain ⟨t173, A30, H⟩ := H
 replace H : (if t173 = true then ((impl_within.f a0_1 0 (wrap64 (a1 - 1))).bind fun t174 => (if t174 = true then (if a0_0 = a0_1 then (some false) else ((impl_isLimit.f a0_2).bind fun t175 => (some t175))) else (some false))) else (some false)) = some r := H
 have A3 := Aside0.mk A30
 clear A30
 by_cases c4 : t173 = true
 ·subst c4
  have H1 : ((impl_within.f a0_1 0 (wrap64 (a1 - 1))).bind fun t174 => (if t174 = true then (if a0_0 = a0_1 then (some false) else ((impl_isLimit.f a0_2).bind fun t175 => (some t175))) else (some false))) = some r := by rw [if_pos rfl] at H; exact H
  clear H
  have H := H1
  clear H1
  replace H := Option.bind_eq_some_iff.mp H
  obtain ⟨t174, A50, H⟩ := H
  replace H : (if t174 = true then (if a0_0 = a0_1 then (some false) else ((impl_isLimit.f a0_2).bind fun t175 => (some t175))) else (some false)) = some r := H
  have A5 := Aside0.mk A50
  clear A50
  by_cases c6 : t174 = true
  ·subst c6
   have H1 : (if a0_0 = a0_1 then (some false) else ((impl_isLimit.f a0_2).bind fun t175 => (some t175))) = some r := by rw [if_pos rfl] at H; exact H
   clear H
   have H := H1
   clear H1
   by_cases c7 : a0_0 = a0_1
   ·rw [if_pos c7] at H
    have c7b0 : (a0_0 == a0_1) = true := beq_iff_eq.mpr c7
    have c7b1 : (a0_0 != a0_1) = false := bne_eq_false_iff_eq.mpr c7
    clear c7
    obtain rfl := Option.some.inj H
    go_enter Try.func19, Try.ntmps19
    go_wp2_with (first | ((with_reducible refine gate_dst (N := 2) rfl ?_); refine box_event ?hg (N := 2) ?hd (cs := #[.int .i64 a0_0, .int .i64 a0_1, .int .i64 a0_2]) (t := 36) ?hr ?_; (case hd => rfl); (case hg => rfl); (case hr => first | (go_simp; done) | (go_simp; rfl)); intro gb172 hg w8 hbox hb; have n0_ := Aside0.mk (below_step (by repeat (first | (with_reducible first | exact HB.out | apply below_alloc | apply pw_below_drewN | apply below_drew1) | exact HB.out)) hb); have n1_ := Aside0.mk (hbox); have n2_ := Aside0.mk ((by rw [hg]; exact (below_size (by repeat (first | (with_reducible first | exact HB.out | apply below_alloc | apply pw_below_drewN | apply below_drew1) | exact HB.out))) : w.heap.size ≤ gb172)); have n3_ := Aside0.mk ((by rw [hg]; exact (below_size (by repeat (first | (with_reducible first | exact HB.out | apply below_alloc | apply pw_below_drewN | apply below_drew1) | exact HB.out))) : w.heap.size ≤ gb172)); clear HB; have HB := n0_; have BK172 := n1_; have GW172 := n2_; have GE172 := n3_; clear n0_ n1_ n2_ n3_; clear hb hbox hg; have hcz9_0 : w8.cell? ⟨gb172, 0, none⟩ = some (.int .i64 a0_0) := (blk_cell BK172.out 0).trans rfl; have hcz9_1 : w8.cell? ⟨gb172, 1, none⟩ = some (.int .i64 a0_1) := (blk_cell BK172.out 1).trans rfl; have hcz9_2 : w8.cell? ⟨gb172, 2, none⟩ = some (.int .i64 a0_2) := (blk_cell BK172.out 2).trans rfl; have hfz9_0 := blk_frozen BK172.out 0; have hfz9_1 := blk_frozen BK172.out 1; have hfz9_2 := blk_frozen BK172.out 2) | ((with_reducible refine gate_callee (f := 16) rfl ?_); refine goesL_ (some 9) rfl rfl Try.func16 (by kernel_rfl) rfl #[.int .i64 a0_0, .int .i64 0, .int .i64 (wrap64 (a1 - 1))] rfl (by (try simp only [List.map_toArray, List.map_cons, List.map_nil]); first | done | rfl | (simp only [List.length_drop, List.length_take]; rfl)) ?_; (with_reducible refine (impl_within.calls a0_0 0 (wrap64 (a1 - 1)) true _ A3.out).mono ?_); rintro e w' ⟨rfl, ⟨nd, rfl⟩⟩; refine ⟨_, rfl, ?_⟩) | (go_at_call 16; (with_reducible refine (impl_within.calls a0_1 0 (wrap64 (a1 - 1)) true _ A5.out).mono ?_); rintro e w' ⟨rfl, ⟨nd, rfl⟩⟩))
    go_ret
    exact ⟨by first | rfl | (simp [errW_none, errW_some] <;> rfl) | (simp [*, errW_none, errW_some] <;> rfl), by repeat (first | (with_reducible first | exact HB.out | apply below_alloc | apply pw_below_drewN | apply below_drew1 | refine below_set ?_ GE172.out) | exact HB.out)⟩
   ·rw [if_neg c7] at H
    have c7b0 : (a0_0 == a0_1) = false := beq_eq_false_iff_ne.mpr c7
    have c7b1 : (a0_0 != a0_1) = true := bne_iff_ne.mpr c7
    replace H := Option.bind_eq_some_iff.mp H
    obtain ⟨t175, A100, H⟩ := H
    replace H : (some t175) = some r := H
    have A10 := Aside0.mk A100
    clear A100
    obtain rfl := Option.some.inj H
    go_enter Try.func19, Try.ntmps19
    go_wp2_with (first | ((with_reducible refine gate_dst (N := 2) rfl ?_); refine box_event ?hg (N := 2) ?hd (cs := #[.int .i64 a0_0, .int .i64 a0_1, .int .i64 a0_2]) (t := 36) ?hr ?_; (case hd => rfl); (case hg => rfl); (case hr => first | (go_simp; done) | (go_simp; rfl)); intro gb172 hg w11 hbox hb; have n0_ := Aside0.mk (below_step (by repeat (first | (with_reducible first | exact HB.out | apply below_alloc | apply pw_below_drewN | apply below_drew1) | exact HB.out)) hb); have n1_ := Aside0.mk (hbox); have n2_ := Aside0.mk ((by rw [hg]; exact (below_size (by repeat (first | (with_reducible first | exact HB.out | apply below_alloc | apply pw_below_drewN | apply below_drew1) | exact HB.out))) : w.heap.size ≤ gb172)); have n3_ := Aside0.mk ((by rw [hg]; exact (below_size (by repeat (first | (with_reducible first | exact HB.out | apply below_alloc | apply pw_below_drewN | apply below_drew1) | exact HB.out))) : w.heap.size ≤ gb172)); clear HB; have HB := n0_; have BK172 := n1_; have GW172 := n2_; have GE172 := n3_; clear n0_ n1_ n2_ n3_; clear hb hbox hg; have hcz12_0 : w11.cell? ⟨gb172, 0, none⟩ = some (.int .i64 a0_0) := (blk_cell BK172.out 0).trans rfl; have hcz12_1 : w11.cell? ⟨gb172, 1, none⟩ = some (.int .i64 a0_1) := (blk_cell BK172.out 1).trans rfl; have hcz12_2 : w11.cell? ⟨gb172, 2, none⟩ = some (.int .i64 a0_2) := (blk_cell BK172.out 2).trans rfl; have hfz12_0 := blk_frozen BK172.out 0; have hfz12_1 := blk_frozen BK172.out 1; have hfz12_2 := blk_frozen BK172.out 2) | ((with_reducible refine gate_callee (f := 16) rfl ?_); refine goesL_ (some 9) rfl rfl Try.func16 (by kernel_rfl) rfl #[.int .i64 a0_0, .int .i64 0, .int .i64 (wrap64 (a1 - 1))] rfl (by (try simp only [List.map_toArray, List.map_cons, List.map_nil]); first | done | rfl | (simp only [List.length_drop, List.length_take]; rfl)) ?_; (with_reducible refine (impl_within.calls a0_0 0 (wrap64 (a1 - 1)) true _ A3.out).mono ?_); rintro e w' ⟨rfl, ⟨nd, rfl⟩⟩; refine ⟨_, rfl, ?_⟩) | (go_at_call 16; (with_reducible refine (impl_within.calls a0_1 0 (wrap64 (a1 - 1)) true _ A5.out).mono ?_); rintro e w' ⟨rfl, ⟨nd, rfl⟩⟩) | (go_at_call 30; (with_reducible refine (impl_isLimit.calls a0_2 t175 _ A10.out).mono ?_); rintro e w' ⟨rfl, ⟨nd, rfl⟩⟩))
    go_ret
    exact ⟨by first | rfl | (simp [errW_none, errW_some] <;> rfl) | (simp [*, errW_none, errW_some] <;> rfl), by repeat (first | (with_reducible first | exact HB.out | apply below_alloc | apply pw_below_drewN | apply below_drew1 | refine below_set ?_ GE172.out) | exact HB.out)⟩
  ·replace c6 := Bool.eq_false_iff.mpr c6
   subst c6
   have H1 : (some false) = some r := by rw [if_neg (show ¬ (false = true) by decide)] at H; exact H
   clear H
   have H := H1
   clear H1
   obtain rfl := Option.some.inj H
   go_enter Try.func19, Try.ntmps19
   go_wp2_with (first | ((with_reducible refine gate_dst (N := 2) rfl ?_); refine box_event ?hg (N := 2) ?hd (cs := #[.int .i64 a0_0, .int .i64 a0_1, .int .i64 a0_2]) (t := 36) ?hr ?_; (case hd => rfl); (case hg => rfl); (case hr => first | (go_simp; done) | (go_simp; rfl)); intro gb172 hg w13 hbox hb; have n0_ := Aside0.mk (below_step (by repeat (first | (with_reducible first | exact HB.out | apply below_alloc | apply pw_below_drewN | apply below_drew1) | exact HB.out)) hb); have n1_ := Aside0.mk (hbox); have n2_ := Aside0.mk ((by rw [hg]; exact (below_size (by repeat (first | (with_reducible first | exact HB.out | apply below_alloc | apply pw_below_drewN | apply below_drew1) | exact HB.out))) : w.heap.size ≤ gb172)); have n3_ := Aside0.mk ((by rw [hg]; exact (below_size (by repeat (first | (with_reducible first | exact HB.out | apply below_alloc | apply pw_below_drewN | apply below_drew1) | exact HB.out))) : w.heap.size ≤ gb172)); clear HB; have HB := n0_; have BK172 := n1_; have GW172 := n2_; have GE172 := n3_; clear n0_ n1_ n2_ n3_; clear hb hbox hg; have hcz14_0 : w13.cell? ⟨gb172, 0, none⟩ = some (.int .i64 a0_0) := (blk_cell BK172.out 0).trans rfl; have hcz14_1 : w13.cell? ⟨gb172, 1, none⟩ = some (.int .i64 a0_1) := (blk_cell BK172.out 1).trans rfl; have hcz14_2 : w13.cell? ⟨gb172, 2, none⟩ = some (.int .i64 a0_2) := (blk_cell BK172.out 2).trans rfl; have hfz14_0 := blk_frozen BK172.out 0; have hfz14_1 := blk_frozen BK172.out 1; have hfz14_2 := blk_frozen BK172.out 2) | ((with_reducible refine gate_callee (f := 16) rfl ?_); refine goesL_ (some 9) rfl rfl Try.func16 (by kernel_rfl) rfl #[.int .i64 a0_0, .int .i64 0, .int .i64 (wrap64 (a1 - 1))] rfl (by (try simp only [List.map_toArray, List.map_cons, List.map_nil]); first | done | rfl | (simp only [List.length_drop, List.length_take]; rfl)) ?_; (with_reducible refine (impl_within.calls a0_0 0 (wrap64 (a1 - 1)) true _ A3.out).mono ?_); rintro e w' ⟨rfl, ⟨nd, rfl⟩⟩; refine ⟨_, rfl, ?_⟩) | (go_at_call 16; (with_reducible refine (impl_within.calls a0_1 0 (wrap64 (a1 - 1)) false _ A5.out).mono ?_); rintro e w' ⟨rfl, ⟨nd, rfl⟩⟩))
   go_ret
   exact ⟨by first | rfl | (simp [errW_none, errW_some] <;> rfl) | (simp [*, errW_none, errW_some] <;> rfl), by repeat (first | (with_reducible first | exact HB.out | apply below_alloc | apply pw_below_drewN | apply below_drew1 | refine below_set ?_ GE172.out) | exact HB.out)⟩
 ·replace c4 := Bool.eq_false_iff.mpr c4
  subst c4
  have H1 : (some false) = some r := by rw [if_neg (show ¬ (false = true) by decide)] at H; exact H
  clear H
  have H := H1
  clear H1
  obtain rfl := Option.some.inj H
  go_enter Try.func19, Try.ntmps19
  go_wp2_with (first | ((with_reducible refine gate_dst (N := 2) rfl ?_); refine box_event ?hg (N := 2) ?hd (cs := #[.int .i64 a0_0, .int .i64 a0_1, .int .i64 a0_2]) (t := 36) ?hr ?_; (case hd => rfl); (case hg => rfl); (case hr => first | (go_simp; done) | (go_simp; rfl)); intro gb172 hg w15 hbox hb; have n0_ := Aside0.mk (below_step (by repeat (first | (with_reducible first | exact HB.out | apply below_alloc | apply pw_below_drewN | apply below_drew1) | exact HB.out)) hb); have n1_ := Aside0.mk (hbox); have n2_ := Aside0.mk ((by rw [hg]; exact (below_size (by repeat (first | (with_reducible first | exact HB.out | apply below_alloc | apply pw_below_drewN | apply below_drew1) | exact HB.out))) : w.heap.size ≤ gb172)); have n3_ := Aside0.mk ((by rw [hg]; exact (below_size (by repeat (first | (with_reducible first | exact HB.out | apply below_alloc | apply pw_below_drewN | apply below_drew1) | exact HB.out))) : w.heap.size ≤ gb172)); clear HB; have HB := n0_; have BK172 := n1_; have GW172 := n2_; have GE172 := n3_; clear n0_ n1_ n2_ n3_; clear hb hbox hg; have hcz16_0 : w15.cell? ⟨gb172, 0, none⟩ = some (.int .i64 a0_0) := (blk_cell BK172.out 0).trans rfl; have hcz16_1 : w15.cell? ⟨gb172, 1, none⟩ = some (.int .i64 a0_1) := (blk_cell BK172.out 1).trans rfl; have hcz16_2 : w15.cell? ⟨gb172, 2, none⟩ = some (.int .i64 a0_2) := (blk_cell BK172.out 2).trans rfl; have hfz16_0 := blk_frozen BK172.out 0; have hfz16_1 := blk_frozen BK172.out 1; have hfz16_2 := blk_frozen BK172.out 2) | ((with_reducible refine gate_callee (f := 16) rfl ?_); refine goesL_ (some 9) rfl rfl Try.func16 (by kernel_rfl) rfl #[.int .i64 a0_0, .int .i64 0, .int .i64 (wrap64 (a1 - 1))] rfl (by (try simp only [List.map_toArray, List.map_cons, List.map_nil]); first | done | rfl | (simp only [List.length_drop, List.length_take]; rfl)) ?_; (with_reducible refine (impl_within.calls a0_0 0 (wrap64 (a1 - 1)) false _ A3.out).mono ?_); rintro e w' ⟨rfl, ⟨nd, rfl⟩⟩; refine ⟨_, rfl, ?_⟩))
  go_ret
  exact ⟨by first | rfl | (simp [errW_none, errW_some] <;> rfl) | (simp [*, errW_none, errW_some] <;> rfl), by repeat (first | (with_reducible first | exact HB.out | apply below_alloc | apply pw_below_drewN | apply below_drew1 | refine below_set ?_ GE172.out) | exact HB.out)⟩

end Go.Proofs.Ythgmolenlpagkaa.Pa

namespace Go.Proofs.Ythgmolenlpagkaa.Pa
open Go.RowKit Go.Proofs.YthgmolenlpagkaaW.PrintWords Go.Proofs.YthgmolenlpagkaaW.PrintLast Go.Proofs.YthgmolenlpagkaaW.PrintMore
attribute [local go_sem] max2_int min2_int max_two min_two max_three min_three max_four min_four   -- for this text's walks alone
set_option linter.unusedVariables false
set_option linter.unusedSimpArgs false

/-! ### AUX firstOf -/
/-- The place of the first element for which a test holds, or -1. -/
def firstOf {α : Type} (p : α → Bool) : List α → Int → Int
 | [], _ => -1
 | x :: l, i => if p x = true then i else firstOf p l (i + 1)
theorem firstOf_step {α : Type} (p : α → Bool) (x : α) (l : List α) (i : Int) : firstOf p (x :: l) i = if p x = true then i else firstOf p l (i + 1) := rfl
theorem firstOf_iff {α : Type} (p : α → Bool) (l : List α) : ∀ i, 0 ≤ i → (0 ≤ firstOf p l i ↔ l.any p = true) := by
 induction l with
 | nil => intro i hi; simp [firstOf]
 | cons x l ih =>
  intro i hi
  rw [firstOf_step, List.any_cons]
  by_cases hx : p x = true
  ·rw [if_pos hx, hx]
   simp [hi]
  ·rw [if_neg hx, Bool.eq_false_iff.mpr hx]
   simpa using ih (i + 1) (by omega)
theorem firstOf_any {α : Type} (p : α → Bool) (l : List α) : decide (0 ≤ firstOf p l 0) = l.any p := by
 rw [Bool.eq_iff_iff, decide_eq_true_iff]
 exact firstOf_iff p l 0 (by omega)
end Go.Proofs.Ythgmolenlpagkaa.Pa

namespace Go.Proofs.Ythgmolenlpagkaa.Pa
open Go.RowKit Go.Proofs.YthgmolenlpagkaaW.PrintWords Go.Proofs.YthgmolenlpagkaaW.PrintLast Go.Proofs.YthgmolenlpagkaaW.PrintMore
attribute [local go_sem] max2_int min2_int max_two min_two max_three min_three max_four min_four   -- for this text's walks alone
set_option linter.unusedVariables false
set_option linter.unusedSimpArgs false

/-! ### AUX containsB -/
set_option maxHeartbeats 2000000 in
set_option maxRecDepth 100000 in
theorem indexB.calls (A : Option Addr) (c : Nat) (l : List S36) (g : Nat) (lb : Array Value) (p : S36 → Bool) (w : World) (hr : Kd.C k36 w A l.length l)
  (eg : ∀ args W, (callFunc g args).run Try.prog W = .ok (.enter g args) W)
  (hp : ∀ (W : World) (x : S36), x ∈ l → Below w.heap.size w W → Calls Try.prog g (#[.agg #[.int .i64 x.f0, .int .i64 x.f1, .int .i64 x.f2]] ++ lb) W fun e w' => e = .returned (.bool (p x)) ∧ Below w.heap.size w w') :
  Calls Try.prog 29 #[.slice A l.length c, .func (.func g) #[] lb] w fun e w' => e = .returned (.int .i64 (firstOf p l 0)) ∧ Below w.heap.size w w' := by
 have hu := Try.underlying36
 have HR := Aside0.mk hr
 have hlen : l.length ≤ 9223372036854775807 := hr.2.1
 clear hr
 have HP := Aside0.mk hp
 clear hp
 go_enter Try.func29, Try.ntmps29
 go_wp2
 go_loopg [5, 8] l.length (fun gg _ s8 wr => ∃ x : Int, s8 = .int .i64 x ∧ Aside0 (0 ≤ x ∧ x ≤ l.length ∧ (l.length : Int) - x ≤ gg) ∧ Aside0 (Below w.heap.size w wr) ∧ Aside0 (firstOf p l 0 = firstOf p (l.drop x.toNat) x))
 case atStart => exact ⟨0, rfl, ⟨by omega⟩, ⟨Below.refl _ w⟩, ⟨rfl⟩⟩
 case round =>
  obtain ⟨x, rfl, HX, HB, HF⟩ := hrel
  by_cases hlt : x < (l.length : Int)
  ·have c0 : decide (0 ≤ x) = true := decide_eq_true HX.out.1
   have c1 : decide (x < (l.length : Int)) = true := decide_eq_true hlt
   have HL := Aside0.mk hlt
   clear hlt
   obtain ⟨ad, e, h0, h1, h2⟩ := at_T36 HR.out x HX.out.1 HL.out
   cases e
   replace h0 := (HB.out.cell (World.block_lt_of_cell? w _ h0)).trans h0
   replace h1 := (HB.out.cell (World.block_lt_of_cell? w _ h1)).trans h1
   replace h2 := (HB.out.cell (World.block_lt_of_cell? w _ h2)).trans h2
   have hmem : rd_T36 l x ∈ l := by
    have hx := HX.out
    have hl := HL.out
    unfold rd_T36
    rw [List.getD_eq_getElem?_getD, List.getElem?_eq_getElem (by omega)]
    exact List.getElem_mem _
   have hcall := HP.out wr (rd_T36 l x) hmem HB.out
   clear hmem
   have hd : l.drop x.toNat = rd_T36 l x :: l.drop (x + 1).toNat := by
    have hx := HX.out
    have hl := HL.out
    rw [List.drop_eq_getElem_cons (by omega), show (x + 1).toNat = x.toNat + 1 from by omega]
    unfold rd_T36
    rw [List.getD_eq_getElem?_getD, List.getElem?_eq_getElem (by omega)]
    rfl
   have HD := Aside0.mk hd
   clear hd
   cases hq : p (rd_T36 l x) with
   | true =>
    rw [hq] at hcall
    have HQ := Aside0.mk hq
    clear hq
    have HC := Aside0.mk hcall
    clear hcall
    have p0 := eq_true HX.out.1
    have p1 := eq_true HL.out
    go_wp2_with (go_at_fn g; refine HC.out.mono ?_; rintro e w' ⟨rfl, hb'⟩)
    go_ret
    refine ⟨?_, hb'⟩
    rw [HF.out, HD.out, firstOf_step, if_pos HQ.out]
    rfl
   | false =>
    rw [hq] at hcall
    have HQ := Aside0.mk hq
    clear hq
    have HC := Aside0.mk hcall
    clear hcall
    have p0 := eq_true HX.out.1
    have p1 := eq_true HL.out
    go_wp2_with (go_at_fn g; refine HC.out.mono ?_; rintro e w' ⟨rfl, hb'⟩)
    have hx1 := HX.out
    have hl1 := HL.out
    go_roundg ((l.length : Int) - (x + 1)).toNat
    case measure => omega
    case rel =>
     have hw1 : wrap64 (x + 1) = x + 1 := by unfold wrap64; omega
     refine ⟨x + 1, by rw [hw1], ⟨by omega⟩, ⟨hb'⟩, ⟨?_⟩⟩
     rw [HF.out, HD.out, firstOf_step, if_neg (by rw [HQ.out]; simp)]
  ·have c1 : decide (x < (l.length : Int)) = false := decide_eq_false hlt
   have HL := Aside0.mk hlt
   clear hlt
   go_wp2
   go_ret
   refine ⟨?_, HB.out⟩
   have hx := HX.out
   have hl := HL.out
   rw [HF.out, List.drop_of_length_le (by omega)]
   rfl
set_option maxHeartbeats 1000000 in
theorem containsB.calls (A : Option Addr) (c : Nat) (l : List S36) (g : Nat) (lb : Array Value) (p : S36 → Bool) (w : World) (hr : Kd.C k36 w A l.length l)
  (eg : ∀ args W, (callFunc g args).run Try.prog W = .ok (.enter g args) W)
  (hp : ∀ (W : World) (x : S36), x ∈ l → Below w.heap.size w W → Calls Try.prog g (#[.agg #[.int .i64 x.f0, .int .i64 x.f1, .int .i64 x.f2]] ++ lb) W fun e w' => e = .returned (.bool (p x)) ∧ Below w.heap.size w w') :
  Calls Try.prog 17 #[.slice A l.length c, .func (.func g) #[] lb] w fun e w' => e = .returned (.bool (l.any p)) ∧ Below w.heap.size w w' := by
 have hcall := Aside0.mk (indexB.calls A c l g lb p w hr eg hp)
 clear hp hr eg
 rw [← firstOf_any p l]
 generalize firstOf p l 0 = r at hcall ⊢
 go_enter Try.func17, Try.ntmps17
 go_wp2_with (go_at_call 29; refine hcall.out.mono ?_; rintro e w' ⟨rfl, hb'⟩)
 go_ret
 exact ⟨rfl, hb'⟩

end Go.Proofs.Ythgmolenlpagkaa.Pa

namespace Go.Proofs.Ythgmolenlpagkaa.Pa
open Go.RowKit Go.Proofs.YthgmolenlpagkaaW.PrintWords Go.Proofs.YthgmolenlpagkaaW.PrintLast Go.Proofs.YthgmolenlpagkaaW.PrintMore
attribute [local go_sem] max2_int min2_int max_two min_two max_three min_three max_four min_four   -- for this text's walks alone
set_option linter.unusedVariables false
set_option linter.unusedSimpArgs false

/-! ### impl_ValidDiagram: function 8 -/
/-- What a diagram must be. -/
def boundOk (n : Int) (b : S36) : Bool := decide (0 ≤ b.f0) && decide (b.f0 ≤ n - 1) && (decide (0 ≤ b.f1) && decide (b.f1 ≤ n - 1)) && !(b.f0 == b.f1) && (decide (-1000 ≤ b.f2) && decide (b.f2 ≤ 1000))
def diagramOk (n : Int) (l : List S36) : Bool := decide (1 ≤ n) && decide (n ≤ 10) && decide (l.length ≤ 24) && l.all (boundOk n)
theorem isBound_tells (a b c n : Int) (h0 : 1 ≤ n) (h1 : n ≤ 10) : impl_isBound.f a b c n = some (boundOk n ⟨a, b, c⟩) := by
 have hw : wrap64 (n - 1) = n - 1 := by unfold wrap64; omega
 have hin : ∀ x l u : Int, impl_within.f x l u = some (decide (l ≤ x) && decide (x ≤ u)) := by
  intro x l u
  unfold impl_within.f
  by_cases h : l ≤ x <;> simp [h]
 unfold impl_isBound.f impl_isLimit.f boundOk
 simp only [hin, hw, Option.bind_some]
 by_cases h2 : 0 ≤ a <;> by_cases h3 : a ≤ n - 1 <;> by_cases h4 : 0 ≤ b <;> by_cases h5 : b ≤ n - 1 <;> by_cases h6 : a = b <;> simp [h2, h3, h4, h5, h6]
def impl_ValidDiagram.f (a0_0 : Int) (l0_1 : List (S36)) : Option (Bool) := some (diagramOk a0_0 l0_1)
set_option maxHeartbeats 4000000 in
set_option maxRecDepth 100000 in
/-- The test that ValidDiagram hands on. -/
theorem ValidDiagram_test (n : Int) (A : Option Addr) (m c : Nat) (h0 : 1 ≤ n) (h1 : n ≤ 10) (B : Nat) (w : World) (hB : B < w.heap.size) (hc0 : w.cell? ⟨B, 0, none⟩ = some (.int .i64 n)) (W : World) (x : S36) (hb : Below w.heap.size w W) :
  Calls Try.prog 18 (#[.agg #[.int .i64 x.f0, .int .i64 x.f1, .int .i64 x.f2]] ++ #[.pointer (some ⟨B, 0, none⟩)]) W fun e w' => e = .returned (.bool (!boundOk n x)) ∧ Below w.heap.size w w' := by
 have hc : W.cell? ⟨B, 0, none⟩ = some (.int .i64 n) := (hb.cell (p := ⟨B, 0, none⟩) hB).trans hc0
 have hu := Try.underlying36
 have hu2 := Try.underlying26
 have hBW : B < W.heap.size := Nat.lt_of_lt_of_le hB hb.size
 have hne : B ≠ W.heap.size := by omega
 have hq := Aside0.mk (isBound_tells x.f0 x.f1 x.f2 n h0 h1)
 have HB := Aside0.mk hb
 clear hb hc0 h0 h1
 generalize boundOk n x = q at hq ⊢
 show Calls Try.prog 18 #[.agg #[.int .i64 x.f0, .int .i64 x.f1, .int .i64 x.f2], .pointer (some ⟨B, 0, none⟩)] W _
 go_enter Try.func18, Try.ntmps18
 go_wp2_with (go_at_call 19; refine (impl_isBound.calls _ _ _ _ q _ hq.out).mono ?_; rintro e w' ⟨rfl, hb'⟩)
 go_ret
 exact ⟨rfl, HB.out.trans (Below.mono ((below_alloc (Below.refl _ _) _).trans (hb'.mono (by simp))) HB.out.size)⟩
def anyBad (n : Int) (l : List S36) : Bool := l.any fun x => !boundOk n x
theorem anyBad_all (n : Int) (l : List S36) : (!anyBad n l) = l.all (boundOk n) := by
 unfold anyBad
 rw [List.all_eq_not_any_not]
theorem ValidDiagram_contains (n : Int) (A : Option Addr) (c : Nat) (l : List S36) (h0 : 1 ≤ n) (h1 : n ≤ 10) (B : Nat) (w : World) (hB : B < w.heap.size) (hc0 : w.cell? ⟨B, 0, none⟩ = some (.int .i64 n)) (hr : Kd.C k36 w A l.length l) :
  Calls Try.prog 17 #[.slice A l.length c, .func (.func 18) #[] #[.pointer (some ⟨B, 0, none⟩)]] w fun e w' => e = .returned (.bool (anyBad n l)) ∧ Below w.heap.size w w' :=
 containsB.calls A c l 18 #[.pointer (some ⟨B, 0, none⟩)] (fun x => !boundOk n x) w hr (enters_of Try.func18 (by kernel_rfl) rfl) (fun W x _ hb => ValidDiagram_test n A l.length c h0 h1 B w hB hc0 W x hb)
set_option maxHeartbeats 4000000 in
set_option maxRecDepth 100000 in
theorem impl_ValidDiagram.calls (a0_0 : Int) (A0_1 : Option Addr) (c0_1 : Nat) (l0_1 : List (S36)) (r : Bool) (w : World) (hr0_1 : Kd.C k36 w A0_1 l0_1.length l0_1) (hc0_1 : l0_1.length ≤ c0_1) (h : impl_ValidDiagram.f a0_0 l0_1 = some r) :
  Calls Try.prog 8 #[.agg #[.int .i64 a0_0, .slice A0_1 l0_1.length c0_1]] w fun e w' => e = .returned (.bool r) ∧ Below w.heap.size w w' := by
 obtain rfl := Option.some.inj h
 clear h
 have hu := Try.underlying26
 have HR := Aside0.mk hr0_1
 clear hr0_1 hc0_1
 by_cases hn : 1 ≤ a0_0 ∧ a0_0 ≤ 10
 ·obtain ⟨h0, h1⟩ := hn
  have HW : Aside0 (impl_within.f a0_0 1 10 = some true) := ⟨by unfold impl_within.f; rw [if_pos h0, decide_eq_true h1]⟩
  by_cases hl : l0_1.length ≤ 24
  ·have c1 : decide ((24 : Int) < (l0_1.length : Int)) = false := decide_eq_false (by omega)
   have c2 : decide (24 < l0_1.length) = false := decide_eq_false (by omega)
   have HE : Aside0 (diagramOk a0_0 l0_1 = !anyBad a0_0 l0_1) := ⟨by unfold diagramOk; rw [anyBad_all, decide_eq_true h0, decide_eq_true h1, decide_eq_true hl]; simp⟩
   have H0 := Aside0.mk h0
   have H1 := Aside0.mk h1
   clear h0 h1 hl
   generalize diagramOk a0_0 l0_1 = q at HE ⊢
   go_enter Try.func8, Try.ntmps8
   go_wp2_with (first | (go_at_call 16; refine (impl_within.calls _ _ _ true _ HW.out).mono ?_; rintro e w' ⟨rfl, ⟨nd, rfl⟩⟩) | (go_at_call 17; refine (ValidDiagram_contains a0_0 A0_1 c0_1 l0_1 H0.out H1.out w.heap.size _ (by simp) (by simp) (by repeat (first | exact HR.out | (with_reducible refine Kd.C_drewN ?_ _) | (with_reducible refine Kd.C_drew ?_) | (with_reducible refine Kd.C_alloc ?_ _)))).mono ?_; rintro e w' ⟨rfl, hb'⟩))
   go_ret
   exact ⟨by rw [HE.out]; rfl, (below_alloc (Below.refl _ _) _).trans (Below.mono (below_step (pw_below_drewN (Below.refl _ _) nd) hb') (by simp))⟩
  ·have c1 : decide ((24 : Int) < (l0_1.length : Int)) = true := decide_eq_true (by omega)
   have c2 : decide (24 < l0_1.length) = true := decide_eq_true (by omega)
   have HE : Aside0 (diagramOk a0_0 l0_1 = false) := ⟨by unfold diagramOk; rw [decide_eq_false hl]; simp⟩
   clear h0 h1 hl
   generalize diagramOk a0_0 l0_1 = q at HE ⊢
   go_enter Try.func8, Try.ntmps8
   go_wp2_with (go_at_call 16; refine (impl_within.calls _ _ _ true _ HW.out).mono ?_; rintro e w' ⟨rfl, ⟨nd, rfl⟩⟩)
   go_ret
   exact ⟨by rw [HE.out]; rfl, pw_below_drewN (below_alloc (Below.refl _ _) _) nd⟩
 ·have HW : Aside0 (impl_within.f a0_0 1 10 = some false) := ⟨by
   unfold impl_within.f
   split
   ·rw [decide_eq_false (by omega)]
   ·rfl⟩
  have HE : Aside0 (diagramOk a0_0 l0_1 = false) := ⟨by
   unfold diagramOk
   by_cases h0 : 1 ≤ a0_0
   ·rw [decide_eq_false (show ¬ a0_0 ≤ 10 by omega)]; simp
   ·rw [decide_eq_false h0]; simp⟩
  clear hn
  generalize diagramOk a0_0 l0_1 = q at HE ⊢
  go_enter Try.func8, Try.ntmps8
  go_wp2_with (go_at_call 16; refine (impl_within.calls _ _ _ false _ HW.out).mono ?_; rintro e w' ⟨rfl, ⟨nd, rfl⟩⟩)
  go_ret
  exact ⟨by rw [HE.out]; rfl, pw_below_drewN (below_alloc (Below.refl _ _) _) nd⟩

end Go.Proofs.Ythgmolenlpagkaa.Pa

/- The tightest bounds as a plain function of the rows: one step, the loops, the diagonal. -/
namespace Go.Proofs.Ythgmolenlpagkaa.Pure
open Go.RowKit Go.Proofs.Ythgmolenlpagkaa.Pa Go.Proofs.YthgmolenlpagkaaW.PrintWords Go.Proofs.YthgmolenlpagkaaW.PrintLast Go.Proofs.YthgmolenlpagkaaW.PrintMore
set_option linter.unusedVariables false
set_option linter.unusedSimpArgs false

theorem rdB_get {l : List S36} {i : Nat} (h : i < l.length) : rd_T36 l (i : Int) = l[i] := by
 unfold rd_T36
 rw [List.getD_eq_getElem?_getD, Int.toNat_natCast, List.getElem?_eq_getElem h]
 rfl
def I64 (x : Int) : Prop := -9223372036854775808 ≤ x ∧ x ≤ 9223372036854775807
theorem I64_wrap (x : Int) : I64 (wrap64 x) := by unfold I64 wrap64; omega
theorem I64_mn {a b : Int} (ha : I64 a) (hb : I64 b) : I64 (mn a b) := by unfold mn; split <;> assumption
/-- Square, of int64 numbers. -/
def Sq (n : Nat) (M : List (List Int)) : Prop := M.length = n ∧ ∀ r ∈ M, r.length = n ∧ ∀ y ∈ r, I64 y
theorem row_mem {n : Nat} {M : List (List Int)} (h : Sq n M) {i : Nat} (hi : i < n) : rd_L6 M (i : Int) ∈ M := by
 unfold rd_L6
 rw [List.getD_eq_getElem?_getD, Int.toNat_natCast, List.getElem?_eq_getElem (by rw [h.1]; exact hi)]
 exact List.getElem_mem _
theorem row_len {n : Nat} {M : List (List Int)} (h : Sq n M) {i : Nat} (hi : i < n) : (rd_L6 M (i : Int)).length = n := (h.2 _ (row_mem h hi)).1
theorem cell_in {n : Nat} {M : List (List Int)} (h : Sq n M) {i j : Nat} (hi : i < n) (hj : j < n) : I64 (rd (rd_L6 M (i : Int)) (j : Int)) := by
 have hl := row_len h hi
 rw [rd_get (by omega)]
 exact (h.2 _ (row_mem h hi)).2 _ (List.getElem_mem _)
theorem Sq_put {n : Nat} {M : List (List Int)} (h : Sq n M) {i : Nat} (hi : i < n) (j : Nat) {v : Int} (hv : I64 v) : Sq n (M.set i ((rd_L6 M (i : Int)).set j v)) := by
 refine ⟨by simp [h.1], fun r hr => ?_⟩
 rcases List.mem_or_eq_of_mem_set hr with hr | rfl
 ·exact h.2 r hr
 ·refine ⟨by simp [row_len h hi], fun y hy => ?_⟩
  rcases List.mem_or_eq_of_mem_set hy with hy | rfl
  ·exact (h.2 _ (row_mem h hi)).2 y hy
  ·exact hv

/-- One step: from i to j by way of x. -/
def stepJ (M : List (List Int)) (x i j : Nat) : List (List Int) :=
 if rd (rd_L6 M (i : Int)) (x : Int) < 1000000 then
  (if rd (rd_L6 M (x : Int)) (j : Int) < 1000000 then M.set i ((rd_L6 M (i : Int)).set j (mn (rd (rd_L6 M (i : Int)) (j : Int)) (wrap64 (rd (rd_L6 M (i : Int)) (x : Int) + rd (rd_L6 M (x : Int)) (j : Int))))) else M)
 else M
def foldJ (x i : Nat) : Nat → List (List Int) → Nat → List (List Int)
 | 0, M, _ => M
 | d + 1, M, j => foldJ x i d (stepJ M x i j) (j + 1)
def foldI (n x : Nat) : Nat → List (List Int) → Nat → List (List Int)
 | 0, M, _ => M
 | d + 1, M, i => foldI n x d (foldJ x i n M 0) (i + 1)
def foldX (n : Nat) : Nat → List (List Int) → Nat → List (List Int)
 | 0, M, _ => M
 | d + 1, M, x => foldX n d (foldI n x n M 0) (x + 1)
def diag : Nat → List (List Int) → Nat → Bool
 | 0, _, _ => true
 | d + 1, M, i => if rd (rd_L6 M (i : Int)) (i : Int) < 0 then false else diag d M (i + 1)
theorem Sq_stepJ {n : Nat} {M : List (List Int)} (h : Sq n M) {x i j : Nat} (hi : i < n) (hj : j < n) : Sq n (stepJ M x i j) := by
 unfold stepJ
 split
 ·split
  ·exact Sq_put h hi _ (I64_mn (cell_in h hi hj) (I64_wrap _))
  ·exact h
 ·exact h
theorem Sq_foldJ {n : Nat} {x i : Nat} (hi : i < n) (d : Nat) : ∀ (M : List (List Int)) (j : Nat), Sq n M → j + d ≤ n → Sq n (foldJ x i d M j) := by
 induction d with
 | zero => intro M j h _; exact h
 | succ d ih => intro M j h hj; exact ih _ _ (Sq_stepJ h hi (by omega)) (by omega)
theorem Sq_foldI {n : Nat} {x : Nat} (d : Nat) : ∀ (M : List (List Int)) (i : Nat), Sq n M → i + d ≤ n → Sq n (foldI n x d M i) := by
 induction d with
 | zero => intro M j h _; exact h
 | succ d ih => intro M j h hj; exact ih _ _ (Sq_foldJ (by omega) _ _ _ h (by omega)) (by omega)
theorem Sq_foldX {n : Nat} (d : Nat) : ∀ (M : List (List Int)) (x : Nat), Sq n M → Sq n (foldX n d M x) := by
 induction d with
 | zero => intro M j h; exact h
 | succ d ih => intro M j h; exact ih _ _ (Sq_foldI _ _ _ h (by omega))

theorem impl_j {n : Nat} (hn : n ≤ 10) {x i : Nat} (hx : x < n) (hi : i < n) (d : Nat) : ∀ (k : Nat) (M : List (List Int)) (j : Nat), Sq n M → j + d = n →
  impl_tightest.l4 (k + d + 1) M (x : Int) (i : Int) (n : Int) (x : Int) (n : Int) (i : Int) (n : Int) (j : Int) = impl_tightest.l3 k (foldJ x i d M j) (x : Int) (n : Int) (x : Int) (n : Int) ((i + 1 : Nat) : Int) := by
 induction d with
 | zero =>
  intro k M j h hj
  simp only [Nat.add_zero, impl_tightest.l4, foldJ]
  rw [if_neg (by omega), wrap_id (by omega) (by omega), ← Int.natCast_succ]
 | succ d ih =>
  intro k M j h hj
  have next := ih k (stepJ M x i j) (j + 1) (Sq_stepJ h hi (by omega)) (by omega)
  rw [show k + (d + 1) + 1 = (k + d + 1) + 1 from rfl]
  have hl := h.1
  have hri := row_len h hi
  have hrx := row_len h hx
  simp only [foldJ]
  rw [← next, show ((j + 1 : Nat) : Int) = (j : Int) + 1 from by omega]
  generalize k + d + 1 = m
  simp only [impl_tightest.l4]
  rw [if_pos (by omega), if_pos (by omega), if_pos (by omega), if_pos (by omega), if_pos (by omega)]
  unfold stepJ
  by_cases c1 : rd (rd_L6 M (i : Int)) (x : Int) < 1000000
  ·rw [if_pos c1, if_pos c1, if_pos (show (x : Int) < (M.length : Int) by omega), if_pos (by omega), if_pos (by omega), wrap_id (x := (j : Int) + 1) (by omega) (by omega)]
   by_cases c2 : rd (rd_L6 M (x : Int)) (j : Int) < 1000000
   ·rw [if_pos c2, if_pos c2, if_pos (show (j : Int) < ((rd_L6 M (i : Int)).length : Int) by omega)]
    simp only [Int.toNat_natCast]
   ·rw [if_neg c2, if_neg c2]
  ·rw [if_neg c1, if_neg c1, wrap_id (x := (j : Int) + 1) (by omega) (by omega)]
theorem impl_i {n : Nat} (hn : n ≤ 10) {x : Nat} (hx : x < n) (d : Nat) : ∀ (k : Nat) (M : List (List Int)) (i : Nat), Sq n M → i + d = n →
  impl_tightest.l3 (k + d * (n + 2) + 1) M (x : Int) (n : Int) (x : Int) (n : Int) (i : Int) = impl_tightest.l2 k (foldI n x d M i) (n : Int) ((x + 1 : Nat) : Int) := by
 induction d with
 | zero =>
  intro k M i h hi
  simp only [Nat.zero_mul, Nat.add_zero, impl_tightest.l3, foldI]
  rw [if_neg (by omega), wrap_id (by omega) (by omega), ← Int.natCast_succ]
 | succ d ih =>
  intro k M i h hi
  have next := ih k (foldJ x i n M 0) (i + 1) (Sq_foldJ (by omega) _ _ _ h (by omega)) (by omega)
  have hj := impl_j hn hx (show i < n by omega) n (k + d * (n + 2) + 1) M 0 h (by omega)
  rw [show k + (d + 1) * (n + 2) + 1 = (k + d * (n + 2) + 1 + n + 1) + 1 by rw [Nat.add_mul]; omega]
  conv => lhs; simp only [impl_tightest.l3]
  rw [if_pos (by omega), h.1]
  rw [show ((0 : Nat) : Int) = 0 from rfl] at hj
  rw [hj, next, foldI]
theorem impl_d {n : Nat} (hn : n ≤ 10) (d : Nat) : ∀ (k : Nat) (M : List (List Int)) (i : Nat), Sq n M → i + d = n →
  impl_tightest.l5 (k + d + 1) M (n : Int) (i : Int) = some (if diag d M i = true then (M, true) else ([], false)) := by
 induction d with
 | zero =>
  intro k M i h hi
  simp only [Nat.add_zero, impl_tightest.l5, diag]
  rw [if_neg (by omega), if_pos trivial]
 | succ d ih =>
  intro k M i h hi
  have hl := h.1
  have hr := row_len h (show i < n by omega)
  have next := ih k M (i + 1) h (by omega)
  rw [show k + (d + 1) + 1 = (k + d + 1) + 1 from rfl]
  push_cast at next
  have ed : diag (d + 1) M i = if rd (rd_L6 M (i : Int)) (i : Int) < 0 then false else diag d M (i + 1) := rfl
  generalize k + d + 1 = m at next ⊢
  simp only [impl_tightest.l5]
  rw [if_pos (by omega), if_pos (by omega), if_pos (by omega), if_pos (by omega), wrap_id (by omega) (by omega)]
  by_cases c : rd (rd_L6 M (i : Int)) (i : Int) < 0
  ·rw [if_pos c] at ed
   rw [if_pos c, ed]; simp
  ·rw [if_neg c] at ed
   rw [if_neg c, ed]
   exact next
theorem impl_x {n : Nat} (hn : n ≤ 10) (d : Nat) : ∀ (k : Nat) (M : List (List Int)) (x : Nat), Sq n M → x + d = n →
  impl_tightest.l2 (k + d * (n * (n + 2) + 2) + 1) M (n : Int) (x : Int) = impl_tightest.l5 k (foldX n d M x) (n : Int) 0 := by
 induction d with
 | zero =>
  intro k M i h hi
  simp only [Nat.zero_mul, Nat.add_zero, impl_tightest.l2, foldX]
  rw [if_neg (by omega), h.1]
 | succ d ih =>
  intro k M x h hi
  have next := ih k (foldI n x n M 0) (x + 1) (Sq_foldI _ _ _ h (by omega)) (by omega)
  have hj := impl_i hn (show x < n by omega) n (k + d * (n * (n + 2) + 2) + 1) M 0 h (by omega)
  rw [show k + (d + 1) * (n * (n + 2) + 2) + 1 = (k + d * (n * (n + 2) + 2) + 1 + n * (n + 2) + 1) + 1 by rw [Nat.add_mul]; omega]
  conv => lhs; simp only [impl_tightest.l2]
  rw [if_pos (by omega), h.1]
  rw [show ((0 : Nat) : Int) = 0 from rfl] at hj
  rw [hj, next, foldX]
end Go.Proofs.Ythgmolenlpagkaa.Pure

/- The tightest bounds: what the program and the reference both compute. -/
namespace Go.Proofs.Ythgmolenlpagkaa.Pure
open Go.RowKit Go.Proofs.Ythgmolenlpagkaa.Pa Go.Proofs.YthgmolenlpagkaaW.PrintWords Go.Proofs.YthgmolenlpagkaaW.PrintLast Go.Proofs.YthgmolenlpagkaaW.PrintMore
set_option linter.unusedVariables false
set_option linter.unusedSimpArgs false

/-- The first row i: 0 at i, else no bound. -/
def irow (i n : Nat) : List Int := (List.replicate n (1000000 : Int)).set i 0
def irows (n : Nat) : Nat → Nat → List (List Int)
 | 0, _ => []
 | d + 1, i => irow i n :: irows n d (i + 1)
theorem irows_length (n d : Nat) : ∀ i, (irows n d i).length = d := by
 induction d with
 | zero => intro i; rfl
 | succ d ih => intro i; simp [irows, ih]
theorem irows_mem (n d : Nat) : ∀ i, ∀ r ∈ irows n d i, r.length = n ∧ ∀ y ∈ r, I64 y := by
 induction d with
 | zero => intro i r hr; simp [irows] at hr
 | succ d ih =>
  intro i r hr
  simp only [irows, List.mem_cons] at hr
  rcases hr with rfl | hr
  ·refine ⟨by simp [irow], fun y hy => ?_⟩
   rcases List.mem_or_eq_of_mem_set hy with hy | rfl
   ·have := List.eq_of_mem_replicate hy
    subst this
    unfold I64; omega
   ·unfold I64; omega
  ·exact ih _ r hr
theorem irows_Sq (n : Nat) : Sq n (irows n n 0) := ⟨irows_length n n 0, irows_mem n n 0⟩
theorem impl_rows {n : Nat} (h0 : 1 ≤ n) (hn : n ≤ 10) (bs : List S36) (d : Nat) : ∀ (k : Nat) (acc : List (List Int)) (i : Nat), acc.length = i → i + d = n →
  impl_tightest.l0 (k + d + 1) (n : Int) bs acc (n : Int) (i : Int) = impl_tightest.l1 k (acc ++ irows n d i) bs (bs.length : Int) 0 := by
 induction d with
 | zero =>
  intro k acc i ha hi
  simp only [Nat.add_zero, impl_tightest.l0, irows, List.append_nil]
  rw [if_neg (by omega)]
 | succ d ih =>
  intro k acc i ha hi
  have next := ih k (acc ++ [irow i n]) (i + 1) (by simp [ha]) (by omega)
  rw [irows, show acc ++ irow i n :: irows n d (i + 1) = acc ++ [irow i n] ++ irows n d (i + 1) by simp, ← next, show ((i + 1 : Nat) : Int) = (i : Int) + 1 from by omega]
  rw [show k + (d + 1) + 1 = (k + d + 1) + 1 from rfl]
  generalize k + d + 1 = m
  simp only [impl_tightest.l0]
  have e : slices_Repeat_int64_int64.f [1000000] (n : Int) = some (List.replicate n (1000000 : Int)) := by
   unfold slices_Repeat_int64_int64.f
   rw [if_pos ⟨rfl, by omega, by omega⟩]
   rfl
  rw [if_pos (by omega), e]
  simp only [Option.bind_some, List.length_replicate, Int.toNat_natCast]
  rw [if_pos (by omega), if_pos (by omega), if_pos (by omega), wrap_id (by omega) (by omega)]
  rfl
/-- One bound laid into the rows. -/
def bput (M : List (List Int)) (b : S36) : List (List Int) := M.set b.f0.toNat ((rd_L6 M b.f0).set b.f1.toNat (mn (rd (rd_L6 M b.f0) b.f1) b.f2))
/-- The bounds, but for those whose places are listed. -/
def bputs (w : List Int) : List S36 → Nat → List (List Int) → List (List Int)
 | [], _, M => M
 | b :: bs, i, M => bputs w bs (i + 1) (if w.contains (i : Int) then M else bput M b)
theorem bputs_nil_cons (b : S36) (bs : List S36) (i : Nat) (M : List (List Int)) : bputs [] (b :: bs) i M = bputs [] bs (i + 1) (bput M b) := rfl
/-- A bound between events below n. -/
def Bd (n : Nat) (b : S36) : Prop := 0 ≤ b.f0 ∧ b.f0 < (n : Int) ∧ 0 ≤ b.f1 ∧ b.f1 < (n : Int) ∧ I64 b.f2
theorem Sq_bput {n : Nat} {M : List (List Int)} (h : Sq n M) {b : S36} (hb : Bd n b) : Sq n (bput M b) := by
 obtain ⟨h0, h1, h2, h3, h4⟩ := hb
 have e0 : b.f0 = ((b.f0.toNat : Nat) : Int) := by omega
 have e1 : b.f1 = ((b.f1.toNat : Nat) : Int) := by omega
 have c := cell_in h (i := b.f0.toNat) (j := b.f1.toNat) (by omega) (by omega)
 have s := Sq_put h (i := b.f0.toNat) (by omega) b.f1.toNat (I64_mn c h4)
 rw [← e0, ← e1] at s
 exact s
theorem Sq_bputs {n : Nat} (w : List Int) (bs : List S36) : ∀ (i : Nat) (M : List (List Int)), Sq n M → (∀ b ∈ bs, Bd n b) → Sq n (bputs w bs i M) := by
 induction bs with
 | nil => intro i M h _; exact h
 | cons b bs ih =>
  intro i M h hb
  refine ih _ _ ?_ (fun x hx => hb x (List.mem_cons_of_mem _ hx))
  split
  ·exact h
  ·exact Sq_bput h (hb b (List.mem_cons_self ..))
theorem impl_bs {n : Nat} (all : List S36) (hall : all.length ≤ 100) (hb : ∀ b ∈ all, Bd n b) (bs : List S36) : ∀ (k : Nat) (M : List (List Int)) (i : Nat), Sq n M → all.drop i = bs → i + bs.length = all.length →
  impl_tightest.l1 (k + bs.length + 1) M all (all.length : Int) (i : Int) = impl_tightest.l2 k (bputs [] bs i M) (n : Int) 0 := by
 induction bs with
 | nil =>
  intro k M i h hd hl
  simp only [List.length_nil, Nat.add_zero] at hl ⊢
  simp only [impl_tightest.l1, bputs]
  rw [if_neg (by omega), h.1]
 | cons b bs ih =>
  intro k M i h hd hl
  simp only [List.length_cons] at hl ⊢
  have hi : i < all.length := by omega
  have hd' := List.drop_eq_getElem_cons hi
  rw [hd] at hd'
  obtain ⟨e1, e2⟩ := List.cons.inj hd'
  have hB := hb b (by rw [e1]; exact List.getElem_mem _)
  obtain ⟨b0, b1, b2, b3, b4⟩ := hB
  have hrow : (rd_L6 M b.f0).length = n := by
   have := row_len h (i := b.f0.toNat) (by omega)
   rwa [show ((b.f0.toNat : Nat) : Int) = b.f0 by omega] at this
  have hM := h.1
  have next := ih k (bput M b) (i + 1) (Sq_bput h ⟨b0, b1, b2, b3, b4⟩) e2.symm (by omega)
  rw [bputs_nil_cons, ← next, show ((i + 1 : Nat) : Int) = (i : Int) + 1 from by omega, show k + (bs.length + 1) + 1 = (k + bs.length + 1) + 1 from rfl]
  generalize k + bs.length + 1 = m
  simp only [impl_tightest.l1, rdB_get hi, ← e1]
  rw [if_pos (by omega), if_pos (by omega), if_pos (by omega), if_pos b0, if_pos (by omega), if_pos b2, if_pos (by omega), wrap_id (by omega) (by omega)]
  rfl
/-- The tightest bounds of n events, but for the bounds whose places are listed. -/
def tight (n : Nat) (bs : List S36) (w : List Int) : List (List Int) := foldX n n (bputs w bs 0 (irows n n 0)) 0
def feasible (n : Nat) (bs : List S36) (w : List Int) : Bool := diag n (tight n bs w) 0
theorem tight_Sq {n : Nat} {bs : List S36} (hb : ∀ b ∈ bs, Bd n b) (w : List Int) : Sq n (tight n bs w) := Sq_foldX _ _ _ (Sq_bputs _ _ _ _ (irows_Sq n) hb)
theorem impl_tight {n : Nat} (h0 : 1 ≤ n) (hn : n ≤ 10) (bs : List S36) (hl : bs.length ≤ 24) (hb : ∀ b ∈ bs, Bd n b) : ∃ K, ∀ k, K ≤ k →
  impl_tightest.f k (n : Int) bs = some (if feasible n bs [] = true then (tight n bs [], true) else ([], false)) := by
 refine ⟨n + 1 + n * (n * (n + 2) + 2) + 1 + bs.length + 1 + n + 1, fun k hk => ?_⟩
 obtain ⟨q, rfl⟩ : ∃ q, k = q + n + 1 + n * (n * (n + 2) + 2) + 1 + bs.length + 1 + n + 1 := ⟨k - (n + 1 + n * (n * (n + 2) + 2) + 1 + bs.length + 1 + n + 1), by omega⟩
 unfold impl_tightest.f
 have h1 := impl_rows h0 hn bs n (q + n + 1 + n * (n * (n + 2) + 2) + 1 + bs.length + 1) [] 0 rfl (by omega)
 have h2 := impl_bs bs (by omega) hb bs (q + n + 1 + n * (n * (n + 2) + 2) + 1) (irows n n 0) 0 (irows_Sq n) rfl (by omega)
 have hS := Sq_bputs (n := n) [] bs 0 _ (irows_Sq n) hb
 have h3 := impl_x hn n (q + n + 1) _ 0 hS (by omega)
 have h4 := impl_d hn n q _ 0 (Sq_foldX n _ 0 hS) (by omega)
 rw [show ((0 : Nat) : Int) = 0 from rfl] at h1 h2 h3 h4
 rw [h1, List.nil_append, h2, h3, h4]
 rfl
end Go.Proofs.Ythgmolenlpagkaa.Pure

namespace Go.Proofs.Ythgmolenlpagkaa.Pa
open Go.RowKit Go.Proofs.YthgmolenlpagkaaW.PrintWords Go.Proofs.YthgmolenlpagkaaW.PrintLast Go.Proofs.YthgmolenlpagkaaW.PrintMore
attribute [local go_sem] max2_int min2_int max_two min_two max_three min_three max_four min_four   -- for this text's walks alone
set_option linter.unusedVariables false
set_option linter.unusedSimpArgs false

/-! ### impl_TightestBounds: function 6 -/
def impl_TightestBounds.f (k : Nat) (a0_0 : Int) (l0_1 : List (S36)) : Option ((List (List Int)) × Bool) := (impl_ValidDiagram.f a0_0 l0_1).bind fun t216 => (if t216 = true then ((impl_tightest.f k a0_0 l0_1).bind fun bt217 => (some (bt217.1, bt217.2))) else (some (([] : List (List Int)), false)))
theorem impl_TightestBounds.mono : ∀ a0 a1 k, LeO (impl_TightestBounds.f k a0 a1) (impl_TightestBounds.f (k + 1) a0 a1) := by
 intro a0 a1 k
 unfold impl_TightestBounds.f
 repeat' first
   | (with_reducible exact impl_tightest.mono _ _ _)
   | (with_reducible exact LeO.refl _)
   | (with_reducible exact LeO.none _)
   | (with_reducible refine LeO.ite ?_ ?_)
   | (with_reducible refine LeO.bind ?_ (fun _ => ?_))
   | exact impl_tightest.mono _ _ _
   | exact LeO.none _
   | refine LeO.ite ?_ ?_
   | refine LeO.bind ?_ (fun _ => ?_)
set_option maxHeartbeats 8000000 in
set_option maxRecDepth 100000 in
theorem impl_TightestBounds.calls (k : Nat) (a0_0 : Int) (A0_1 : Option Addr) (c0_1 : Nat) (l0_1 : List (S36)) (r1 : List (List Int)) (r2 : Bool) (w : World) (hr0_1 : Kd.C k36 w A0_1 l0_1.length l0_1) (hc0_1 : l0_1.length ≤ c0_1) (h : impl_TightestBounds.f k a0_0 l0_1 = some (r1, r2)) :
  Calls Try.prog 6 #[.agg #[.int .i64 a0_0, .slice A0_1 l0_1.length c0_1]] w fun e w' => ∃ v0_ : Value, e = .returned (.tuple #[v0_, .bool r2]) ∧ Kd.S (Kd.slice 2 (Kd.int .i64)) 31 w' w.heap.size (fun _ => True) v0_ r1 ∧ Below w.heap.size w w' := by
 have hu26 := Try.underlying26
 have HR0_1 := Aside0.mk hr0_1
 have HC0_1 := Aside0.mk hc0_1
 clear hr0_1 hc0_1
 have HB := Aside0.mk (Below.refl w.heap.size w)
 have H : ((impl_ValidDiagram.f a0_0 l0_1).bind fun t216 => (if t216 = true then ((impl_tightest.f k a0_0 l0_1).bind fun bt217 => (some (bt217.1, bt217.2))) else (some (([] : List (List Int)), false)))) = some (r1, r2) := h
 clear h
 replace H := Option.bind_eq_some_iff.mp H
 obtain ⟨t216, A20, H⟩ := H
 replace H : (if t216 = true then ((impl_tightest.f k a0_0 l0_1).bind fun bt217 => (some (bt217.1, bt217.2))) else (some (([] : List (List Int)), false))) = some (r1, r2) := H
 have A2 := Aside0.mk A20
 clear A20
 by_cases c3 : t216 = true
 ·subst c3
  have H1 : ((impl_tightest.f k a0_0 l0_1).bind fun bt217 => (some (bt217.1, bt217.2))) = some (r1, r2) := by rw [if_pos rfl] at H; exact H
  clear H
  have H := H1
  clear H1
  replace H := Option.bind_eq_some_iff.mp H
  obtain ⟨⟨t217, t218⟩, A40, H⟩ := H
  replace H : (some (t217, t218)) = some (r1, r2) := H
  have A4 := Aside0.mk A40
  clear A40
  simp only [Option.some.injEq, Prod.mk.injEq] at H
  obtain ⟨rfl, rfl⟩ := H
  go_enter Try.func6, Try.ntmps6
  go_wp2_with (first | ((with_reducible refine gate_dst (N := 1) rfl ?_); refine box_event ?hg (N := 1) ?hd (cs := #[.int .i64 a0_0, .slice A0_1 l0_1.length c0_1]) (t := 26) ?hr ?_; (case hd => rfl); (case hg => rfl); (case hr => first | (go_simp; done) | (go_simp; rfl)); intro gb215 hg w5 hbox hb; have n0_ := Aside0.mk (below_step (by repeat (first | (with_reducible first | exact HB.out | apply below_alloc | apply pw_below_drewN | apply below_drew1) | exact HB.out)) hb); have n1_ := Aside0.mk (hbox); have n2_ := Aside0.mk ((by rw [hg]; exact (below_size (by repeat (first | (with_reducible first | exact HB.out | apply below_alloc | apply pw_below_drewN | apply below_drew1) | exact HB.out))) : w.heap.size ≤ gb215)); have n3_ := Aside0.mk ((by rw [hg]; exact (below_size (by repeat (first | (with_reducible first | exact HB.out | apply below_alloc | apply pw_below_drewN | apply below_drew1) | exact HB.out))) : w.heap.size ≤ gb215)); clear HB; have HB := n0_; have BK215 := n1_; have GW215 := n2_; have GE215 := n3_; clear n0_ n1_ n2_ n3_; clear hb hbox hg; have hcz6_0 : w5.cell? ⟨gb215, 0, none⟩ = some (.int .i64 a0_0) := (blk_cell BK215.out 0).trans rfl; have hcz6_1 : w5.cell? ⟨gb215, 1, none⟩ = some (.slice A0_1 l0_1.length c0_1) := (blk_cell BK215.out 1).trans rfl; have hfz6_0 := blk_frozen BK215.out 0; have hfz6_1 := blk_frozen BK215.out 1) | ((with_reducible refine gate_callee (f := 8) rfl ?_); refine goesL_ (some 5) rfl rfl Try.func8 (by kernel_rfl) rfl #[.agg #[.int .i64 a0_0, .slice A0_1 l0_1.length c0_1]] rfl (by (try simp only [List.map_toArray, List.map_cons, List.map_nil]); first | done | rfl | (simp only [List.length_drop, List.length_take]; rfl)) ?_; (with_reducible refine (impl_ValidDiagram.calls a0_0 _ _ l0_1 true _ ?side1 ?side2 A2.out).mono ?_); (case side1 => repeat (first | exact (Kd.C_below HR0_1.out HB.out) | (with_reducible refine Kd.C_alloc ?_ _) | (with_reducible refine Kd.C_drewN ?_ _) | (with_reducible refine Kd.C_drew ?_))); (case side2 => exact HC0_1.out); rintro e w7 ⟨rfl, hb⟩; refine ⟨_, rfl, ?_⟩; have n0_ := Aside0.mk (blk_below (g := gb215) (o := .cells #[.int .i64 a0_0, .slice A0_1 l0_1.length c0_1] 26 (0, 0)) (by (with_reducible repeat (first | refine blk_drewN ?_ _ | refine blk_drew ?_ | refine blk_alloc ?_ _)); exact BK215.out) hb); have n1_ := Aside0.mk (below_step (by repeat (first | (with_reducible first | exact HB.out | apply below_alloc | apply pw_below_drewN | apply below_drew1 | refine below_set ?_ GE215.out) | exact HB.out)) hb); clear BK215; clear HB; have BK215 := n0_; have HB := n1_; clear n0_ n1_; (try clear hb); (try clear hb2); (try clear hk); (try clear hi); have hcz8_0 : w7.cell? ⟨gb215, 0, none⟩ = some (.int .i64 a0_0) := (blk_cell BK215.out 0).trans rfl; have hcz8_1 : w7.cell? ⟨gb215, 1, none⟩ = some (.slice A0_1 l0_1.length c0_1) := (blk_cell BK215.out 1).trans rfl; have hfz8_0 := blk_frozen BK215.out 0; have hfz8_1 := blk_frozen BK215.out 1) | ((with_reducible refine gate_callee (f := 14) rfl ?_); refine goesL_ (some 11) rfl rfl Try.func14 (by kernel_rfl) rfl #[.int .i64 a0_0, .slice A0_1 l0_1.length c0_1] rfl (by (try simp only [List.map_toArray, List.map_cons, List.map_nil]); first | done | rfl | (simp only [List.length_drop, List.length_take]; rfl)) ?_; (with_reducible refine (impl_tightest.calls k a0_0 _ _ l0_1 t217 t218 _ ?side1 ?side2 A4.out).mono ?_); (case side1 => repeat (first | exact (Kd.C_below HR0_1.out HB.out) | (with_reducible refine Kd.C_alloc ?_ _) | (with_reducible refine Kd.C_drewN ?_ _) | (with_reducible refine Kd.C_drew ?_))); (case side2 => exact HC0_1.out); rintro e w9 ⟨v219, rfl, ho0, hb⟩; refine ⟨_, rfl, ?_⟩; have n0_ := Aside0.mk (Kd.S_lower ho0 (below_size (by repeat (first | (with_reducible first | exact HB.out | apply below_alloc | apply pw_below_drewN | apply below_drew1 | refine below_set ?_ GE215.out) | exact HB.out)))); have n1_ := Aside0.mk (blk_below (g := gb215) (o := .cells #[.int .i64 a0_0, .slice A0_1 l0_1.length c0_1] 26 (0, 0)) (by (with_reducible repeat (first | refine blk_drewN ?_ _ | refine blk_drew ?_ | refine blk_alloc ?_ _)); exact BK215.out) hb); have n2_ := Aside0.mk (below_step (by repeat (first | (with_reducible first | exact HB.out | apply below_alloc | apply pw_below_drewN | apply below_drew1 | refine below_set ?_ GE215.out) | exact HB.out)) hb); clear BK215; clear HB; have HO220 := n0_; have BK215 := n1_; have HB := n2_; clear n0_ n1_ n2_; (try clear hb); (try clear hb2); (try clear hk); (try clear hi); (try clear ho0)))
  go_ret2
  exact ⟨_, by first | rfl | (simp [errW_none, errW_some] <;> rfl) | (simp [*, errW_none, errW_some] <;> rfl), by (with_reducible repeat (first | apply Kd.S_alloc | apply Kd.S_drewN | apply Kd.S_drew)); exact HO220.out, by repeat (first | (with_reducible first | exact HB.out | apply below_alloc | apply pw_below_drewN | apply below_drew1 | refine below_set ?_ GE215.out) | exact HB.out)⟩
 ·replace c3 := Bool.eq_false_iff.mpr c3
  subst c3
  have H1 : (some (([] : List (List Int)), false)) = some (r1, r2) := by rw [if_neg (show ¬ (false = true) by decide)] at H; exact H
  clear H
  have H := H1
  clear H1
  simp only [Option.some.injEq, Prod.mk.injEq] at H
  obtain ⟨rfl, rfl⟩ := H
  go_enter Try.func6, Try.ntmps6
  go_wp2_with (first | ((with_reducible refine gate_dst (N := 1) rfl ?_); refine box_event ?hg (N := 1) ?hd (cs := #[.int .i64 a0_0, .slice A0_1 l0_1.length c0_1]) (t := 26) ?hr ?_; (case hd => rfl); (case hg => rfl); (case hr => first | (go_simp; done) | (go_simp; rfl)); intro gb215 hg w10 hbox hb; have n0_ := Aside0.mk (below_step (by repeat (first | (with_reducible first | exact HB.out | apply below_alloc | apply pw_below_drewN | apply below_drew1) | exact HB.out)) hb); have n1_ := Aside0.mk (hbox); have n2_ := Aside0.mk ((by rw [hg]; exact (below_size (by repeat (first | (with_reducible first | exact HB.out | apply below_alloc | apply pw_below_drewN | apply below_drew1) | exact HB.out))) : w.heap.size ≤ gb215)); have n3_ := Aside0.mk ((by rw [hg]; exact (below_size (by repeat (first | (with_reducible first | exact HB.out | apply below_alloc | apply pw_below_drewN | apply below_drew1) | exact HB.out))) : w.heap.size ≤ gb215)); clear HB; have HB := n0_; have BK215 := n1_; have GW215 := n2_; have GE215 := n3_; clear n0_ n1_ n2_ n3_; clear hb hbox hg; have hcz11_0 : w10.cell? ⟨gb215, 0, none⟩ = some (.int .i64 a0_0) := (blk_cell BK215.out 0).trans rfl; have hcz11_1 : w10.cell? ⟨gb215, 1, none⟩ = some (.slice A0_1 l0_1.length c0_1) := (blk_cell BK215.out 1).trans rfl; have hfz11_0 := blk_frozen BK215.out 0; have hfz11_1 := blk_frozen BK215.out 1) | ((with_reducible refine gate_callee (f := 8) rfl ?_); refine goesL_ (some 5) rfl rfl Try.func8 (by kernel_rfl) rfl #[.agg #[.int .i64 a0_0, .slice A0_1 l0_1.length c0_1]] rfl (by (try simp only [List.map_toArray, List.map_cons, List.map_nil]); first | done | rfl | (simp only [List.length_drop, List.length_take]; rfl)) ?_; (with_reducible refine (impl_ValidDiagram.calls a0_0 _ _ l0_1 false _ ?side1 ?side2 A2.out).mono ?_); (case side1 => repeat (first | exact (Kd.C_below HR0_1.out HB.out) | (with_reducible refine Kd.C_alloc ?_ _) | (with_reducible refine Kd.C_drewN ?_ _) | (with_reducible refine Kd.C_drew ?_))); (case side2 => exact HC0_1.out); rintro e w12 ⟨rfl, hb⟩; refine ⟨_, rfl, ?_⟩; have n0_ := Aside0.mk (blk_below (g := gb215) (o := .cells #[.int .i64 a0_0, .slice A0_1 l0_1.length c0_1] 26 (0, 0)) (by (with_reducible repeat (first | refine blk_drewN ?_ _ | refine blk_drew ?_ | refine blk_alloc ?_ _)); exact BK215.out) hb); have n1_ := Aside0.mk (below_step (by repeat (first | (with_reducible first | exact HB.out | apply below_alloc | apply pw_below_drewN | apply below_drew1 | refine below_set ?_ GE215.out) | exact HB.out)) hb); clear BK215; clear HB; have BK215 := n0_; have HB := n1_; clear n0_ n1_; (try clear hb); (try clear hb2); (try clear hk); (try clear hi)))
  go_ret2
  exact ⟨_, by first | rfl | (simp [errW_none, errW_some] <;> rfl) | (simp [*, errW_none, errW_some] <;> rfl), by first | exact Kd.S_nil _ _ _ _ _ | exact Kd.N_nil _ _ _ _ _ | exact Kd.V_nil _ _ _ _ _ | exact Kd.Q_nil _ _ _ _ _ | exact Kd.R_nil _ _ _ _ _, by repeat (first | (with_reducible first | exact HB.out | apply below_alloc | apply pw_below_drewN | apply below_drew1 | refine below_set ?_ GE215.out) | exact HB.out)⟩

end Go.Proofs.Ythgmolenlpagkaa.Pa

namespace Go.Proofs.Ythgmolenlpagkaa.Pa
open Go.RowKit Go.Proofs.YthgmolenlpagkaaW.PrintWords Go.Proofs.YthgmolenlpagkaaW.PrintLast Go.Proofs.YthgmolenlpagkaaW.PrintMore
attribute [local go_sem] max2_int min2_int max_two min_two max_three min_three max_four min_four   -- for this text's walks alone
set_option linter.unusedVariables false
set_option linter.unusedSimpArgs false

/-! ### impl_Diagram_isEvent: function 20 -/
def impl_Diagram_isEvent.f (a0_0 : Int) (l0_1 : List (S36)) (a1 : Int) : Option (Bool) := (impl_within.f a1 0 (wrap64 (a0_0 - 1))).bind fun t223 => (some t223)
set_option maxHeartbeats 8000000 in
set_option maxRecDepth 100000 in
theorem impl_Diagram_isEvent.calls (a0_0 : Int) (A0_1 : Option Addr) (c0_1 : Nat) (l0_1 : List (S36)) (a1 : Int) (r : Bool) (w : World) (hr0_1 : Kd.C k36 w A0_1 l0_1.length l0_1) (hc0_1 : l0_1.length ≤ c0_1) (h : impl_Diagram_isEvent.f a0_0 l0_1 a1 = some r) :
  Calls Try.prog 20 #[.agg #[.int .i64 a0_0, .slice A0_1 l0_1.length c0_1], .int .i64 a1] w fun e w' => e = .returned (.bool r) ∧ Below w.heap.size w w' := by
 have hu26 := Try.underlying26
 have HR0_1 := Aside0.mk hr0_1
 have HC0_1 := Aside0.mk hc0_1
 clear hr0_1 hc0_1
 have HB := Aside0.mk (Below.refl w.heap.size w)
 have H : ((impl_within.f a1 0 (wrap64 (a0_0 - 1))).bind fun t223 => (some t223)) = some r := h
 clear h
 replace H := Option.bind_eq_some_iff.mp H
 obtain ⟨t223, A30, H⟩ := H
 replace H : (some t223) = some r := H
 have A3 := Aside0.mk A30
 clear A30
 obtain rfl := Option.some.inj H
 go_enter Try.func20, Try.ntmps20
 go_wp2_with (first | ((with_reducible refine gate_dst (N := 2) rfl ?_); refine box_event ?hg (N := 2) ?hd (cs := #[.int .i64 a0_0, .slice A0_1 l0_1.length c0_1]) (t := 26) ?hr ?_; (case hd => rfl); (case hg => rfl); (case hr => first | (go_simp; done) | (go_simp; rfl)); intro gb222 hg w4 hbox hb; have n0_ := Aside0.mk (below_step (by repeat (first | (with_reducible first | exact HB.out | apply below_alloc | apply pw_below_drewN | apply below_drew1) | exact HB.out)) hb); have n1_ := Aside0.mk (hbox); have n2_ := Aside0.mk ((by rw [hg]; exact (below_size (by repeat (first | (with_reducible first | exact HB.out | apply below_alloc | apply pw_below_drewN | apply below_drew1) | exact HB.out))) : w.heap.size ≤ gb222)); have n3_ := Aside0.mk ((by rw [hg]; exact (below_size (by repeat (first | (with_reducible first | exact HB.out | apply below_alloc | apply pw_below_drewN | apply below_drew1) | exact HB.out))) : w.heap.size ≤ gb222)); clear HB; have HB := n0_; have BK222 := n1_; have GW222 := n2_; have GE222 := n3_; clear n0_ n1_ n2_ n3_; clear hb hbox hg; have hcz5_0 : w4.cell? ⟨gb222, 0, none⟩ = some (.int .i64 a0_0) := (blk_cell BK222.out 0).trans rfl; have hcz5_1 : w4.cell? ⟨gb222, 1, none⟩ = some (.slice A0_1 l0_1.length c0_1) := (blk_cell BK222.out 1).trans rfl; have hfz5_0 := blk_frozen BK222.out 0; have hfz5_1 := blk_frozen BK222.out 1) | ((with_reducible refine gate_callee (f := 16) rfl ?_); refine goesL_ (some 9) rfl rfl Try.func16 (by kernel_rfl) rfl #[.int .i64 a1, .int .i64 0, .int .i64 (wrap64 (a0_0 - 1))] rfl (by (try simp only [List.map_toArray, List.map_cons, List.map_nil]); first | done | rfl | (simp only [List.length_drop, List.length_take]; rfl)) ?_; (with_reducible refine (impl_within.calls a1 0 (wrap64 (a0_0 - 1)) t223 _ A3.out).mono ?_); rintro e w' ⟨rfl, ⟨nd, rfl⟩⟩; refine ⟨_, rfl, ?_⟩))
 go_ret
 exact ⟨by first | rfl | (simp [errW_none, errW_some] <;> rfl) | (simp [*, errW_none, errW_some] <;> rfl), by repeat (first | (with_reducible first | exact HB.out | apply below_alloc | apply pw_below_drewN | apply below_drew1 | refine below_set ?_ GE222.out) | exact HB.out)⟩

end Go.Proofs.Ythgmolenlpagkaa.Pa

namespace Go.Proofs.Ythgmolenlpagkaa.Pa
open Go.RowKit Go.Proofs.YthgmolenlpagkaaW.PrintWords Go.Proofs.YthgmolenlpagkaaW.PrintLast Go.Proofs.YthgmolenlpagkaaW.PrintMore
attribute [local go_sem] max2_int min2_int max_two min_two max_three min_three max_four min_four   -- for this text's walks alone
set_option linter.unusedVariables false
set_option linter.unusedSimpArgs false

/-! ### slices_Index_int64_int64: function 31 -/
def slices_Index_int64_int64.l0 : Nat → List Int → Int → Int → Int → Option (Int)
 | 0, _, _, _, _ => none
 | k + 1, x0, x1, x7, x8 => if x8 < x7 then (if 0 ≤ x8 then (if x8 < (x0.length : Int) then (if x1 = (rd x0 x8) then (some x8) else (slices_Index_int64_int64.l0 k x0 x1 x7 (wrap64 (x8 + 1)))) else (none)) else (none)) else (some (-1))
def slices_Index_int64_int64.f (k : Nat) (l0 : List Int) (a1 : Int) : Option (Int) := slices_Index_int64_int64.l0 k l0 a1 (l0.length : Int) 0
theorem slices_Index_int64_int64.mono_l : ∀ k, (∀ y0 y1 y2 y3, LeO (slices_Index_int64_int64.l0 k y0 y1 y2 y3) (slices_Index_int64_int64.l0 (k + 1) y0 y1 y2 y3))
 | 0 => fun _ _ _ _ r h => by simp [slices_Index_int64_int64.l0] at h
 | k + 1 => by
  have ih0 := slices_Index_int64_int64.mono_l k
  ·intro y0 y1 y2 y3
   unfold slices_Index_int64_int64.l0
   repeat' first
   | (with_reducible exact ih0 _ _ _ _)
   | (with_reducible exact LeO.refl _)
   | (with_reducible exact LeO.none _)
   | (with_reducible refine LeO.ite ?_ ?_)
   | (with_reducible refine LeO.bind ?_ (fun _ => ?_))
   | exact ih0 _ _ _ _
   | exact LeO.none _
   | refine LeO.ite ?_ ?_
   | refine LeO.bind ?_ (fun _ => ?_)
theorem slices_Index_int64_int64.mono : ∀ a0 a1 k, LeO (slices_Index_int64_int64.f k a0 a1) (slices_Index_int64_int64.f (k + 1) a0 a1) := by
 intro a0 a1 k
 have ih0 := slices_Index_int64_int64.mono_l k
 unfold slices_Index_int64_int64.f
 repeat' first
   | (with_reducible exact ih0 _ _ _ _)
   | (with_reducible exact LeO.refl _)
   | (with_reducible exact LeO.none _)
   | (with_reducible refine LeO.ite ?_ ?_)
   | (with_reducible refine LeO.bind ?_ (fun _ => ?_))
   | exact ih0 _ _ _ _
   | exact LeO.none _
   | refine LeO.ite ?_ ?_
   | refine LeO.bind ?_ (fun _ => ?_)
set_option maxHeartbeats 8000000 in
set_option maxRecDepth 100000 in
theorem slices_Index_int64_int64.calls (k : Nat) (A0 : Option Addr) (c0 : Nat) (l0 : List Int) (a1 : Int) (r : Int) (w : World) (hr0 : Kd.C (Kd.int .i64) w A0 l0.length l0) (hc0 : l0.length ≤ c0) (h : slices_Index_int64_int64.f k l0 a1 = some r) :
  Calls Try.prog 31 #[.slice A0 l0.length c0, .int .i64 a1] w fun e w' => e = .returned (.int .i64 r) ∧ Drawn0 w w' := by
 have HR0 := Aside0.mk hr0
 have HC0 := Aside0.mk hc0
 clear hr0 hc0
 have H : (slices_Index_int64_int64.l0 k l0 a1 (l0.length : Int) 0) = some r := h
 clear h
 have H' := Aside0.mk H
 clear H
 go_enter Try.func31, Try.ntmps31
 go_wp2
 go_loopg [8] k (fun kq v8 w' => ∃ (x8_1 : Int), v8 = .int .i64 x8_1 ∧ Aside0 (slices_Index_int64_int64.l0 kq l0 a1 (l0.length : Int) x8_1 = some r) ∧ Aside0 (kq ≤ k) ∧ Drawn0 w w')
 case atStart => exact ⟨(0), (by first | rfl | (simp; done) | (simp [*]; done)), H', ⟨Nat.le_refl _⟩, by repeat (first | exact Drawn0.refl _ | apply Drawn0.step)⟩
 case round =>
  clear H'
  try clear p2
  obtain ⟨x8_1, rfl, HA, HK1, ⟨m1, rfl⟩⟩ := hrel
  cases gk with
  | zero => exact absurd HA.out (by simp [slices_Index_int64_int64.l0])
  | succ k1 =>
   have H := HA.out
   clear HA
   simp only [slices_Index_int64_int64.l0] at H
   by_cases c3 : x8_1 < (l0.length : Int)
   ·rw [if_pos c3] at H
    have c3b0 : decide (x8_1 < (l0.length : Int)) = true := decide_eq_true c3
    clear c3
    by_cases c4 : 0 ≤ x8_1
    ·rw [if_pos c4] at H
     have c4b0 : decide (0 ≤ x8_1) = true := decide_eq_true c4
     clear c4
     by_cases c5 : x8_1 < (l0.length : Int)
     ·rw [if_pos c5] at H
      have c5b0 : decide (x8_1 < (l0.length : Int)) = true := decide_eq_true c5
      clear c5
      by_cases c6 : a1 = (rd l0 x8_1)
      ·rw [if_pos c6] at H
       have c6b0 : (a1 == (rd l0 x8_1)) = true := beq_iff_eq.mpr c6
       have c6b1 : (a1 != (rd l0 x8_1)) = false := bne_eq_false_iff_eq.mpr c6
       clear c6
       obtain rfl := Option.some.inj H
       have p224 : 0 ≤ (x8_1 : Int) := of_decide_eq_true (by with_reducible assumption)
       have q224 : x8_1 < (l0.length : Int) := of_decide_eq_true (by with_reducible assumption)
       obtain ⟨ad224, e224, hx224_0⟩ := Kd.at_int HR0.out x8_1 p224 q224
       cases e224
       replace p224 := eq_true p224
       replace q224 := eq_true q224
       go_wp2
       go_ret
       exact ⟨by first | rfl | (simp; done) | (simp [*]; done), by repeat (first | exact Drawn0.refl _ | apply Drawn0.step)⟩
      ·rw [if_neg c6] at H
       have c6b0 : (a1 == (rd l0 x8_1)) = false := beq_eq_false_iff_ne.mpr c6
       have c6b1 : (a1 != (rd l0 x8_1)) = true := bne_iff_ne.mpr c6
       have H' := Aside0.mk H
       clear H
       have p224 : 0 ≤ (x8_1 : Int) := of_decide_eq_true (by with_reducible assumption)
       have q224 : x8_1 < (l0.length : Int) := of_decide_eq_true (by with_reducible assumption)
       obtain ⟨ad224, e224, hx224_0⟩ := Kd.at_int HR0.out x8_1 p224 q224
       cases e224
       replace p224 := eq_true p224
       replace q224 := eq_true q224
       go_wp2
       go_roundg k1
       case measure => have := HK1.out; omega
       case rel => exact ⟨(wrap64 (x8_1 + 1)), (by first | rfl | (simp; done) | (simp [*]; done)), H', ⟨by have := HK1.out; omega⟩, by repeat (first | exact Drawn0.refl _ | apply Drawn0.step)⟩
     ·rw [if_neg c5] at H
      exact absurd H (by simp)
    ·rw [if_neg c4] at H
     exact absurd H (by simp)
   ·rw [if_neg c3] at H
    have c3b0 : decide (x8_1 < (l0.length : Int)) = false := decide_eq_false c3
    clear c3
    obtain rfl := Option.some.inj H
    go_wp2
    go_ret
    exact ⟨by first | rfl | (simp; done) | (simp [*]; done), by repeat (first | exact Drawn0.refl _ | apply Drawn0.step)⟩

end Go.Proofs.Ythgmolenlpagkaa.Pa

namespace Go.Proofs.Ythgmolenlpagkaa.Pa
open Go.RowKit Go.Proofs.YthgmolenlpagkaaW.PrintWords Go.Proofs.YthgmolenlpagkaaW.PrintLast Go.Proofs.YthgmolenlpagkaaW.PrintMore
attribute [local go_sem] max2_int min2_int max_two min_two max_three min_three max_four min_four   -- for this text's walks alone
set_option linter.unusedVariables false
set_option linter.unusedSimpArgs false

/-! ### slices_Contains_int64_int64: function 21 -/
def slices_Contains_int64_int64.f (k : Nat) (l0 : List Int) (a1 : Int) : Option (Bool) := (slices_Index_int64_int64.f k l0 a1).bind fun t225 => (some (decide (t225 ≥ 0)))
theorem slices_Contains_int64_int64.mono : ∀ a0 a1 k, LeO (slices_Contains_int64_int64.f k a0 a1) (slices_Contains_int64_int64.f (k + 1) a0 a1) := by
 intro a0 a1 k
 unfold slices_Contains_int64_int64.f
 repeat' first
   | (with_reducible exact slices_Index_int64_int64.mono _ _ _)
   | (with_reducible exact LeO.refl _)
   | (with_reducible exact LeO.none _)
   | (with_reducible refine LeO.ite ?_ ?_)
   | (with_reducible refine LeO.bind ?_ (fun _ => ?_))
   | exact slices_Index_int64_int64.mono _ _ _
   | exact LeO.none _
   | refine LeO.ite ?_ ?_
   | refine LeO.bind ?_ (fun _ => ?_)
set_option maxHeartbeats 8000000 in
set_option maxRecDepth 100000 in
theorem slices_Contains_int64_int64.calls (k : Nat) (A0 : Option Addr) (c0 : Nat) (l0 : List Int) (a1 : Int) (r : Bool) (w : World) (hr0 : Kd.C (Kd.int .i64) w A0 l0.length l0) (hc0 : l0.length ≤ c0) (h : slices_Contains_int64_int64.f k l0 a1 = some r) :
  Calls Try.prog 21 #[.slice A0 l0.length c0, .int .i64 a1] w fun e w' => e = .returned (.bool r) ∧ Drawn0 w w' := by
 have HR0 := Aside0.mk hr0
 have HC0 := Aside0.mk hc0
 clear hr0 hc0
 have H : ((slices_Index_int64_int64.f k l0 a1).bind fun t225 => (some (decide (t225 ≥ 0)))) = some r := h
 clear h
 replace H := Option.bind_eq_some_iff.mp H
 obtain ⟨t225, A30, H⟩ := H
 replace H : (some (decide (t225 ≥ 0))) = some r := H
 have A3 := Aside0.mk A30
 clear A30
 obtain rfl := Option.some.inj H
 go_enter Try.func21, Try.ntmps21
 go_wp2_with (first | ((with_reducible refine gate_callee (f := 31) rfl ?_); refine goesL_ (some 7) rfl rfl Try.func31 (by kernel_rfl) rfl #[.slice A0 l0.length c0, .int .i64 a1] rfl (by (try simp only [List.map_toArray, List.map_cons, List.map_nil]); first | done | rfl | (simp only [List.length_drop, List.length_take]; rfl)) ?_; (with_reducible refine (slices_Index_int64_int64.calls k _ _ l0 a1 t225 _ ?side1 ?side2 A3.out).mono ?_); (case side1 => repeat (first | exact HR0.out | (with_reducible refine Kd.C_alloc ?_ _) | (with_reducible refine Kd.C_drewN ?_ _) | (with_reducible refine Kd.C_drew ?_))); (case side2 => exact HC0.out); rintro e w' ⟨rfl, ⟨nd, rfl⟩⟩; refine ⟨_, rfl, ?_⟩))
 go_ret
 exact ⟨by first | rfl | (simp; done) | (simp [*]; done), by repeat (first | exact Drawn0.refl _ | apply Drawn0.step)⟩

end Go.Proofs.Ythgmolenlpagkaa.Pa

/- What is asked of the tightest bounds: the program and the reference answer alike. -/
namespace Go.Proofs.Ythgmolenlpagkaa.Pure
open Go.RowKit Go.Proofs.Ythgmolenlpagkaa.Pa Go.Proofs.YthgmolenlpagkaaW.PrintWords Go.Proofs.YthgmolenlpagkaaW.PrintLast Go.Proofs.YthgmolenlpagkaaW.PrintMore
set_option linter.unusedVariables false
set_option linter.unusedSimpArgs false

theorem implTB {m : Nat} (h0 : 1 ≤ m) (hn : m ≤ 10) (bs : List S36) (hl : bs.length ≤ 24) (hb : ∀ b ∈ bs, Bd m b) (hok : diagramOk (m : Int) bs = true) : ∃ K, ∀ k, K ≤ k →
  impl_TightestBounds.f k (m : Int) bs = some (if feasible m bs [] = true then (tight m bs [], true) else ([], false)) := by
 obtain ⟨K, hK⟩ := impl_tight h0 hn bs hl hb
 refine ⟨K, fun k hk => ?_⟩
 unfold impl_TightestBounds.f impl_ValidDiagram.f
 simp only [Option.bind_some]
 rw [if_pos hok, hK k hk]
 rfl
/-- Both bounds of an index. -/
theorem T_row {m : Nat} {T : List (List Int)} (h : Sq m T) {a : Int} (h0 : 0 ≤ a) (h1 : a < (m : Int)) : (T.length : Int) = (m : Int) ∧ ((rd_L6 T a).length : Int) = (m : Int) := by
 have := row_len h (i := a.toNat) (by omega)
 rw [show ((a.toNat : Nat) : Int) = a by omega] at this
 exact ⟨by rw [h.1], by rw [this]⟩
theorem index_at (l : List Int) (hl : l.length ≤ 1000000) (x : Int) (d : Nat) : ∀ (k i : Nat), i + d = l.length → d < k → ∃ v, slices_Index_int64_int64.l0 k l x (l.length : Int) (i : Int) = some v ∧ decide (v ≥ 0) = (l.drop i).contains x := by
 induction d with
 | zero =>
  intro k i hi hk
  obtain ⟨k, rfl⟩ : ∃ q, k = q + 1 := ⟨k - 1, by omega⟩
  simp only [slices_Index_int64_int64.l0]
  rw [if_neg (by omega), List.drop_of_length_le (by omega)]
  exact ⟨_, rfl, rfl⟩
 | succ d ih =>
  intro k i hi hk
  obtain ⟨k, rfl⟩ : ∃ q, k = q + 1 := ⟨k - 1, by omega⟩
  have hlt : i < l.length := by omega
  obtain ⟨v, hv, hv2⟩ := ih k (i + 1) (by omega) (by omega)
  rw [show ((i + 1 : Nat) : Int) = (i : Int) + 1 from by omega] at hv
  simp only [slices_Index_int64_int64.l0]
  rw [if_pos (by omega), if_pos (by omega), if_pos (by omega), wrap_id (by omega) (by omega), hv, rd_get hlt, List.drop_eq_getElem_cons hlt, List.contains_cons]
  by_cases e : x = l[i]
  ·rw [if_pos e]
   refine ⟨_, rfl, ?_⟩
   have : (x == l[i]) = true := by simpa using e
   rw [this, Bool.true_or]
   simp
  ·rw [if_neg e]
   refine ⟨_, rfl, ?_⟩
   have : (x == l[i]) = false := by simpa using e
   rw [this, Bool.false_or, hv2]
theorem contains_tells (l : List Int) (hl : l.length ≤ 1000000) (x : Int) (k : Nat) (hk : l.length < k) : slices_Contains_int64_int64.f k l x = some (l.contains x) := by
 obtain ⟨v, hv, hv2⟩ := index_at l hl x l.length k 0 (by omega) hk
 rw [show ((0 : Nat) : Int) = 0 from rfl] at hv
 unfold slices_Contains_int64_int64.f slices_Index_int64_int64.f
 rw [hv]
 simp only [Option.bind_some, hv2, List.drop_zero]
def evOk (m : Nat) (a : Int) : Bool := decide (0 ≤ a) && decide (a < (m : Int))
theorem impl_ev {m : Nat} (hn : m ≤ 10) (bs : List S36) (a : Int) : impl_Diagram_isEvent.f (m : Int) bs a = some (evOk m a) := by
 unfold impl_Diagram_isEvent.f impl_within.f evOk
 rw [wrap_id (by omega) (by omega)]
 by_cases h : a ≥ 0
 ·rw [if_pos h]
  simp only [Option.bind_some, Option.some.injEq]
  rw [decide_eq_true h, Bool.true_and]
  exact decide_eq_decide.mpr (by omega)
 ·rw [if_neg h]
  simp only [Option.bind_some, Option.some.injEq]
  rw [decide_eq_false (by omega : ¬ 0 ≤ a)]
  rfl
end Go.Proofs.Ythgmolenlpagkaa.Pure

namespace Go.Proofs.Ythgmolenlpagkaa.Pa
open Go.RowKit Go.Proofs.YthgmolenlpagkaaW.PrintWords Go.Proofs.YthgmolenlpagkaaW.PrintLast Go.Proofs.YthgmolenlpagkaaW.PrintMore
attribute [local go_sem] max2_int min2_int max_two min_two max_three min_three max_four min_four   -- for this text's walks alone
set_option linter.unusedVariables false
set_option linter.unusedSimpArgs false

/-! ### impl_LatestTimes: function 10 -/
def impl_LatestTimes.f (k : Nat) (a0_0 : Int) (l0_1 : List (S36)) (a1 : Int) : Option (List Int × Bool) := (impl_TightestBounds.f k a0_0 l0_1).bind fun bt227 => (if bt227.2 = true then ((impl_Diagram_isEvent.f a0_0 l0_1 a1).bind fun t231 => (if t231 = true then (if 0 ≤ a1 then (if a1 < (bt227.1.length : Int) then ((slices_Contains_int64_int64.f k (rd_L6 bt227.1 a1) 1000000).bind fun t233 => (if t233 = true then (some (([] : List Int), false)) else (some (rd_L6 bt227.1 a1, true)))) else (none)) else (none)) else (some (([] : List Int), false)))) else (some (([] : List Int), false)))
theorem impl_LatestTimes.mono : ∀ a0 a1 a2 k, LeO (impl_LatestTimes.f k a0 a1 a2) (impl_LatestTimes.f (k + 1) a0 a1 a2) := by
 intro a0 a1 a2 k
 unfold impl_LatestTimes.f
 repeat' first
   | (with_reducible exact impl_TightestBounds.mono _ _ _)
   | (with_reducible exact slices_Contains_int64_int64.mono _ _ _)
   | (with_reducible exact LeO.refl _)
   | (with_reducible exact LeO.none _)
   | (with_reducible refine LeO.ite ?_ ?_)
   | (with_reducible refine LeO.bind ?_ (fun _ => ?_))
   | exact impl_TightestBounds.mono _ _ _
   | exact slices_Contains_int64_int64.mono _ _ _
   | exact LeO.none _
   | refine LeO.ite ?_ ?_
   | refine LeO.bind ?_ (fun _ => ?_)
set_option maxHeartbeats 8000000 in
set_option maxRecDepth 100000 in
theorem impl_LatestTimes.calls (k : Nat) (a0_0 : Int) (A0_1 : Option Addr) (c0_1 : Nat) (l0_1 : List (S36)) (a1 : Int) (r1 : List Int) (r2 : Bool) (w : World) (hr0_1 : Kd.C k36 w A0_1 l0_1.length l0_1) (hc0_1 : l0_1.length ≤ c0_1) (h : impl_LatestTimes.f k a0_0 l0_1 a1 = some (r1, r2)) :
  Calls Try.prog 10 #[.agg #[.int .i64 a0_0, .slice A0_1 l0_1.length c0_1], .int .i64 a1] w fun e w' => ∃ v0_ : Value, e = .returned (.tuple #[v0_, .bool r2]) ∧ Kd.R (Kd.int .i64) 2 w' w.heap.size (fun _ => True) v0_ r1 ∧ Below w.heap.size w w' := by
 have hu26 := Try.underlying26
 have HR0_1 := Aside0.mk hr0_1
 have HC0_1 := Aside0.mk hc0_1
 clear hr0_1 hc0_1
 have HB := Aside0.mk (Below.refl w.heap.size w)
 have H : ((impl_TightestBounds.f k a0_0 l0_1).bind fun bt227 => (if bt227.2 = true then ((impl_Diagram_isEvent.f a0_0 l0_1 a1).bind fun t231 => (if t231 = true then (if 0 ≤ a1 then (if a1 < (bt227.1.length : Int) then ((slices_Contains_int64_int64.f k (rd_L6 bt227.1 a1) 1000000).bind fun t233 => (if t233 = true then (some (([] : List Int), false)) else (some (rd_L6 bt227.1 a1, true)))) else (none)) else (none)) else (some (([] : List Int), false)))) else (some (([] : List Int), false)))) = some (r1, r2) := h
 clear h
 replace H := Option.bind_eq_some_iff.mp H
 obtain ⟨⟨t227, t230⟩, A30, H⟩ := H
 replace H : (if t230 = true then ((impl_Diagram_isEvent.f a0_0 l0_1 a1).bind fun t231 => (if t231 = true then (if 0 ≤ a1 then (if a1 < (t227.length : Int) then ((slices_Contains_int64_int64.f k (rd_L6 t227 a1) 1000000).bind fun t233 => (if t233 = true then (some (([] : List Int), false)) else (some (rd_L6 t227 a1, true)))) else (none)) else (none)) else (some (([] : List Int), false)))) else (some (([] : List Int), false))) = some (r1, r2) := H
 have A3 := Aside0.mk A30
 clear A30
 by_cases c4 : t230 = true
 ·subst c4
  have H1 : ((impl_Diagram_isEvent.f a0_0 l0_1 a1).bind fun t231 => (if t231 = true then (if 0 ≤ a1 then (if a1 < (t227.length : Int) then ((slices_Contains_int64_int64.f k (rd_L6 t227 a1) 1000000).bind fun t233 => (if t233 = true then (some (([] : List Int), false)) else (some (rd_L6 t227 a1, true)))) else (none)) else (none)) else (some (([] : List Int), false)))) = some (r1, r2) := by rw [if_pos rfl] at H; exact H
  clear H
  have H := H1
  clear H1
  replace H := Option.bind_eq_some_iff.mp H
  obtain ⟨t231, A50, H⟩ := H
  replace H : (if t231 = true then (if 0 ≤ a1 then (if a1 < (t227.length : Int) then ((slices_Contains_int64_int64.f k (rd_L6 t227 a1) 1000000).bind fun t233 => (if t233 = true then (some (([] : List Int), false)) else (some (rd_L6 t227 a1, true)))) else (none)) else (none)) else (some (([] : List Int), false))) = some (r1, r2) := H
  have A5 := Aside0.mk A50
  clear A50
  by_cases c6 : t231 = true
  ·subst c6
   have H1 : (if 0 ≤ a1 then (if a1 < (t227.length : Int) then ((slices_Contains_int64_int64.f k (rd_L6 t227 a1) 1000000).bind fun t233 => (if t233 = true then (some (([] : List Int), false)) else (some (rd_L6 t227 a1, true)))) else (none)) else (none)) = some (r1, r2) := by rw [if_pos rfl] at H; exact H
   clear H
   have H := H1
   clear H1
   by_cases c7 : 0 ≤ a1
   ·rw [if_pos c7] at H
    have c7b0 : decide (0 ≤ a1) = true := decide_eq_true c7
    clear c7
    by_cases c8 : a1 < (t227.length : Int)
    ·rw [if_pos c8] at H
     have c8b0 : decide (a1 < (t227.length : Int)) = true := decide_eq_true c8
     clear c8
     replace H := Option.bind_eq_some_iff.mp H
     obtain ⟨t233, A90, H⟩ := H
     replace H : (if t233 = true then (some (([] : List Int), false)) else (some (rd_L6 t227 a1, true))) = some (r1, r2) := H
     have A9 := Aside0.mk A90
     clear A90
     by_cases c10 : t233 = true
     ·subst c10
      have H1 : (some (([] : List Int), false)) = some (r1, r2) := by rw [if_pos rfl] at H; exact H
      clear H
      have H := H1
      clear H1
      simp only [Option.some.injEq, Prod.mk.injEq] at H
      obtain ⟨rfl, rfl⟩ := H
      go_enter Try.func10, Try.ntmps10
      go_wp2_with (first | ((with_reducible refine gate_dst (N := 2) rfl ?_); refine box_event ?hg (N := 2) ?hd (cs := #[.int .i64 a0_0, .slice A0_1 l0_1.length c0_1]) (t := 26) ?hr ?_; (case hd => rfl); (case hg => rfl); (case hr => first | (go_simp; done) | (go_simp; rfl)); intro gb226 hg w11 hbox hb; have n0_ := Aside0.mk (below_step (by repeat (first | (with_reducible first | exact HB.out | apply below_alloc | apply pw_below_drewN | apply below_drew1) | exact HB.out)) hb); have n1_ := Aside0.mk (hbox); have n2_ := Aside0.mk ((by rw [hg]; exact (below_size (by repeat (first | (with_reducible first | exact HB.out | apply below_alloc | apply pw_below_drewN | apply below_drew1) | exact HB.out))) : w.heap.size ≤ gb226)); have n3_ := Aside0.mk ((by rw [hg]; exact (below_size (by repeat (first | (with_reducible first | exact HB.out | apply below_alloc | apply pw_below_drewN | apply below_drew1) | exact HB.out))) : w.heap.size ≤ gb226)); clear HB; have HB := n0_; have BK226 := n1_; have GW226 := n2_; have GE226 := n3_; clear n0_ n1_ n2_ n3_; clear hb hbox hg; have hcz12_0 : w11.cell? ⟨gb226, 0, none⟩ = some (.int .i64 a0_0) := (blk_cell BK226.out 0).trans rfl; have hcz12_1 : w11.cell? ⟨gb226, 1, none⟩ = some (.slice A0_1 l0_1.length c0_1) := (blk_cell BK226.out 1).trans rfl; have hfz12_0 := blk_frozen BK226.out 0; have hfz12_1 := blk_frozen BK226.out 1) | ((with_reducible refine gate_callee (f := 6) rfl ?_); refine goesL_ (some 10) rfl rfl Try.func6 (by kernel_rfl) rfl #[.agg #[.int .i64 a0_0, .slice A0_1 l0_1.length c0_1]] rfl (by (try simp only [List.map_toArray, List.map_cons, List.map_nil]); first | done | rfl | (simp only [List.length_drop, List.length_take]; rfl)) ?_; (with_reducible refine (impl_TightestBounds.calls k a0_0 _ _ l0_1 t227 true _ ?side1 ?side2 A3.out).mono ?_); (case side1 => repeat (first | exact (Kd.C_below HR0_1.out HB.out) | (with_reducible refine Kd.C_alloc ?_ _) | (with_reducible refine Kd.C_drewN ?_ _) | (with_reducible refine Kd.C_drew ?_))); (case side2 => exact HC0_1.out); rintro e w13 ⟨v228, rfl, ho0, hb⟩; refine ⟨_, rfl, ?_⟩; have n0_ := Aside0.mk (Kd.S_lower ho0 (below_size (by repeat (first | (with_reducible first | exact HB.out | apply below_alloc | apply pw_below_drewN | apply below_drew1 | refine below_set ?_ GE226.out) | exact HB.out)))); have n1_ := Aside0.mk (blk_below (g := gb226) (o := .cells #[.int .i64 a0_0, .slice A0_1 l0_1.length c0_1] 26 (0, 0)) (by (with_reducible repeat (first | refine blk_drewN ?_ _ | refine blk_drew ?_ | refine blk_alloc ?_ _)); exact BK226.out) hb); have n2_ := Aside0.mk (below_step (by repeat (first | (with_reducible first | exact HB.out | apply below_alloc | apply pw_below_drewN | apply below_drew1 | refine below_set ?_ GE226.out) | exact HB.out)) hb); clear BK226; clear HB; have HO229 := n0_; have BK226 := n1_; have HB := n2_; clear n0_ n1_ n2_; (try clear hb); (try clear hb2); (try clear hk); (try clear hi); (try clear ho0); have hcz14_0 : w13.cell? ⟨gb226, 0, none⟩ = some (.int .i64 a0_0) := (blk_cell BK226.out 0).trans rfl; have hcz14_1 : w13.cell? ⟨gb226, 1, none⟩ = some (.slice A0_1 l0_1.length c0_1) := (blk_cell BK226.out 1).trans rfl; have hfz14_0 := blk_frozen BK226.out 0; have hfz14_1 := blk_frozen BK226.out 1) | (go_at_call 20; (with_reducible refine (impl_Diagram_isEvent.calls a0_0 _ _ l0_1 a1 true _ ?side1 ?side2 A5.out).mono ?_); (case side1 => repeat (first | exact (Kd.C_below HR0_1.out HB.out) | (with_reducible refine Kd.C_alloc ?_ _) | (with_reducible refine Kd.C_drewN ?_ _) | (with_reducible refine Kd.C_drew ?_))); (case side2 => exact HC0_1.out); rintro e w15 ⟨rfl, hb⟩; have n0_ := Aside0.mk (Kd.S_below (by (with_reducible repeat (first | apply Kd.S_alloc | apply Kd.S_drewN | apply Kd.S_drew)); exact HO229.out) hb); have n1_ := Aside0.mk (blk_below (g := gb226) (o := .cells #[.int .i64 a0_0, .slice A0_1 l0_1.length c0_1] 26 (0, 0)) (by (with_reducible repeat (first | refine blk_drewN ?_ _ | refine blk_drew ?_ | refine blk_alloc ?_ _)); exact BK226.out) hb); have n2_ := Aside0.mk (below_step (by repeat (first | (with_reducible first | exact HB.out | apply below_alloc | apply pw_below_drewN | apply below_drew1 | refine below_set ?_ GE226.out) | exact HB.out)) hb); clear HO229; clear BK226; clear HB; have HO229 := n0_; have BK226 := n1_; have HB := n2_; clear n0_ n1_ n2_; (try clear hb); (try clear hb2); (try clear hk); (try clear hi); obtain ⟨Ao16, co16, eo16⟩ := Kd.S_slice HO229.out; subst eo16; have p232 : 0 ≤ (a1 : Int) := of_decide_eq_true (by with_reducible assumption); have q232 : a1 < (t227.length : Int) := of_decide_eq_true (by with_reducible assumption); obtain ⟨ad232, A232_0, c232_0, e232, hx232_0, hl232_0, hi232_0⟩ := at_L6 (Kd.S_reads' HO229.out).2.2 a1 p232 q232; cases e232; obtain ⟨ce232, hce232, hMe232, hcc232⟩ := Kd.S_get HO229.out [] a1 p232 (by first | exact q232 | exact of_decide_eq_true (by with_reducible assumption) | (have e_ := (Kd.S_reads' HO229.out).1; omega)); obtain ⟨ve232_0, rfl, ge232_0⟩ := hMe232; have hv232_0 := hcc232 0 _ rfl; rw [Nat.add_zero, show ((Kd.slice 2 (Kd.int .i64))).sz = 1 from rfl, Nat.mul_one] at hv232_0; replace hv232_0 := Option.some.inj (hv232_0.symm.trans hx232_0); rw [hv232_0] at ge232_0; have HL232_0 := Aside0.mk (show Kd.R (Kd.int .i64) 2 _ _ _ _ (rd_L6 t227 a1) from ge232_0); clear hv232_0 ge232_0; clear hcc232 hce232; have HR232_0 := Aside0.mk hi232_0; have HC232_0 := Aside0.mk hl232_0; clear hi232_0 hl232_0; replace p232 := eq_true p232; replace q232 := eq_true q232) | (go_at_call 21; (with_reducible refine (slices_Contains_int64_int64.calls k _ _ (rd_L6 t227 a1) 1000000 true _ ?side1 ?side2 A9.out).mono ?_); (case side1 => repeat (first | exact (by repeat (first | (with_reducible exact HR232_0.out) | (with_reducible refine Kd.C_alloc ?_ _) | (with_reducible refine Kd.C_drewN ?_ _) | (with_reducible refine Kd.C_drew ?_) | exact HR232_0.out)) | (with_reducible refine Kd.C_alloc ?_ _) | (with_reducible refine Kd.C_drewN ?_ _) | (with_reducible refine Kd.C_drew ?_))); (case side2 => exact HC232_0.out); rintro e w' ⟨rfl, ⟨nd, rfl⟩⟩))
      go_ret2
      exact ⟨_, by first | rfl | (simp [errW_none, errW_some] <;> rfl) | (simp [*, errW_none, errW_some] <;> rfl), by first | exact Kd.R_nil _ _ _ _ _ | exact Kd.N_nil _ _ _ _ _ | exact Kd.V_nil _ _ _ _ _ | exact Kd.Q_nil _ _ _ _ _ | exact Kd.S_nil _ _ _ _ _, by repeat (first | (with_reducible first | exact HB.out | apply below_alloc | apply pw_below_drewN | apply below_drew1 | refine below_set ?_ GE226.out) | exact HB.out)⟩
     ·replace c10 := Bool.eq_false_iff.mpr c10
      subst c10
      have H1 : (some (rd_L6 t227 a1, true)) = some (r1, r2) := by rw [if_neg (show ¬ (false = true) by decide)] at H; exact H
      clear H
      have H := H1
      clear H1
      simp only [Option.some.injEq, Prod.mk.injEq] at H
      obtain ⟨rfl, rfl⟩ := H
      go_enter Try.func10, Try.ntmps10
      go_wp2_with (first | ((with_reducible refine gate_dst (N := 2) rfl ?_); refine box_event ?hg (N := 2) ?hd (cs := #[.int .i64 a0_0, .slice A0_1 l0_1.length c0_1]) (t := 26) ?hr ?_; (case hd => rfl); (case hg => rfl); (case hr => first | (go_simp; done) | (go_simp; rfl)); intro gb226 hg w17 hbox hb; have n0_ := Aside0.mk (below_step (by repeat (first | (with_reducible first | exact HB.out | apply below_alloc | apply pw_below_drewN | apply below_drew1) | exact HB.out)) hb); have n1_ := Aside0.mk (hbox); have n2_ := Aside0.mk ((by rw [hg]; exact (below_size (by repeat (first | (with_reducible first | exact HB.out | apply below_alloc | apply pw_below_drewN | apply below_drew1) | exact HB.out))) : w.heap.size ≤ gb226)); have n3_ := Aside0.mk ((by rw [hg]; exact (below_size (by repeat (first | (with_reducible first | exact HB.out | apply below_alloc | apply pw_below_drewN | apply below_drew1) | exact HB.out))) : w.heap.size ≤ gb226)); clear HB; have HB := n0_; have BK226 := n1_; have GW226 := n2_; have GE226 := n3_; clear n0_ n1_ n2_ n3_; clear hb hbox hg; have hcz18_0 : w17.cell? ⟨gb226, 0, none⟩ = some (.int .i64 a0_0) := (blk_cell BK226.out 0).trans rfl; have hcz18_1 : w17.cell? ⟨gb226, 1, none⟩ = some (.slice A0_1 l0_1.length c0_1) := (blk_cell BK226.out 1).trans rfl; have hfz18_0 := blk_frozen BK226.out 0; have hfz18_1 := blk_frozen BK226.out 1) | ((with_reducible refine gate_callee (f := 6) rfl ?_); refine goesL_ (some 10) rfl rfl Try.func6 (by kernel_rfl) rfl #[.agg #[.int .i64 a0_0, .slice A0_1 l0_1.length c0_1]] rfl (by (try simp only [List.map_toArray, List.map_cons, List.map_nil]); first | done | rfl | (simp only [List.length_drop, List.length_take]; rfl)) ?_; (with_reducible refine (impl_TightestBounds.calls k a0_0 _ _ l0_1 t227 true _ ?side1 ?side2 A3.out).mono ?_); (case side1 => repeat (first | exact (Kd.C_below HR0_1.out HB.out) | (with_reducible refine Kd.C_alloc ?_ _) | (with_reducible refine Kd.C_drewN ?_ _) | (with_reducible refine Kd.C_drew ?_))); (case side2 => exact HC0_1.out); rintro e w19 ⟨v228, rfl, ho0, hb⟩; refine ⟨_, rfl, ?_⟩; have n0_ := Aside0.mk (Kd.S_lower ho0 (below_size (by repeat (first | (with_reducible first | exact HB.out | apply below_alloc | apply pw_below_drewN | apply below_drew1 | refine below_set ?_ GE226.out) | exact HB.out)))); have n1_ := Aside0.mk (blk_below (g := gb226) (o := .cells #[.int .i64 a0_0, .slice A0_1 l0_1.length c0_1] 26 (0, 0)) (by (with_reducible repeat (first | refine blk_drewN ?_ _ | refine blk_drew ?_ | refine blk_alloc ?_ _)); exact BK226.out) hb); have n2_ := Aside0.mk (below_step (by repeat (first | (with_reducible first | exact HB.out | apply below_alloc | apply pw_below_drewN | apply below_drew1 | refine below_set ?_ GE226.out) | exact HB.out)) hb); clear BK226; clear HB; have HO229 := n0_; have BK226 := n1_; have HB := n2_; clear n0_ n1_ n2_; (try clear hb); (try clear hb2); (try clear hk); (try clear hi); (try clear ho0); have hcz20_0 : w19.cell? ⟨gb226, 0, none⟩ = some (.int .i64 a0_0) := (blk_cell BK226.out 0).trans rfl; have hcz20_1 : w19.cell? ⟨gb226, 1, none⟩ = some (.slice A0_1 l0_1.length c0_1) := (blk_cell BK226.out 1).trans rfl; have hfz20_0 := blk_frozen BK226.out 0; have hfz20_1 := blk_frozen BK226.out 1) | (go_at_call 20; (with_reducible refine (impl_Diagram_isEvent.calls a0_0 _ _ l0_1 a1 true _ ?side1 ?side2 A5.out).mono ?_); (case side1 => repeat (first | exact (Kd.C_below HR0_1.out HB.out) | (with_reducible refine Kd.C_alloc ?_ _) | (with_reducible refine Kd.C_drewN ?_ _) | (with_reducible refine Kd.C_drew ?_))); (case side2 => exact HC0_1.out); rintro e w21 ⟨rfl, hb⟩; have n0_ := Aside0.mk (Kd.S_below (by (with_reducible repeat (first | apply Kd.S_alloc | apply Kd.S_drewN | apply Kd.S_drew)); exact HO229.out) hb); have n1_ := Aside0.mk (blk_below (g := gb226) (o := .cells #[.int .i64 a0_0, .slice A0_1 l0_1.length c0_1] 26 (0, 0)) (by (with_reducible repeat (first | refine blk_drewN ?_ _ | refine blk_drew ?_ | refine blk_alloc ?_ _)); exact BK226.out) hb); have n2_ := Aside0.mk (below_step (by repeat (first | (with_reducible first | exact HB.out | apply below_alloc | apply pw_below_drewN | apply below_drew1 | refine below_set ?_ GE226.out) | exact HB.out)) hb); clear HO229; clear BK226; clear HB; have HO229 := n0_; have BK226 := n1_; have HB := n2_; clear n0_ n1_ n2_; (try clear hb); (try clear hb2); (try clear hk); (try clear hi); obtain ⟨Ao22, co22, eo22⟩ := Kd.S_slice HO229.out; subst eo22; have p232 : 0 ≤ (a1 : Int) := of_decide_eq_true (by with_reducible assumption); have q232 : a1 < (t227.length : Int) := of_decide_eq_true (by with_reducible assumption); obtain ⟨ad232, A232_0, c232_0, e232, hx232_0, hl232_0, hi232_0⟩ := at_L6 (Kd.S_reads' HO229.out).2.2 a1 p232 q232; cases e232; obtain ⟨ce232, hce232, hMe232, hcc232⟩ := Kd.S_get HO229.out [] a1 p232 (by first | exact q232 | exact of_decide_eq_true (by with_reducible assumption) | (have e_ := (Kd.S_reads' HO229.out).1; omega)); obtain ⟨ve232_0, rfl, ge232_0⟩ := hMe232; have hv232_0 := hcc232 0 _ rfl; rw [Nat.add_zero, show ((Kd.slice 2 (Kd.int .i64))).sz = 1 from rfl, Nat.mul_one] at hv232_0; replace hv232_0 := Option.some.inj (hv232_0.symm.trans hx232_0); rw [hv232_0] at ge232_0; have HL232_0 := Aside0.mk (show Kd.R (Kd.int .i64) 2 _ _ _ _ (rd_L6 t227 a1) from ge232_0); clear hv232_0 ge232_0; clear hcc232 hce232; have HR232_0 := Aside0.mk hi232_0; have HC232_0 := Aside0.mk hl232_0; clear hi232_0 hl232_0; replace p232 := eq_true p232; replace q232 := eq_true q232) | (go_at_call 21; (with_reducible refine (slices_Contains_int64_int64.calls k _ _ (rd_L6 t227 a1) 1000000 false _ ?side1 ?side2 A9.out).mono ?_); (case side1 => repeat (first | exact (by repeat (first | (with_reducible exact HR232_0.out) | (with_reducible refine Kd.C_alloc ?_ _) | (with_reducible refine Kd.C_drewN ?_ _) | (with_reducible refine Kd.C_drew ?_) | exact HR232_0.out)) | (with_reducible refine Kd.C_alloc ?_ _) | (with_reducible refine Kd.C_drewN ?_ _) | (with_reducible refine Kd.C_drew ?_))); (case side2 => exact HC232_0.out); rintro e w' ⟨rfl, ⟨nd, rfl⟩⟩; have p234 : 0 ≤ (a1 : Int) := of_decide_eq_true (by with_reducible assumption); have q234 : a1 < (t227.length : Int) := of_decide_eq_true (by with_reducible assumption); obtain ⟨ad234, A234_0, c234_0, e234, hx234_0, hl234_0, hi234_0⟩ := at_L6 (Kd.S_reads' HO229.out).2.2 a1 p234 q234; obtain rfl : ad232 = ad234 := (by injection e234); obtain ⟨ce234, hce234, hMe234, hcc234⟩ := Kd.S_get HO229.out [] a1 p234 (by first | exact q234 | exact of_decide_eq_true (by with_reducible assumption) | (have e_ := (Kd.S_reads' HO229.out).1; omega)); obtain ⟨ve234_0, rfl, ge234_0⟩ := hMe234; have hv234_0 := hcc234 0 _ rfl; rw [Nat.add_zero, show ((Kd.slice 2 (Kd.int .i64))).sz = 1 from rfl, Nat.mul_one] at hv234_0; replace hv234_0 := Option.some.inj (hv234_0.symm.trans hx234_0); rw [hv234_0] at ge234_0; have HL234_0 := Aside0.mk (show Kd.R (Kd.int .i64) 2 _ _ _ _ (rd_L6 t227 a1) from ge234_0); clear hv234_0 ge234_0; clear hcc234 hce234; have HR234_0 := Aside0.mk hi234_0; have HC234_0 := Aside0.mk hl234_0; clear hi234_0 hl234_0; replace p234 := eq_true p234; replace q234 := eq_true q234; have ea_ := Option.some.inj (hx232_0.symm.trans hx234_0); injection ea_ with ea_ en_ ec_; subst ea_; subst ec_; clear en_))
      go_ret2
      exact ⟨_, by first | rfl | (simp [errW_none, errW_some] <;> rfl) | (simp [*, errW_none, errW_some] <;> rfl), by (with_reducible repeat (first | apply Kd.R_alloc | apply Kd.R_drewN | apply Kd.R_drew)); exact Kd.R_mono HL234_0.out (fun _ hk => trivial), by repeat (first | (with_reducible first | exact HB.out | apply below_alloc | apply pw_below_drewN | apply below_drew1 | refine below_set ?_ GE226.out) | exact HB.out)⟩
    ·rw [if_neg c8] at H
     exact absurd H (by simp)
   ·rw [if_neg c7] at H
    exact absurd H (by simp)
  ·replace c6 := Bool.eq_false_iff.mpr c6
   subst c6
   have H1 : (some (([] : List Int), false)) = some (r1, r2) := by rw [if_neg (show ¬ (false = true) by decide)] at H; exact H
   clear H
   have H := H1
   clear H1
   simp only [Option.some.injEq, Prod.mk.injEq] at H
   obtain ⟨rfl, rfl⟩ := H
   go_enter Try.func10, Try.ntmps10
   go_wp2_with (first | ((with_reducible refine gate_dst (N := 2) rfl ?_); refine box_event ?hg (N := 2) ?hd (cs := #[.int .i64 a0_0, .slice A0_1 l0_1.length c0_1]) (t := 26) ?hr ?_; (case hd => rfl); (case hg => rfl); (case hr => first | (go_simp; done) | (go_simp; rfl)); intro gb226 hg w23 hbox hb; have n0_ := Aside0.mk (below_step (by repeat (first | (with_reducible first | exact HB.out | apply below_alloc | apply pw_below_drewN | apply below_drew1) | exact HB.out)) hb); have n1_ := Aside0.mk (hbox); have n2_ := Aside0.mk ((by rw [hg]; exact (below_size (by repeat (first | (with_reducible first | exact HB.out | apply below_alloc | apply pw_below_drewN | apply below_drew1) | exact HB.out))) : w.heap.size ≤ gb226)); have n3_ := Aside0.mk ((by rw [hg]; exact (below_size (by repeat (first | (with_reducible first | exact HB.out | apply below_alloc | apply pw_below_drewN | apply below_drew1) | exact HB.out))) : w.heap.size ≤ gb226)); clear HB; have HB := n0_; have BK226 := n1_; have GW226 := n2_; have GE226 := n3_; clear n0_ n1_ n2_ n3_; clear hb hbox hg; have hcz24_0 : w23.cell? ⟨gb226, 0, none⟩ = some (.int .i64 a0_0) := (blk_cell BK226.out 0).trans rfl; have hcz24_1 : w23.cell? ⟨gb226, 1, none⟩ = some (.slice A0_1 l0_1.length c0_1) := (blk_cell BK226.out 1).trans rfl; have hfz24_0 := blk_frozen BK226.out 0; have hfz24_1 := blk_frozen BK226.out 1) | ((with_reducible refine gate_callee (f := 6) rfl ?_); refine goesL_ (some 10) rfl rfl Try.func6 (by kernel_rfl) rfl #[.agg #[.int .i64 a0_0, .slice A0_1 l0_1.length c0_1]] rfl (by (try simp only [List.map_toArray, List.map_cons, List.map_nil]); first | done | rfl | (simp only [List.length_drop, List.length_take]; rfl)) ?_; (with_reducible refine (impl_TightestBounds.calls k a0_0 _ _ l0_1 t227 true _ ?side1 ?side2 A3.out).mono ?_); (case side1 => repeat (first | exact (Kd.C_below HR0_1.out HB.out) | (with_reducible refine Kd.C_alloc ?_ _) | (with_reducible refine Kd.C_drewN ?_ _) | (with_reducible refine Kd.C_drew ?_))); (case side2 => exact HC0_1.out); rintro e w25 ⟨v228, rfl, ho0, hb⟩; refine ⟨_, rfl, ?_⟩; have n0_ := Aside0.mk (Kd.S_lower ho0 (below_size (by repeat (first | (with_reducible first | exact HB.out | apply below_alloc | apply pw_below_drewN | apply below_drew1 | refine below_set ?_ GE226.out) | exact HB.out)))); have n1_ := Aside0.mk (blk_below (g := gb226) (o := .cells #[.int .i64 a0_0, .slice A0_1 l0_1.length c0_1] 26 (0, 0)) (by (with_reducible repeat (first | refine blk_drewN ?_ _ | refine blk_drew ?_ | refine blk_alloc ?_ _)); exact BK226.out) hb); have n2_ := Aside0.mk (below_step (by repeat (first | (with_reducible first | exact HB.out | apply below_alloc | apply pw_below_drewN | apply below_drew1 | refine below_set ?_ GE226.out) | exact HB.out)) hb); clear BK226; clear HB; have HO229 := n0_; have BK226 := n1_; have HB := n2_; clear n0_ n1_ n2_; (try clear hb); (try clear hb2); (try clear hk); (try clear hi); (try clear ho0); have hcz26_0 : w25.cell? ⟨gb226, 0, none⟩ = some (.int .i64 a0_0) := (blk_cell BK226.out 0).trans rfl; have hcz26_1 : w25.cell? ⟨gb226, 1, none⟩ = some (.slice A0_1 l0_1.length c0_1) := (blk_cell BK226.out 1).trans rfl; have hfz26_0 := blk_frozen BK226.out 0; have hfz26_1 := blk_frozen BK226.out 1) | (go_at_call 20; (with_reducible refine (impl_Diagram_isEvent.calls a0_0 _ _ l0_1 a1 false _ ?side1 ?side2 A5.out).mono ?_); (case side1 => repeat (first | exact (Kd.C_below HR0_1.out HB.out) | (with_reducible refine Kd.C_alloc ?_ _) | (with_reducible refine Kd.C_drewN ?_ _) | (with_reducible refine Kd.C_drew ?_))); (case side2 => exact HC0_1.out); rintro e w27 ⟨rfl, hb⟩; have n0_ := Aside0.mk (Kd.S_below (by (with_reducible repeat (first | apply Kd.S_alloc | apply Kd.S_drewN | apply Kd.S_drew)); exact HO229.out) hb); have n1_ := Aside0.mk (blk_below (g := gb226) (o := .cells #[.int .i64 a0_0, .slice A0_1 l0_1.length c0_1] 26 (0, 0)) (by (with_reducible repeat (first | refine blk_drewN ?_ _ | refine blk_drew ?_ | refine blk_alloc ?_ _)); exact BK226.out) hb); have n2_ := Aside0.mk (below_step (by repeat (first | (with_reducible first | exact HB.out | apply below_alloc | apply pw_below_drewN | apply below_drew1 | refine below_set ?_ GE226.out) | exact HB.out)) hb); clear HO229; clear BK226; clear HB; have HO229 := n0_; have BK226 := n1_; have HB := n2_; clear n0_ n1_ n2_; (try clear hb); (try clear hb2); (try clear hk); (try clear hi)))
   go_ret2
   exact ⟨_, by first | rfl | (simp [errW_none, errW_some] <;> rfl) | (simp [*, errW_none, errW_some] <;> rfl), by first | exact Kd.R_nil _ _ _ _ _ | exact Kd.N_nil _ _ _ _ _ | exact Kd.V_nil _ _ _ _ _ | exact Kd.Q_nil _ _ _ _ _ | exact Kd.S_nil _ _ _ _ _, by repeat (first | (with_reducible first | exact HB.out | apply below_alloc | apply pw_below_drewN | apply below_drew1 | refine below_set ?_ GE226.out) | exact HB.out)⟩
 ·replace c4 := Bool.eq_false_iff.mpr c4
  subst c4
  have H1 : (some (([] : List Int), false)) = some (r1, r2) := by rw [if_neg (show ¬ (false = true) by decide)] at H; exact H
  clear H
  have H := H1
  clear H1
  simp only [Option.some.injEq, Prod.mk.injEq] at H
  obtain ⟨rfl, rfl⟩ := H
  go_enter Try.func10, Try.ntmps10
  go_wp2_with (first | ((with_reducible refine gate_dst (N := 2) rfl ?_); refine box_event ?hg (N := 2) ?hd (cs := #[.int .i64 a0_0, .slice A0_1 l0_1.length c0_1]) (t := 26) ?hr ?_; (case hd => rfl); (case hg => rfl); (case hr => first | (go_simp; done) | (go_simp; rfl)); intro gb226 hg w28 hbox hb; have n0_ := Aside0.mk (below_step (by repeat (first | (with_reducible first | exact HB.out | apply below_alloc | apply pw_below_drewN | apply below_drew1) | exact HB.out)) hb); have n1_ := Aside0.mk (hbox); have n2_ := Aside0.mk ((by rw [hg]; exact (below_size (by repeat (first | (with_reducible first | exact HB.out | apply below_alloc | apply pw_below_drewN | apply below_drew1) | exact HB.out))) : w.heap.size ≤ gb226)); have n3_ := Aside0.mk ((by rw [hg]; exact (below_size (by repeat (first | (with_reducible first | exact HB.out | apply below_alloc | apply pw_below_drewN | apply below_drew1) | exact HB.out))) : w.heap.size ≤ gb226)); clear HB; have HB := n0_; have BK226 := n1_; have GW226 := n2_; have GE226 := n3_; clear n0_ n1_ n2_ n3_; clear hb hbox hg; have hcz29_0 : w28.cell? ⟨gb226, 0, none⟩ = some (.int .i64 a0_0) := (blk_cell BK226.out 0).trans rfl; have hcz29_1 : w28.cell? ⟨gb226, 1, none⟩ = some (.slice A0_1 l0_1.length c0_1) := (blk_cell BK226.out 1).trans rfl; have hfz29_0 := blk_frozen BK226.out 0; have hfz29_1 := blk_frozen BK226.out 1) | ((with_reducible refine gate_callee (f := 6) rfl ?_); refine goesL_ (some 10) rfl rfl Try.func6 (by kernel_rfl) rfl #[.agg #[.int .i64 a0_0, .slice A0_1 l0_1.length c0_1]] rfl (by (try simp only [List.map_toArray, List.map_cons, List.map_nil]); first | done | rfl | (simp only [List.length_drop, List.length_take]; rfl)) ?_; (with_reducible refine (impl_TightestBounds.calls k a0_0 _ _ l0_1 t227 false _ ?side1 ?side2 A3.out).mono ?_); (case side1 => repeat (first | exact (Kd.C_below HR0_1.out HB.out) | (with_reducible refine Kd.C_alloc ?_ _) | (with_reducible refine Kd.C_drewN ?_ _) | (with_reducible refine Kd.C_drew ?_))); (case side2 => exact HC0_1.out); rintro e w30 ⟨v228, rfl, ho0, hb⟩; refine ⟨_, rfl, ?_⟩; have n0_ := Aside0.mk (Kd.S_lower ho0 (below_size (by repeat (first | (with_reducible first | exact HB.out | apply below_alloc | apply pw_below_drewN | apply below_drew1 | refine below_set ?_ GE226.out) | exact HB.out)))); have n1_ := Aside0.mk (blk_below (g := gb226) (o := .cells #[.int .i64 a0_0, .slice A0_1 l0_1.length c0_1] 26 (0, 0)) (by (with_reducible repeat (first | refine blk_drewN ?_ _ | refine blk_drew ?_ | refine blk_alloc ?_ _)); exact BK226.out) hb); have n2_ := Aside0.mk (below_step (by repeat (first | (with_reducible first | exact HB.out | apply below_alloc | apply pw_below_drewN | apply below_drew1 | refine below_set ?_ GE226.out) | exact HB.out)) hb); clear BK226; clear HB; have HO229 := n0_; have BK226 := n1_; have HB := n2_; clear n0_ n1_ n2_; (try clear hb); (try clear hb2); (try clear hk); (try clear hi); (try clear ho0)))
  go_ret2
  exact ⟨_, by first | rfl | (simp [errW_none, errW_some] <;> rfl) | (simp [*, errW_none, errW_some] <;> rfl), by first | exact Kd.R_nil _ _ _ _ _ | exact Kd.N_nil _ _ _ _ _ | exact Kd.V_nil _ _ _ _ _ | exact Kd.Q_nil _ _ _ _ _ | exact Kd.S_nil _ _ _ _ _, by repeat (first | (with_reducible first | exact HB.out | apply below_alloc | apply pw_below_drewN | apply below_drew1 | refine below_set ?_ GE226.out) | exact HB.out)⟩

end Go.Proofs.Ythgmolenlpagkaa.Pa

/- What the program's EarliestTimes, LatestTimes and GapOf answer for a diagram in bounds. -/
namespace Go.Proofs.Ythgmolenlpagkaa.Pure
open Go.RowKit Go.Proofs.Ythgmolenlpagkaa.Pa Go.Proofs.YthgmolenlpagkaaW.PrintWords Go.Proofs.YthgmolenlpagkaaW.PrintLast Go.Proofs.YthgmolenlpagkaaW.PrintMore
set_option linter.unusedVariables false
set_option linter.unusedSimpArgs false

section
variable {m : Nat} {bs : List S36} {a c : Int}
def lateV (m : Nat) (bs : List S36) (a : Int) : List Int × Bool :=
 if feasible m bs [] = true then (if (rd_L6 (tight m bs []) a).contains 1000000 = true then ([], false) else (rd_L6 (tight m bs []) a, true)) else ([], false)
theorem late_val (h0 : 1 ≤ m) (hn : m ≤ 10) (hl : bs.length ≤ 24) (hb : ∀ b ∈ bs, Bd m b) (hok : diagramOk (m : Int) bs = true) (a0 : 0 ≤ a) (a1 : a < (m : Int)) : ∃ K, ∀ k, K ≤ k → impl_LatestTimes.f k (m : Int) bs a = some (lateV m bs a) := by
 obtain ⟨K1, hK1⟩ := implTB h0 hn bs hl hb hok
 have ea : evOk m a = true := by unfold evOk; rw [decide_eq_true a0, decide_eq_true a1]; rfl
 refine ⟨K1 + 100, fun k hk => ?_⟩
 have i1 := hK1 k (by omega)
 have hS := tight_Sq hb []
 obtain ⟨t1, t2⟩ := T_row hS a0 a1
 unfold impl_LatestTimes.f lateV
 rw [i1]
 by_cases hf : feasible m bs [] = true
 ·rw [if_pos hf, if_pos hf]
  simp only [Option.bind_some, if_true]
  rw [impl_ev hn, ea]
  simp only [Option.bind_some, if_true]
  rw [if_pos a0, if_pos (by omega), contains_tells _ (by omega) _ _ (by omega)]
  simp only [Option.bind_some]
  by_cases z : (rd_L6 (tight m bs []) a).contains 1000000 = true
  ·rw [if_pos z, if_pos z]
  ·rw [if_neg z, if_neg z]
 ·rw [if_neg hf, if_neg hf]
  simp only [Option.bind_some, Bool.false_eq_true, if_false]
end
end Go.Proofs.Ythgmolenlpagkaa.Pure

/- One round of the tightest bounds, told entry by entry. -/
namespace Go.Proofs.Ythgmolenlpagkaa.Pure
open Go.RowKit Go.Proofs.Ythgmolenlpagkaa.Pa Go.Proofs.YthgmolenlpagkaaW.PrintWords Go.Proofs.YthgmolenlpagkaaW.PrintLast Go.Proofs.YthgmolenlpagkaaW.PrintMore
set_option linter.unusedVariables false
set_option linter.unusedSimpArgs false

/-- The entry from i to j. -/
def V (M : List (List Int)) (i j : Nat) : Int := rd (rd_L6 M (i : Int)) (j : Int)
theorem row_set {n : Nat} {M : List (List Int)} (h : Sq n M) {i i' : Nat} (hi : i < n) (hi' : i' < n) (r : List Int) : rd_L6 (M.set i r) (i' : Int) = if i' = i then r else rd_L6 M (i' : Int) := by
 unfold rd_L6
 simp only [List.getD_eq_getElem?_getD, Int.toNat_natCast, List.getElem?_set]
 have hl := h.1
 by_cases e : i = i'
 ·subst e
  rw [if_pos rfl, if_pos (by omega), if_pos rfl]; rfl
 ·rw [if_neg e, if_neg (fun h => e h.symm)]
theorem rd_set {l : List Int} {j j' : Nat} (hj : j < l.length) (v : Int) : rd (l.set j v) (j' : Int) = if j' = j then v else rd l (j' : Int) := by
 unfold rd
 simp only [List.getD_eq_getElem?_getD, Int.toNat_natCast, List.getElem?_set]
 by_cases e : j = j'
 ·subst e
  rw [if_pos rfl, if_pos hj, if_pos rfl]; rfl
 ·rw [if_neg e, if_neg (fun h => e h.symm)]
theorem V_put {n : Nat} {M : List (List Int)} (h : Sq n M) {i j i' j' : Nat} (hi : i < n) (hj : j < n) (hi' : i' < n) (v : Int) : V (M.set i ((rd_L6 M (i : Int)).set j v)) i' j' = if i' = i ∧ j' = j then v else V M i' j' := by
 unfold V
 rw [row_set h hi hi']
 by_cases e : i' = i
 ·subst e
  rw [if_pos rfl, rd_set (by rw [row_len h hi]; exact hj)]
  by_cases e2 : j' = j
  ·rw [if_pos e2, if_pos ⟨rfl, e2⟩]
  ·rw [if_neg e2, if_neg (fun h => e2 h.2)]
 ·rw [if_neg e, if_neg (fun h => e h.1)]
theorem mn_le (a b : Int) : mn a b ≤ a := by unfold mn; split <;> omega
/-- One step only lowers. -/
theorem step_le {n : Nat} {M : List (List Int)} (h : Sq n M) {x i j : Nat} (hi : i < n) (hj : j < n) {i' j' : Nat} (hi' : i' < n) : V (stepJ M x i j) i' j' ≤ V M i' j' := by
 unfold stepJ
 split
 ·split
  ·rw [V_put h hi hj hi']
   split
   ·rename_i e
    obtain ⟨rfl, rfl⟩ := e
    exact mn_le _ _
   ·exact Int.le_refl _
  ·exact Int.le_refl _
 ·exact Int.le_refl _
theorem foldJ_le {n : Nat} {x i : Nat} (hi : i < n) (d : Nat) : ∀ (M : List (List Int)) (j : Nat), Sq n M → j + d ≤ n → ∀ i' j', i' < n → V (foldJ x i d M j) i' j' ≤ V M i' j' := by
 induction d with
 | zero => intro M j _ _ i' j' _; exact Int.le_refl _
 | succ d ih =>
  intro M j h hj i' j' hi'
  exact Int.le_trans (ih _ _ (Sq_stepJ h hi (by omega)) (by omega) i' j' hi') (step_le h hi (by omega) hi')
theorem foldI_le {n : Nat} {x : Nat} (d : Nat) : ∀ (M : List (List Int)) (i : Nat), Sq n M → i + d ≤ n → ∀ i' j', i' < n → V (foldI n x d M i) i' j' ≤ V M i' j' := by
 induction d with
 | zero => intro M j _ _ i' j' _; exact Int.le_refl _
 | succ d ih =>
  intro M i h hi i' j' hi'
  exact Int.le_trans (ih _ _ (Sq_foldJ (by omega) _ _ _ h (by omega)) (by omega) i' j' hi') (foldJ_le (by omega) _ _ _ h (by omega) i' j' hi')
theorem foldX_le {n : Nat} (d : Nat) : ∀ (M : List (List Int)) (x : Nat), Sq n M → ∀ i' j', i' < n → V (foldX n d M x) i' j' ≤ V M i' j' := by
 induction d with
 | zero => intro M j _ i' j' _; exact Int.le_refl _
 | succ d ih =>
  intro M x h i' j' hi'
  exact Int.le_trans (ih _ _ (Sq_foldI _ _ _ h (by omega)) i' j' hi') (foldI_le _ _ _ h (by omega) i' j' hi')
/-- What a round makes of the entry from i to j, where it starts from M. -/
def nw (M : List (List Int)) (x i j : Nat) : Int := if V M i x < 1000000 ∧ V M x j < 1000000 then mn (V M i j) (V M i x + V M x j) else V M i j
theorem nw_col {M : List (List Int)} {x : Nat} (h : 0 ≤ V M x x) (i : Nat) : nw M x i x = V M i x := by
 unfold nw mn
 split
 ·split <;> omega
 ·rfl
theorem nw_row {M : List (List Int)} {x : Nat} (h : 0 ≤ V M x x) (j : Nat) : nw M x x j = V M x j := by
 unfold nw mn
 split
 ·split <;> omega
 ·rfl
/-- How far a round has come: the entries before (i, j) are new. -/
def Half (n : Nat) (M0 M : List (List Int)) (x i j : Nat) : Prop := ∀ i' j', i' < n → j' < n → V M i' j' = if i' < i ∨ (i' = i ∧ j' < j) then nw M0 x i' j' else V M0 i' j'
/-- All entries lie between. -/
def Rg (n : Nat) (B : Int) (M : List (List Int)) : Prop := ∀ i j, i < n → j < n → -B ≤ V M i j ∧ V M i j ≤ 1000000
theorem Half_step {n : Nat} {M0 M : List (List Int)} {B : Int} (hB : B ≤ 4611686018427387904) (h0 : Rg n B M0) {x i j : Nat} (hx : x < n) (hi : i < n) (hj : j < n) (hd : 0 ≤ V M0 x x) (h : Sq n M) (hh : Half n M0 M x i j) : Half n M0 (stepJ M x i j) x i (j + 1) := by
 have a : V M i x = V M0 i x := by rw [hh i x hi hx, nw_col hd]; split <;> rfl
 have b : V M x j = V M0 x j := by rw [hh x j hx hj, nw_row hd]; split <;> rfl
 have c : V M i j = V M0 i j := by rw [hh i j hi hj, if_neg (by omega)]
 have ra := h0 i x hi hx
 have rb := h0 x j hx hj
 have key : ∀ i' j', i' < n → j' < n → V (stepJ M x i j) i' j' = if i' = i ∧ j' = j then nw M0 x i j else V M i' j' := by
  intro i' j' hi' hj'
  unfold stepJ
  have ea : rd (rd_L6 M (i : Int)) (x : Int) = V M0 i x := a
  have eb : rd (rd_L6 M (x : Int)) (j : Int) = V M0 x j := b
  have ec : rd (rd_L6 M (i : Int)) (j : Int) = V M0 i j := c
  rw [ea, eb, ec]
  by_cases c1 : V M0 i x < 1000000
  ·rw [if_pos c1]
   by_cases c2 : V M0 x j < 1000000
   ·have hw : wrap64 (V M0 i x + V M0 x j) = V M0 i x + V M0 x j := by unfold wrap64; omega
    have hn : nw M0 x i j = mn (V M0 i j) (V M0 i x + V M0 x j) := by unfold nw; rw [if_pos ⟨c1, c2⟩]
    rw [if_pos c2, hw, V_put h hi hj hi', hn]
   ·have hn : nw M0 x i j = V M i j := by unfold nw; rw [if_neg (fun h => c2 h.2), c]
    rw [if_neg c2, hn]
    split
    ·rename_i e; obtain ⟨rfl, rfl⟩ := e; rfl
    ·rfl
  ·have hn : nw M0 x i j = V M i j := by unfold nw; rw [if_neg (fun h => c1 h.1), c]
   rw [if_neg c1, hn]
   split
   ·rename_i e; obtain ⟨rfl, rfl⟩ := e; rfl
   ·rfl
 intro i' j' hi' hj'
 rw [key i' j' hi' hj']
 by_cases e : i' = i ∧ j' = j
 ·obtain ⟨rfl, rfl⟩ := e
  rw [if_pos ⟨rfl, rfl⟩, if_pos (by omega)]
 ·rw [if_neg e, hh i' j' hi' hj']
  by_cases c : i' < i ∨ (i' = i ∧ j' < j)
  ·rw [if_pos c, if_pos (by omega)]
  ·rw [if_neg c, if_neg (by omega)]
theorem Half_J {n : Nat} {M0 : List (List Int)} {B : Int} (hB : B ≤ 4611686018427387904) (h0 : Rg n B M0) {x i : Nat} (hx : x < n) (hi : i < n) (hd : 0 ≤ V M0 x x) (d : Nat) : ∀ (M : List (List Int)) (j : Nat), Sq n M → j + d = n → Half n M0 M x i j → Half n M0 (foldJ x i d M j) x i n := by
 induction d with
 | zero =>
  intro M j _ hj hh
  obtain rfl : j = n := by omega
  exact hh
 | succ d ih =>
  intro M j h hj hh
  exact ih _ _ (Sq_stepJ h hi (by omega)) (by omega) (Half_step hB h0 hx hi (by omega) hd h hh)
theorem Half_next {n : Nat} {M0 M : List (List Int)} {x i : Nat} (hh : Half n M0 M x i n) : Half n M0 M x (i + 1) 0 := by
 intro i' j' hi' hj'
 rw [hh i' j' hi' hj']
 by_cases c : i' < i ∨ (i' = i ∧ j' < n)
 ·rw [if_pos c, if_pos (by omega)]
 ·rw [if_neg c, if_neg (by omega)]
theorem Half_I {n : Nat} {M0 : List (List Int)} {B : Int} (hB : B ≤ 4611686018427387904) (h0 : Rg n B M0) {x : Nat} (hx : x < n) (hd : 0 ≤ V M0 x x) (d : Nat) : ∀ (M : List (List Int)) (i : Nat), Sq n M → i + d = n → Half n M0 M x i 0 → Half n M0 (foldI n x d M i) x n 0 := by
 induction d with
 | zero =>
  intro M i _ hi hh
  obtain rfl : i = n := by omega
  exact hh
 | succ d ih =>
  intro M i h hi hh
  exact ih _ _ (Sq_foldJ (by omega) _ _ _ h (by omega)) (by omega) (Half_next (Half_J hB h0 hx (by omega) hd n M 0 h (by omega) hh))
/-- A round, where the entry from x to x is not below 0. -/
theorem round_tells {n : Nat} {M : List (List Int)} {B : Int} (hB : B ≤ 4611686018427387904) (h0 : Rg n B M) (h : Sq n M) {x : Nat} (hx : x < n) (hd : 0 ≤ V M x x) {i j : Nat} (hi : i < n) (hj : j < n) : V (foldI n x n M 0) i j = nw M x i j := by
 have := Half_I hB h0 hx hd n M 0 h (by omega) (fun i' j' _ _ => by rw [if_neg (by omega)])
 rw [this i j hi hj, if_pos (by omega)]
end Go.Proofs.Ythgmolenlpagkaa.Pure

/- Walks over weights: their sums, and how a walk is cut down to a path without a vertex twice. -/
namespace Go.Proofs.Ythgmolenlpagkaa.Pure
open Go.RowKit Go.Proofs.Ythgmolenlpagkaa.Pa Go.Proofs.YthgmolenlpagkaaW.PrintWords Go.Proofs.YthgmolenlpagkaaW.PrintLast
set_option linter.unusedVariables false
set_option linter.unusedSimpArgs false

/-- The weight of the walk from i through l. -/
def wt (w : Nat → Nat → Int) : Nat → List Nat → Int
 | _, [] => 0
 | i, j :: l => w i j + wt w j l
/-- Each of its steps has a bound. -/
def okW (w : Nat → Nat → Int) : Nat → List Nat → Prop
 | _, [] => True
 | i, j :: l => w i j < 1000000 ∧ okW w j l
def endW : Nat → List Nat → Nat
 | i, [] => i
 | _, j :: l => endW j l
theorem wt_append (w : Nat → Nat → Int) (a b : List Nat) : ∀ i, wt w i (a ++ b) = wt w i a + wt w (endW i a) b := by
 induction a with
 | nil => intro i; simp [wt, endW]
 | cons x a ih => intro i; simp only [List.cons_append, wt, endW, ih]; omega
theorem ok_append (w : Nat → Nat → Int) (a b : List Nat) : ∀ i, okW w i (a ++ b) ↔ okW w i a ∧ okW w (endW i a) b := by
 induction a with
 | nil => intro i; simp [okW, endW]
 | cons x a ih => intro i; simp only [List.cons_append, okW, endW, ih, and_assoc]
theorem end_append (a b : List Nat) : ∀ i, endW i (a ++ b) = endW (endW i a) b := by
 induction a with
 | nil => intro i; rfl
 | cons x a ih => intro i; exact ih x
theorem end_last (a : List Nat) (j i : Nat) : endW i (a ++ [j]) = j := by rw [end_append]; rfl
theorem wt_most (w : Nat → Nat → Int) (h : ∀ i j, w i j < 1000000 → -1000 ≤ w i j ∧ w i j ≤ 1000) (l : List Nat) : ∀ i, okW w i l → -1000 * (l.length : Int) ≤ wt w i l ∧ wt w i l ≤ 1000 * (l.length : Int) := by
 induction l with
 | nil => intro i _; simp [wt]
 | cons x l ih =>
  intro i ho
  have h1 := h i x ho.1
  have h2 := ih x ho.2
  simp only [wt, List.length_cons]
  push_cast
  omega
/-- Where no cycle falls, a walk weighs no less than some path with its ends. -/
theorem cut_down (w : Nat → Nat → Int) (hc : ∀ v s, s.Nodup → v ∉ s → okW w v (s ++ [v]) → 0 ≤ wt w v (s ++ [v])) (l : List Nat) : ∀ i, okW w i l →
  ∃ p, (i :: p).Nodup ∧ okW w i p ∧ endW i p = endW i l ∧ wt w i p ≤ wt w i l ∧ ∀ v ∈ p, v ∈ l := by
 induction l with
 | nil => intro i _; exact ⟨[], by simp, trivial, rfl, Int.le_refl _, fun v hv => hv⟩
 | cons j l ih =>
  intro i ho
  obtain ⟨p, hn, hp, he, hw, hs⟩ := ih j ho.2
  by_cases hi : i ∈ j :: p
  ·obtain ⟨A, B, hAB⟩ := List.append_of_mem hi
   have hn' := hn
   rw [hAB] at hn'
   have hA : A.Nodup := (List.nodup_append.mp hn').1
   have hB : (i :: B).Nodup := (List.nodup_append.mp hn').2.1
   have hiA : i ∉ A := fun h => (List.nodup_append.mp hn').2.2 i h i (List.mem_cons_self ..) rfl
   have hok : okW w i (j :: p) := ⟨ho.1, hp⟩
   have e : j :: p = (A ++ [i]) ++ B := by rw [hAB]; simp
   rw [e, ok_append, end_last] at hok
   have hcyc := hc i A hA hiA hok.1
   have hwt : wt w i (j :: p) = wt w i (A ++ [i]) + wt w i B := by rw [e, wt_append, end_last]
   have hend : endW i (j :: p) = endW i B := by rw [e, end_append, end_last]
   refine ⟨B, hB, hok.2, ?_, ?_, ?_⟩
   ·rw [← hend]; exact he
   ·have : wt w i (j :: p) = w i j + wt w j p := rfl
    have : wt w i (j :: l) = w i j + wt w j l := rfl
    omega
   ·intro v hv
    have : v ∈ j :: p := by rw [e]; exact List.mem_append_right _ hv
    rcases List.mem_cons.mp this with rfl | h
    ·exact List.mem_cons_self ..
    ·exact List.mem_cons_of_mem _ (hs v h)
  ·refine ⟨j :: p, List.nodup_cons.mpr ⟨hi, hn⟩, ⟨ho.1, hp⟩, he, ?_, ?_⟩
   ·have : wt w i (j :: p) = w i j + wt w j p := rfl
    have : wt w i (j :: l) = w i j + wt w j l := rfl
    omega
   ·intro v hv
    rcases List.mem_cons.mp hv with rfl | h
    ·exact List.mem_cons_self ..
    ·exact List.mem_cons_of_mem _ (hs v h)
/-- A list of different numbers below n has at most n of them. -/
theorem nodup_below (n : Nat) : ∀ l : List Nat, l.Nodup → (∀ v ∈ l, v < n) → l.length ≤ n := by
 induction n with
 | zero =>
  intro l _ h
  cases l with
  | nil => simp
  | cons x l => exact absurd (h x (List.mem_cons_self ..)) (by omega)
 | succ n ih =>
  intro l hn h
  by_cases hx : n ∈ l
  ·have h1 : (l.erase n).Nodup := hn.erase n
   have h2 := ih (l.erase n) h1 (fun v hv => by
    have := h v (List.mem_of_mem_erase hv)
    have hne : v ≠ n := fun e => by
     subst e
     exact (List.Nodup.mem_erase_iff hn).mp hv |>.1 rfl
    omega)
   rw [List.length_erase_of_mem hx] at h2
   omega
  ·have := ih l hn (fun v hv => by
    have := h v hv
    have hne : v ≠ n := fun e => hx (e ▸ hv)
    omega)
   omega
end Go.Proofs.Ythgmolenlpagkaa.Pure

/- The tightest bounds are the least weights of walks, where no event must come before itself. -/
namespace Go.Proofs.Ythgmolenlpagkaa.Pure
open Go.RowKit Go.Proofs.Ythgmolenlpagkaa.Pa Go.Proofs.YthgmolenlpagkaaW.PrintWords Go.Proofs.YthgmolenlpagkaaW.PrintLast Go.Proofs.YthgmolenlpagkaaW.PrintMore
set_option linter.unusedVariables false
set_option linter.unusedSimpArgs false

/-- The weights of single steps. -/
def wM (n : Nat) (M : List (List Int)) (i j : Nat) : Int := if i < n ∧ j < n then V M i j else 1000000
theorem ok_in (n : Nat) (M : List (List Int)) (l : List Nat) : ∀ i, okW (wM n M) i l → ∀ v ∈ l, v < n := by
 induction l with
 | nil => intro i _ v hv; simp at hv
 | cons x l ih =>
  intro i ho v hv
  rcases List.mem_cons.mp hv with rfl | hv
  ·have := ho.1
   unfold wM at this
   split at this
   ·rename_i e; exact e.2
   ·omega
  ·exact ih x ho.2 v hv
/-- No entry is above a path by way of vertices before x. -/
def LB (w : Nat → Nat → Int) (n x : Nat) (M : List (List Int)) : Prop := ∀ i (s : List Nat) j, i < n → j < n → (∀ v ∈ s, v < n ∧ v < x) → s.Nodup → i ∉ s → j ∉ s → okW w i (s ++ [j]) → V M i j ≤ wt w i (s ++ [j])
/-- Each entry below the top is a walk's weight. -/
def Att (w : Nat → Nat → Int) (n : Nat) (M : List (List Int)) : Prop := ∀ i j, i < n → j < n → V M i j < 1000000 → ∃ l, l ≠ [] ∧ okW w i l ∧ endW i l = j ∧ V M i j = wt w i l
theorem nw_le_old (M : List (List Int)) (x i j : Nat) : nw M x i j ≤ V M i j := by
 unfold nw
 split
 ·exact mn_le _ _
 ·exact Int.le_refl _
theorem nw_le_sum {M : List (List Int)} {x i j : Nat} (a : V M i x < 1000000) (b : V M x j < 1000000) : nw M x i j ≤ V M i x + V M x j := by
 unfold nw
 rw [if_pos ⟨a, b⟩]
 unfold mn
 split <;> omega
theorem LB_step {w : Nat → Nat → Int} {n x : Nat} (hn : n ≤ 10) (hx : x < n) (hw : ∀ i j, w i j < 1000000 → -1000 ≤ w i j ∧ w i j ≤ 1000) {M M' : List (List Int)} (h : LB w n x M) (hr : ∀ i j, i < n → j < n → V M' i j = nw M x i j) : LB w n (x + 1) M' := by
 intro i s j hi hj hs hnd his hjs hok
 rw [hr i j hi hj]
 by_cases hxs : x ∈ s
 ·obtain ⟨A, B, rfl⟩ := List.append_of_mem hxs
  have hnd' := List.nodup_append.mp hnd
  have hA : A.Nodup := hnd'.1
  have hB : (x :: B).Nodup := hnd'.2.1
  have hxA : x ∉ A := fun h => hnd'.2.2 x h x (List.mem_cons_self ..) rfl
  have hxB : x ∉ B := (List.nodup_cons.mp hB).1
  have e : A ++ x :: B ++ [j] = (A ++ [x]) ++ (B ++ [j]) := by simp
  rw [e, ok_append, end_last] at hok
  rw [e, wt_append, end_last]
  have a1 := h i A x hi hx (fun v hv => ⟨(hs v (by simp [hv])).1, by
   have := (hs v (by simp [hv])).2
   have hne : v ≠ x := fun e => hxA (e ▸ hv)
   omega⟩) hA (fun hh => his (by simp [hh])) hxA hok.1
  have a2 := h x B j hx hj (fun v hv => ⟨(hs v (by simp [hv])).1, by
   have := (hs v (by simp [hv])).2
   have hne : v ≠ x := fun e => hxB (e ▸ hv)
   omega⟩) (List.nodup_cons.mp hB).2 hxB (fun hh => hjs (by simp [hh])) hok.2
  have b1 := wt_most w hw _ i hok.1
  have b2 := wt_most w hw _ x hok.2
  have l1 := nodup_below n A hA (fun v hv => (hs v (by simp [hv])).1)
  have l2 := nodup_below n B (List.nodup_cons.mp hB).2 (fun v hv => (hs v (by simp [hv])).1)
  simp only [List.length_append, List.length_singleton] at b1 b2
  have := nw_le_sum (M := M) (x := x) (i := i) (j := j) (by omega) (by omega)
  omega
 ·have := h i s j hi hj (fun v hv => ⟨(hs v hv).1, by
   have := (hs v hv).2
   have hne : v ≠ x := fun e => hxs (e ▸ hv)
   omega⟩) hnd his hjs hok
  exact Int.le_trans (nw_le_old M x i j) this
theorem Att_step {w : Nat → Nat → Int} {n x : Nat} (hx : x < n) {M M' : List (List Int)} (h : Att w n M) (hr : ∀ i j, i < n → j < n → V M' i j = nw M x i j) : Att w n M' := by
 intro i j hi hj hv
 rw [hr i j hi hj] at hv ⊢
 unfold nw at hv ⊢
 split at hv
 ·rename_i c
  rw [if_pos c]
  unfold mn at hv ⊢
  split at hv
  ·rename_i c2
   rw [if_pos c2]
   obtain ⟨l1, n1, o1, e1, v1⟩ := h i x hi hx c.1
   obtain ⟨l2, n2, o2, e2, v2⟩ := h x j hx hj c.2
   refine ⟨l1 ++ l2, by simp [n1], ?_, ?_, ?_⟩
   ·rw [ok_append, e1]; exact ⟨o1, o2⟩
   ·rw [end_append, e1]; exact e2
   ·rw [wt_append, e1, v1, v2]
  ·rename_i c2
   rw [if_neg c2]
   exact h i j hi hj hv
 ·rename_i c
  rw [if_neg c]
  exact h i j hi hj hv
theorem Rg_step {n x : Nat} {B : Int} (hx : x < n) (hB : 1000000 ≤ B) {M M' : List (List Int)} (h : Rg n B M) (hr : ∀ i j, i < n → j < n → V M' i j = nw M x i j) : Rg n (2 * B) M' := by
 intro i j hi hj
 rw [hr i j hi hj]
 have a := h i j hi hj
 have b := h i x hi hx
 have c := h x j hx hj
 unfold nw mn
 split
 ·split <;> omega
 ·omega
def bnd : Nat → Int
 | 0 => 1000000
 | x + 1 => 2 * bnd x
theorem bnd_in (x : Nat) (hx : x ≤ 10) : 1000000 ≤ bnd x ∧ bnd x ≤ 4611686018427387904 := by
 have : ∀ y : Fin 11, 1000000 ≤ bnd y ∧ bnd y ≤ 4611686018427387904 := by decide
 exact this ⟨x, by omega⟩
theorem short {w : Nat → Nat → Int} {n : Nat} (hn : n ≤ 10) (hw : ∀ i j, w i j < 1000000 → -1000 ≤ w i j ∧ w i j ≤ 1000) (d : Nat) : ∀ (M : List (List Int)) (x : Nat), x + d = n → Sq n M → LB w n x M → Att w n M → Rg n (bnd x) M → (∀ v, v < n → 0 ≤ V (foldX n d M x) v v) →
  LB w n n (foldX n d M x) ∧ Att w n (foldX n d M x) := by
 induction d with
 | zero =>
  intro M x hx hS hL hA hR hd
  obtain rfl : x = n := by omega
  exact ⟨hL, hA⟩
 | succ d ih =>
  intro M x hx hS hL hA hR hd
  have hb := bnd_in x (by omega)
  have hxn : x < n := by omega
  have hdx : 0 ≤ V M x x := Int.le_trans (hd x hxn) (foldX_le (d + 1) M x hS x x hxn)
  have hr : ∀ i j, i < n → j < n → V (foldI n x n M 0) i j = nw M x i j := fun i j hi hj => round_tells hb.2 hR hS hxn hdx hi hj
  exact ih (foldI n x n M 0) (x + 1) (by omega) (Sq_foldI _ _ _ hS (by omega)) (LB_step hn hxn hw hL hr) (Att_step hxn hA hr) (Rg_step hxn hb.1 hR hr) hd
end Go.Proofs.Ythgmolenlpagkaa.Pure

/- What the tightest bounds of a diagram that can be kept are. -/
namespace Go.Proofs.Ythgmolenlpagkaa.Pure
open Go.RowKit Go.Proofs.Ythgmolenlpagkaa.Pa Go.Proofs.YthgmolenlpagkaaW.PrintWords Go.Proofs.YthgmolenlpagkaaW.PrintLast Go.Proofs.YthgmolenlpagkaaW.PrintMore
set_option linter.unusedVariables false
set_option linter.unusedSimpArgs false

theorem diag_all (d : Nat) : ∀ (M : List (List Int)) (i : Nat), diag d M i = true ↔ ∀ v, i ≤ v → v < i + d → 0 ≤ V M v v := by
 induction d with
 | zero => intro M i; simp only [diag, true_iff]; intro v h1 h2; omega
 | succ d ih =>
  intro M i
  have e : diag (d + 1) M i = if V M i i < 0 then false else diag d M (i + 1) := rfl
  rw [e]
  by_cases c : V M i i < 0
  ·rw [if_pos c]
   constructor
   ·intro h; simp at h
   ·intro h
    have := h i (Nat.le_refl _) (by omega)
    omega
  ·rw [if_neg c, ih]
   constructor
   ·intro h v h1 h2
    by_cases e : v = i
    ·subst e; omega
    ·exact h v (by omega) (by omega)
   ·intro h v h1 h2
    exact h v (by omega) (by omega)
/-- A first entry: no bound, or a small one. -/
def Ent (n : Nat) (M : List (List Int)) : Prop := ∀ i j, i < n → j < n → V M i j = 1000000 ∨ (-1000 ≤ V M i j ∧ V M i j ≤ 1000)
def Lim (b : S36) : Prop := -1000 ≤ b.f2 ∧ b.f2 ≤ 1000
theorem bput_V {n : Nat} {M : List (List Int)} (h : Sq n M) {b : S36} (hb : Bd n b) {i j : Nat} (hi : i < n) : V (bput M b) i j = if i = b.f0.toNat ∧ j = b.f1.toNat then mn (V M i j) b.f2 else V M i j := by
 obtain ⟨h0, h1, h2, h3, _⟩ := hb
 have e0 : ((b.f0.toNat : Nat) : Int) = b.f0 := by omega
 have e1 : ((b.f1.toNat : Nat) : Int) = b.f1 := by omega
 have := V_put h (i := b.f0.toNat) (j := b.f1.toNat) (i' := i) (j' := j) (by omega) (by omega) hi (mn (V M b.f0.toNat b.f1.toNat) b.f2)
 unfold bput
 unfold V at this ⊢
 rw [e0, e1] at this
 rw [this]
 by_cases e : i = b.f0.toNat ∧ j = b.f1.toNat
 ·obtain ⟨rfl, rfl⟩ := e
  rw [if_pos ⟨rfl, rfl⟩, if_pos ⟨rfl, rfl⟩, e0, e1]
 ·rw [if_neg e, if_neg e]
theorem bput_le {n : Nat} {M : List (List Int)} (h : Sq n M) {b : S36} (hb : Bd n b) {i j : Nat} (hi : i < n) : V (bput M b) i j ≤ V M i j := by
 rw [bput_V h hb hi]
 split
 ·exact mn_le _ _
 ·exact Int.le_refl _
theorem bput_Ent {n : Nat} {M : List (List Int)} (h : Sq n M) {b : S36} (hb : Bd n b) (hl : Lim b) (he : Ent n M) : Ent n (bput M b) := by
 intro i j hi hj
 have := he i j hi hj
 obtain ⟨l1, l2⟩ := hl
 rw [bput_V h hb hi]
 unfold mn
 split
 ·split <;> omega
 ·exact this
theorem bputs_le {n : Nat} (w : List Int) (bs : List S36) : ∀ (q : Nat) (M : List (List Int)), Sq n M → (∀ b ∈ bs, Bd n b) → ∀ i j, i < n → V (bputs w bs q M) i j ≤ V M i j := by
 induction bs with
 | nil => intro q M _ _ i j _; exact Int.le_refl _
 | cons b bs ih =>
  intro q M h hb i j hi
  have hb0 := hb b (List.mem_cons_self ..)
  have hbs := fun x hx => hb x (List.mem_cons_of_mem b hx)
  rw [bputs]
  by_cases c : w.contains (q : Int) = true
  ·rw [if_pos c]; exact ih (q + 1) M h hbs i j hi
  ·rw [if_neg c]; exact Int.le_trans (ih (q + 1) _ (Sq_bput h hb0) hbs i j hi) (bput_le h hb0 hi)
theorem bputs_Ent {n : Nat} (w : List Int) (bs : List S36) : ∀ (q : Nat) (M : List (List Int)), Sq n M → (∀ b ∈ bs, Bd n b) → (∀ b ∈ bs, Lim b) → Ent n M → Ent n (bputs w bs q M) := by
 induction bs with
 | nil => intro q M _ _ _ he; exact he
 | cons b bs ih =>
  intro q M h hb hl he
  have hb0 := hb b (List.mem_cons_self ..)
  have hl0 := hl b (List.mem_cons_self ..)
  have hbs := fun x hx => hb x (List.mem_cons_of_mem b hx)
  have hls := fun x hx => hl x (List.mem_cons_of_mem b hx)
  rw [bputs]
  by_cases c : w.contains (q : Int) = true
  ·rw [if_pos c]; exact ih (q + 1) M h hbs hls he
  ·rw [if_neg c]; exact ih (q + 1) _ (Sq_bput h hb0) hbs hls (bput_Ent h hb0 hl0 he)
/-- A bound that is not left out is kept by its entry. -/
theorem bputs_has {n : Nat} (w : List Int) (bs : List S36) : ∀ (q : Nat) (M : List (List Int)), Sq n M → (∀ b ∈ bs, Bd n b) → ∀ p (hp : p < bs.length), w.contains ((q + p : Nat) : Int) = false → V (bputs w bs q M) bs[p].f0.toNat bs[p].f1.toNat ≤ bs[p].f2 := by
 induction bs with
 | nil => intro q M _ _ p hp; simp at hp
 | cons b bs ih =>
  intro q M h hb p hp hc
  have hb0 := hb b (List.mem_cons_self ..)
  have hbs := fun x hx => hb x (List.mem_cons_of_mem b hx)
  rw [bputs]
  cases p with
  | zero =>
   rw [Nat.add_zero] at hc
   rw [if_neg (by rw [hc]; simp)]
   obtain ⟨h0, h1, _⟩ := id hb0
   refine Int.le_trans (bputs_le w bs (q + 1) _ (Sq_bput h hb0) hbs _ _ (by simp only [List.getElem_cons_zero]; omega)) ?_
   simp only [List.getElem_cons_zero]
   rw [bput_V h hb0 (by omega), if_pos ⟨rfl, rfl⟩]
   unfold mn
   split <;> omega
  | succ p =>
   have hS : Sq n (if w.contains (q : Int) then M else bput M b) := by
    split
    ·exact h
    ·exact Sq_bput h hb0
   simp only [List.getElem_cons_succ]
   exact ih (q + 1) _ hS hbs p (by simpa using hp) (by rw [← hc]; congr 2; omega)
theorem irows_get (n d : Nat) : ∀ i p, p < d → (irows n d i)[p]? = some (irow (i + p) n) := by
 induction d with
 | zero => intro i p h; omega
 | succ d ih =>
  intro i p h
  cases p with
  | zero => rfl
  | succ p =>
   have := ih (i + 1) p (by omega)
   simp only [irows, List.getElem?_cons_succ, this]
   congr 2
   omega
theorem irows_V (n i j : Nat) (hi : i < n) (hj : j < n) : V (irows n n 0) i j = if j = i then 0 else 1000000 := by
 unfold V rd_L6
 rw [List.getD_eq_getElem?_getD, Int.toNat_natCast, irows_get n n 0 i hi, Nat.zero_add]
 simp only [Option.getD_some]
 unfold irow
 rw [rd_set (by simpa using hi)]
 by_cases e : j = i
 ·rw [if_pos e, if_pos e]
 ·rw [if_neg e, if_neg e, rd_get (by simpa using hj)]
  simp
theorem irows_Ent (n : Nat) : Ent n (irows n n 0) := by
 intro i j hi hj
 rw [irows_V n i j hi hj]
 split
 ·right; omega
 ·left; rfl
/-- The first entries of a diagram. -/
def first (n : Nat) (bs : List S36) (w : List Int) : List (List Int) := bputs w bs 0 (irows n n 0)
section
variable {n : Nat} {bs : List S36} {w : List Int}
theorem first_Sq (hb : ∀ b ∈ bs, Bd n b) : Sq n (first n bs w) := Sq_bputs _ _ _ _ (irows_Sq n) hb
theorem first_Ent (hb : ∀ b ∈ bs, Bd n b) (hl : ∀ b ∈ bs, Lim b) : Ent n (first n bs w) := bputs_Ent _ _ _ _ (irows_Sq n) hb hl (irows_Ent n)
theorem wM_lim (hb : ∀ b ∈ bs, Bd n b) (hl : ∀ b ∈ bs, Lim b) : ∀ i j, wM n (first n bs w) i j < 1000000 → -1000 ≤ wM n (first n bs w) i j ∧ wM n (first n bs w) i j ≤ 1000 := by
 intro i j h
 unfold wM at h ⊢
 split at h
 ·rename_i c
  rw [if_pos c]
  have := first_Ent (w := w) hb hl i j c.1 c.2
  omega
 ·omega
/-- Least weights: below every path, and each of them a walk's. -/
theorem tight_short (hn : n ≤ 10) (hb : ∀ b ∈ bs, Bd n b) (hl : ∀ b ∈ bs, Lim b) (hf : feasible n bs w = true) :
  (∀ v, v < n → 0 ≤ V (tight n bs w) v v) ∧ LB (wM n (first n bs w)) n n (tight n bs w) ∧ Att (wM n (first n bs w)) n (tight n bs w) := by
 have hd : ∀ v, v < n → 0 ≤ V (tight n bs w) v v := fun v hv => (diag_all n _ 0).1 hf v (by omega) (by omega)
 have hE := first_Ent (w := w) hb hl
 have hL : LB (wM n (first n bs w)) n 0 (first n bs w) := by
  intro i s j hi hj hs _ _ _ _
  cases s with
  | nil =>
   simp only [List.nil_append, wt]
   unfold wM
   rw [if_pos ⟨hi, hj⟩]
   omega
  | cons x s => have := (hs x (List.mem_cons_self ..)).2; omega
 have hA : Att (wM n (first n bs w)) n (first n bs w) := by
  intro i j hi hj hv
  have e : wM n (first n bs w) i j = V (first n bs w) i j := by unfold wM; rw [if_pos ⟨hi, hj⟩]
  refine ⟨[j], by simp, ⟨by rw [e]; exact hv, trivial⟩, rfl, ?_⟩
  simp only [wt, e]
  omega
 have hR : Rg n (bnd 0) (first n bs w) := by
  intro i j hi hj
  have := hE i j hi hj
  unfold bnd
  omega
 exact ⟨hd, short hn (wM_lim hb hl) n (first n bs w) 0 (by omega) (first_Sq hb) hL hA hR hd⟩
theorem tight_self (hn : n ≤ 10) (hb : ∀ b ∈ bs, Bd n b) (hl : ∀ b ∈ bs, Lim b) (hf : feasible n bs w = true) {v : Nat} (hv : v < n) : V (tight n bs w) v v = 0 := by
 have h1 := (tight_short hn hb hl hf).1 v hv
 have h2 : V (tight n bs w) v v ≤ V (first n bs w) v v := foldX_le n _ 0 (first_Sq hb) v v hv
 have h3 : V (first n bs w) v v ≤ V (irows n n 0) v v := bputs_le w bs 0 _ (irows_Sq n) hb v v hv
 rw [irows_V n v v hv hv, if_pos rfl] at h3
 omega
/-- No entry is above a walk. -/
theorem tight_walk (hn : n ≤ 10) (hb : ∀ b ∈ bs, Bd n b) (hl : ∀ b ∈ bs, Lim b) (hf : feasible n bs w = true) {i : Nat} (hi : i < n) (l : List Nat) (ho : okW (wM n (first n bs w)) i l) :
  V (tight n bs w) i (endW i l) ≤ wt (wM n (first n bs w)) i l ∧ (V (tight n bs w) i (endW i l) ≤ 10000) ∧ -10000 ≤ wt (wM n (first n bs w)) i l := by
 obtain ⟨hd, hL, _⟩ := tight_short hn hb hl hf
 obtain ⟨p, pn, po, pe, pw, ps⟩ := cut_down (wM n (first n bs w)) (fun v s hs hvs hok => by
  have hin := ok_in n _ _ _ hok
  have hvn : v < n := hin v (by simp)
  have := hL v s v hvn hvn (fun u hu => ⟨hin u (by simp [hu]), hin u (by simp [hu])⟩) hs hvs hvs hok
  have := hd v hvn
  omega) l i ho
 have hin := ok_in n _ _ _ po
 have hlen : p.length ≤ 10 := Nat.le_trans (nodup_below n p (List.nodup_cons.mp pn).2 hin) hn
 have hmost := wt_most _ (wM_lim hb hl) p i po
 rcases List.eq_nil_or_concat p with rfl | ⟨s, j, rfl⟩
 ·have e : endW i l = i := pe.symm
  have := tight_self hn hb hl hf hi
  have e2 : wt (wM n (first n bs w)) i [] = 0 := rfl
  rw [e, this]
  omega
 ·rw [List.concat_eq_append] at *
  have e : endW i l = j := by rw [← pe, end_last]
  have hjn : j < n := hin j (by simp)
  have hn2 := List.nodup_cons.mp pn
  have hn3 := List.nodup_append.mp hn2.2
  have := hL i s j hi hjn (fun u hu => ⟨hin u (by simp [hu]), hin u (by simp [hu])⟩) hn3.1 (fun h => hn2.1 (by simp [h])) (fun h => hn3.2.2 j h j (by simp) rfl) po
  rw [e]
  omega
theorem tight_range (hn : n ≤ 10) (hb : ∀ b ∈ bs, Bd n b) (hl : ∀ b ∈ bs, Lim b) (hf : feasible n bs w = true) {i j : Nat} (hi : i < n) (hj : j < n) (hv : V (tight n bs w) i j < 1000000) : -10000 ≤ V (tight n bs w) i j ∧ V (tight n bs w) i j ≤ 10000 := by
 obtain ⟨l, _, ho, he, hw⟩ := (tight_short hn hb hl hf).2.2 i j hi hj hv
 have := tight_walk hn hb hl hf hi l ho
 rw [he] at this
 omega
theorem tight_le (hb : ∀ b ∈ bs, Bd n b) {i j : Nat} (hi : i < n) (hj : j < n) : V (tight n bs w) i j ≤ 1000000 := by
 have h2 : V (tight n bs w) i j ≤ V (first n bs w) i j := foldX_le n _ 0 (first_Sq hb) i j hi
 have h3 : V (first n bs w) i j ≤ V (irows n n 0) i j := bputs_le w bs 0 _ (irows_Sq n) hb i j hi
 rw [irows_V n i j hi hj] at h3
 split at h3 <;> omega
/-- By way of a third event. -/
theorem tight_via (hn : n ≤ 10) (hb : ∀ b ∈ bs, Bd n b) (hl : ∀ b ∈ bs, Lim b) (hf : feasible n bs w = true) {i k j : Nat} (hi : i < n) (hk : k < n) (hj : j < n) (h1 : V (tight n bs w) i k < 1000000) (h2 : V (tight n bs w) k j < 1000000) : V (tight n bs w) i j ≤ V (tight n bs w) i k + V (tight n bs w) k j := by
 obtain ⟨l1, _, o1, e1, v1⟩ := (tight_short hn hb hl hf).2.2 i k hi hk h1
 obtain ⟨l2, _, o2, e2, v2⟩ := (tight_short hn hb hl hf).2.2 k j hk hj h2
 have := (tight_walk hn hb hl hf hi (l1 ++ l2) (by rw [ok_append, e1]; exact ⟨o1, o2⟩)).1
 rw [end_append, e1, e2, wt_append, e1, ← v1, ← v2] at this
 exact this
/-- A bound is kept. -/
theorem tight_bound (hn : n ≤ 10) (hb : ∀ b ∈ bs, Bd n b) {p : Nat} (hp : p < bs.length) (hc : w.contains (p : Int) = false) : V (tight n bs w) bs[p].f0.toNat bs[p].f1.toNat ≤ bs[p].f2 := by
 obtain ⟨h0, h1, _⟩ := hb _ (List.getElem_mem hp)
 have h2 := foldX_le n (first n bs w) 0 (first_Sq hb) bs[p].f0.toNat bs[p].f1.toNat (by omega)
 have h3 := bputs_has w bs 0 _ (irows_Sq n) hb p hp (by rw [Nat.zero_add]; exact hc)
 exact Int.le_trans h2 h3
end
end Go.Proofs.Ythgmolenlpagkaa.Pure

namespace Go.Proofs.Ythgmolenlpagkaa.Pa
open Go.RowKit Go.Proofs.YthgmolenlpagkaaW.PrintWords Go.Proofs.YthgmolenlpagkaaW.PrintLast Go.Proofs.YthgmolenlpagkaaW.PrintMore
attribute [local go_sem] max2_int min2_int max_two min_two max_three min_three max_four min_four   -- for this text's walks alone
set_option linter.unusedVariables false
set_option linter.unusedSimpArgs false

/-! ### AUX containsI -/
set_option maxHeartbeats 2000000 in
set_option maxRecDepth 100000 in
theorem indexI.calls (A : Option Addr) (c : Nat) (l : List Int) (g : Nat) (lb : Array Value) (p : Int → Bool) (w : World) (hr : Kd.C (Kd.int .i64) w A l.length l)
  (eg : ∀ args W, (callFunc g args).run Try.prog W = .ok (.enter g args) W)
  (hp : ∀ (W : World) (x : Int), x ∈ l → Below w.heap.size w W → Calls Try.prog g (#[.int .i64 x] ++ lb) W fun e w' => e = .returned (.bool (p x)) ∧ Below w.heap.size w w') :
  Calls Try.prog 32 #[.slice A l.length c, .func (.func g) #[] lb] w fun e w' => e = .returned (.int .i64 (firstOf p l 0)) ∧ Below w.heap.size w w' := by
 have HR := Aside0.mk hr
 have hlen : l.length ≤ 9223372036854775807 := hr.2.1
 clear hr
 have HP := Aside0.mk hp
 clear hp
 go_enter Try.func32, Try.ntmps32
 go_wp2
 go_loopg [5, 8] l.length (fun gg _ s8 wr => ∃ x : Int, s8 = .int .i64 x ∧ Aside0 (0 ≤ x ∧ x ≤ l.length ∧ (l.length : Int) - x ≤ gg) ∧ Aside0 (Below w.heap.size w wr) ∧ Aside0 (firstOf p l 0 = firstOf p (l.drop x.toNat) x))
 case atStart => exact ⟨0, rfl, ⟨by omega⟩, ⟨Below.refl _ w⟩, ⟨rfl⟩⟩
 case round =>
  obtain ⟨x, rfl, HX, HB, HF⟩ := hrel
  by_cases hlt : x < (l.length : Int)
  ·have c0 : decide (0 ≤ x) = true := decide_eq_true HX.out.1
   have c1 : decide (x < (l.length : Int)) = true := decide_eq_true hlt
   have HL := Aside0.mk hlt
   clear hlt
   obtain ⟨ad, e, h0⟩ := Kd.at_int HR.out x HX.out.1 HL.out
   cases e
   replace h0 := (HB.out.cell (World.block_lt_of_cell? w _ h0)).trans h0
   have hmem : rd l x ∈ l := by
    have hx := HX.out
    have hl := HL.out
    unfold rd
    rw [List.getD_eq_getElem?_getD, List.getElem?_eq_getElem (by omega)]
    exact List.getElem_mem _
   have hcall := HP.out wr (rd l x) hmem HB.out
   clear hmem
   have hd : l.drop x.toNat = rd l x :: l.drop (x + 1).toNat := by
    have hx := HX.out
    have hl := HL.out
    rw [List.drop_eq_getElem_cons (by omega), show (x + 1).toNat = x.toNat + 1 from by omega]
    unfold rd
    rw [List.getD_eq_getElem?_getD, List.getElem?_eq_getElem (by omega)]
    rfl
   have HD := Aside0.mk hd
   clear hd
   cases hq : p (rd l x) with
   | true =>
    rw [hq] at hcall
    have HQ := Aside0.mk hq
    clear hq
    have HC := Aside0.mk hcall
    clear hcall
    have p0 := eq_true HX.out.1
    have p1 := eq_true HL.out
    go_wp2_with (go_at_fn g; refine HC.out.mono ?_; rintro e w' ⟨rfl, hb'⟩)
    go_ret
    refine ⟨?_, hb'⟩
    rw [HF.out, HD.out, firstOf_step, if_pos HQ.out]
    rfl
   | false =>
    rw [hq] at hcall
    have HQ := Aside0.mk hq
    clear hq
    have HC := Aside0.mk hcall
    clear hcall
    have p0 := eq_true HX.out.1
    have p1 := eq_true HL.out
    go_wp2_with (go_at_fn g; refine HC.out.mono ?_; rintro e w' ⟨rfl, hb'⟩)
    have hx1 := HX.out
    have hl1 := HL.out
    go_roundg ((l.length : Int) - (x + 1)).toNat
    case measure => omega
    case rel =>
     have hw1 : wrap64 (x + 1) = x + 1 := by unfold wrap64; omega
     refine ⟨x + 1, by rw [hw1], ⟨by omega⟩, ⟨hb'⟩, ⟨?_⟩⟩
     rw [HF.out, HD.out, firstOf_step, if_neg (by rw [HQ.out]; simp)]
  ·have c1 : decide (x < (l.length : Int)) = false := decide_eq_false hlt
   have HL := Aside0.mk hlt
   clear hlt
   go_wp2
   go_ret
   refine ⟨?_, HB.out⟩
   have hx := HX.out
   have hl := HL.out
   rw [HF.out, List.drop_of_length_le (by omega)]
   rfl
set_option maxHeartbeats 1000000 in
theorem containsI.calls (A : Option Addr) (c : Nat) (l : List Int) (g : Nat) (lb : Array Value) (p : Int → Bool) (w : World) (hr : Kd.C (Kd.int .i64) w A l.length l)
  (eg : ∀ args W, (callFunc g args).run Try.prog W = .ok (.enter g args) W)
  (hp : ∀ (W : World) (x : Int), x ∈ l → Below w.heap.size w W → Calls Try.prog g (#[.int .i64 x] ++ lb) W fun e w' => e = .returned (.bool (p x)) ∧ Below w.heap.size w w') :
  Calls Try.prog 22 #[.slice A l.length c, .func (.func g) #[] lb] w fun e w' => e = .returned (.bool (l.any p)) ∧ Below w.heap.size w w' := by
 have hcall := Aside0.mk (indexI.calls A c l g lb p w hr eg hp)
 clear hp hr eg
 rw [← firstOf_any p l]
 generalize firstOf p l 0 = r at hcall ⊢
 go_enter Try.func22, Try.ntmps22
 go_wp2_with (go_at_call 32; refine hcall.out.mono ?_; rintro e w' ⟨rfl, hb'⟩)
 go_ret
 exact ⟨rfl, hb'⟩

end Go.Proofs.Ythgmolenlpagkaa.Pa

namespace Go.Proofs.Ythgmolenlpagkaa.Pa
open Go.RowKit Go.Proofs.YthgmolenlpagkaaW.PrintWords Go.Proofs.YthgmolenlpagkaaW.PrintLast Go.Proofs.YthgmolenlpagkaaW.PrintMore
attribute [local go_sem] max2_int min2_int max_two min_two max_three min_three max_four min_four   -- for this text's walks alone
set_option linter.unusedVariables false
set_option linter.unusedSimpArgs false

/-! ### impl_IsTiming: function 11 -/
def badTime (t : Int) : Bool := !(decide (-1000000 ≤ t) && decide (t ≤ 1000000))
def badBound (times : List Int) (b : S36) : Bool := decide (b.f2 < rd times b.f1 - rd times b.f0)
def anyBadTime (times : List Int) : Bool := times.any badTime
def anyBadBound (times : List Int) (l : List S36) : Bool := l.any (badBound times)
def timingOk (n : Int) (l : List S36) (times : List Int) : Bool := diagramOk n l && ((times.length : Int) == n) && !anyBadTime times && !anyBadBound times l
theorem timing_range (n : Int) (l : List S36) (times : List Int) (hv : diagramOk n l = true) (hn : (times.length : Int) = n) (ht : anyBadTime times = false) :
  ∀ x ∈ l, 0 ≤ x.f0 ∧ x.f0 < (times.length : Int) ∧ 0 ≤ x.f1 ∧ x.f1 < (times.length : Int) ∧ -9223372036854775808 ≤ rd times x.f1 - rd times x.f0 ∧ rd times x.f1 - rd times x.f0 ≤ 9223372036854775807 := by
 intro x hx
 have hb : boundOk n x = true := by
  unfold diagramOk at hv
  simp only [Bool.and_eq_true, List.all_eq_true] at hv
  exact hv.2 x hx
 unfold boundOk at hb
 simp only [Bool.and_eq_true, decide_eq_true_eq] at hb
 have hr : ∀ i : Int, 0 ≤ i → i < (times.length : Int) → -1000000 ≤ rd times i ∧ rd times i ≤ 1000000 := by
  intro i h0 h1
  have hm : rd times i ∈ times := by
   unfold rd
   rw [List.getD_eq_getElem?_getD, List.getElem?_eq_getElem (by omega)]
   exact List.getElem_mem _
  unfold anyBadTime at ht
  rw [List.any_eq_false] at ht
  have := ht _ hm
  unfold badTime at this
  simpa using this
 have r0 := hr x.f0 (by omega) (by omega)
 have r1 := hr x.f1 (by omega) (by omega)
 omega
def impl_IsTiming.f (a0_0 : Int) (l0_1 : List (S36)) (l1 : List Int) : Option (Bool) := some (timingOk a0_0 l0_1 l1)
set_option maxHeartbeats 4000000 in
set_option maxRecDepth 100000 in
theorem IsTiming_time (w W : World) (x : Int) (hb : Below w.heap.size w W) :
  Calls Try.prog 23 (#[.int .i64 x] ++ #[]) W fun e w' => e = .returned (.bool (badTime x)) ∧ Below w.heap.size w w' := by
 have HB := Aside0.mk hb
 clear hb
 have hq : impl_within.f x (-1000000) 1000000 = some (decide (-1000000 ≤ x) && decide (x ≤ 1000000)) := by
  unfold impl_within.f
  by_cases h : -1000000 ≤ x <;> simp [h]
 have HQ := Aside0.mk hq
 clear hq
 unfold badTime
 generalize (decide (-1000000 ≤ x) && decide (x ≤ 1000000)) = q at HQ ⊢
 show Calls Try.prog 23 #[.int .i64 x] W _
 go_enter Try.func23, Try.ntmps23
 go_wp2_with (go_at_call 16; refine (impl_within.calls _ _ _ q _ HQ.out).mono ?_; rintro e w' ⟨rfl, ⟨nd, rfl⟩⟩)
 go_ret
 exact ⟨rfl, pw_below_drewN HB.out nd⟩
set_option maxHeartbeats 4000000 in
set_option maxRecDepth 100000 in
theorem IsTiming_bound (times : List Int) (A : Option Addr) (c B : Nat) (w : World) (hc0 : w.cell? ⟨B, 0, none⟩ = some (.slice A times.length c)) (hr : Kd.C (Kd.int .i64) w A times.length times) (W : World) (x : S36)
  (h0 : 0 ≤ x.f0) (h1 : x.f0 < (times.length : Int)) (h2 : 0 ≤ x.f1) (h3 : x.f1 < (times.length : Int)) (hw : -9223372036854775808 ≤ rd times x.f1 - rd times x.f0 ∧ rd times x.f1 - rd times x.f0 ≤ 9223372036854775807) (hb : Below w.heap.size w W) :
  Calls Try.prog 24 (#[.agg #[.int .i64 x.f0, .int .i64 x.f1, .int .i64 x.f2]] ++ #[.pointer (some ⟨B, 0, none⟩)]) W fun e w' => e = .returned (.bool (badBound times x)) ∧ Below w.heap.size w w' := by
 have hu := Try.underlying36
 have HB := Aside0.mk hb
 have HC0 := Aside0.mk (pw_cell_below hb hc0)
 have HR := Aside0.mk (Kd.C_below hr hb)
 clear hb hc0 hr
 have hq : badBound times x = decide (x.f2 < rd times x.f1 - rd times x.f0) := rfl
 have HQ := Aside0.mk hq
 clear hq
 have H0 := Aside0.mk h0
 have H1 := Aside0.mk h1
 have H2 := Aside0.mk h2
 have H3 := Aside0.mk h3
 have HW := Aside0.mk hw
 clear h0 h1 h2 h3 hw
 generalize badBound times x = q at HQ ⊢
 show Calls Try.prog 24 #[.agg #[.int .i64 x.f0, .int .i64 x.f1, .int .i64 x.f2], .pointer (some ⟨B, 0, none⟩)] W _
 go_enter Try.func24, Try.ntmps24
 go_wp2_with ((with_reducible refine gate_dst (N := 2) rfl ?_); refine box_event ?hg (N := 2) ?hd (cs := #[.int .i64 x.f0, .int .i64 x.f1, .int .i64 x.f2]) (t := 36) ?hr ?_; (case hd => rfl); (case hg => rfl); (case hr => first | (go_simp; done) | (go_simp; rfl)); intro gb hg w6 hbox hb6; have HX6 := Aside0.mk hbox; have HB6 := Aside0.mk hb6; clear hbox hb6 hg)
 have b0 : w6.cell? ⟨gb, 0, none⟩ = some (.int .i64 x.f0) := (blk_cell HX6.out 0).trans rfl
 have b1 : w6.cell? ⟨gb, 1, none⟩ = some (.int .i64 x.f1) := (blk_cell HX6.out 1).trans rfl
 have b2 : w6.cell? ⟨gb, 2, none⟩ = some (.int .i64 x.f2) := (blk_cell HX6.out 2).trans rfl
 have t0 := pw_cell_below HB6.out HC0.out
 obtain ⟨ad, e, e0⟩ := Kd.at_int HR.out x.f0 H0.out H1.out
 cases e
 obtain ⟨ad', e', e1⟩ := Kd.at_int HR.out x.f1 H2.out H3.out
 cases e'
 replace e0 := pw_cell_below HB6.out e0
 replace e1 := pw_cell_below HB6.out e1
 have p0 := eq_true H0.out
 have p1 := eq_true H1.out
 have p2 := eq_true H2.out
 have p3 := eq_true H3.out
 have hwr : IntKind.i64.wrap (rd times x.f1 - rd times x.f0) = rd times x.f1 - rd times x.f0 := IntWalk.i64_in _ HW.out
 go_quiet (fail)
 go_wp2
 go_ret
 refine ⟨by rw [HQ.out]; rfl, ?_⟩
 repeat (first | exact below_step HB.out HB6.out | apply pw_below_drewN | apply below_drew)
set_option maxHeartbeats 4000000 in
set_option maxRecDepth 100000 in
theorem impl_IsTiming.calls (a0_0 : Int) (A0_1 : Option Addr) (c0_1 : Nat) (l0_1 : List (S36)) (A1 : Option Addr) (c1 : Nat) (l1 : List Int) (r : Bool) (w : World) (hr0_1 : Kd.C k36 w A0_1 l0_1.length l0_1) (hc0_1 : l0_1.length ≤ c0_1) (hr1 : Kd.C (Kd.int .i64) w A1 l1.length l1) (hc1 : l1.length ≤ c1) (h : impl_IsTiming.f a0_0 l0_1 l1 = some r) :
  Calls Try.prog 11 #[.agg #[.int .i64 a0_0, .slice A0_1 l0_1.length c0_1], .slice A1 l1.length c1] w fun e w' => e = .returned (.bool r) ∧ Below w.heap.size w w' := by
 obtain rfl := Option.some.inj h
 clear h
 have hu := Try.underlying26
 have HR := Aside0.mk hr0_1
 have HRT := Aside0.mk hr1
 have HC := Aside0.mk hc0_1
 have hlen1 : l1.length ≤ 9223372036854775807 := hr1.2.1
 clear hr0_1 hc0_1 hr1 hc1
 have HV : Aside0 (impl_ValidDiagram.f a0_0 l0_1 = some (diagramOk a0_0 l0_1)) := ⟨rfl⟩
 have HT : Aside0 (timingOk a0_0 l0_1 l1 = (diagramOk a0_0 l0_1 && ((l1.length : Int) == a0_0) && !anyBadTime l1 && !anyBadBound l1 l0_1)) := ⟨rfl⟩
 generalize timingOk a0_0 l0_1 l1 = q at HT ⊢
 cases hv : diagramOk a0_0 l0_1 with
 | false =>
  rw [hv] at HV HT
  clear hv
  go_enter Try.func11, Try.ntmps11
  go_wp2_with (first | ((with_reducible refine gate_dst (N := 2) rfl ?_); refine box_event ?hg (N := 2) ?hd (cs := #[.int .i64 a0_0, .slice A0_1 l0_1.length c0_1]) (t := 26) ?hr ?_; (case hd => rfl); (case hg => rfl); (case hr => first | (go_simp; done) | (go_simp; rfl)); intro gb hg_ w6 hbox_ hb_; have HX_gb := Aside0.mk hbox_; have HB_w6 := Aside0.mk hb_; have HG_gb := Aside0.mk hg_; clear hbox_ hb_ hg_; have b0 : w6.cell? ⟨gb, 0, none⟩ = some (.int .i64 a0_0) := (blk_cell HX_gb.out 0).trans rfl; have b1 : w6.cell? ⟨gb, 1, none⟩ = some (.slice A0_1 l0_1.length c0_1) := (blk_cell HX_gb.out 1).trans rfl) | ((with_reducible refine gate_dst (N := 3) rfl ?_); refine box_event ?hg (N := 3) ?hd (cs := #[.slice A1 l1.length c1]) (t := 31) ?hr ?_; (case hd => rfl); (case hg => rfl); (case hr => first | (go_simp; done) | (go_simp; rfl)); intro gt hg_ w7 hbox_ hb_; have HX_gt := Aside0.mk hbox_; have HB_w7 := Aside0.mk hb_; have HG_gt := Aside0.mk hg_; clear hbox_ hb_ hg_; have c0 : w7.cell? ⟨gb, 0, none⟩ = some (.int .i64 a0_0) := pw_cell_below HB_w7.out b0; have cc1 : w7.cell? ⟨gb, 1, none⟩ = some (.slice A0_1 l0_1.length c0_1) := pw_cell_below HB_w7.out b1; clear b0 b1) | (go_at_call 8; refine (impl_ValidDiagram.calls _ A0_1 c0_1 l0_1 false _ (Kd.C_below HR.out (below_step HB_w6.out HB_w7.out)) HC.out HV.out).mono ?_; rintro e w8 ⟨rfl, hb8⟩; have HB_w8 := Aside0.mk hb8; have d0 := pw_cell_below hb8 c0; have d1 := pw_cell_below hb8 cc1; have d2 : w8.cell? ⟨gt, 0, none⟩ = some (.slice A1 l1.length c1) := pw_cell_below hb8 ((blk_cell HX_gt.out 0).trans rfl); clear c0 cc1 hb8))
  go_ret
  exact ⟨by rw [HT.out]; rfl, below_step (below_step HB_w6.out HB_w7.out) HB_w8.out⟩
 | true =>
  rw [hv] at HV HT
  have HVV := Aside0.mk hv
  clear hv
  by_cases hn : (l1.length : Int) = a0_0
  ·have n0 : ((l1.length : Int) == a0_0) = true := beq_iff_eq.mpr hn
   have n1 : ((l1.length : Int) != a0_0) = false := bne_eq_false_iff_eq.mpr hn
   rw [n0] at HT
   have HN := Aside0.mk hn
   clear hn
   cases ht : anyBadTime l1 with
   | true =>
    rw [ht] at HT
    have HTT := Aside0.mk ht
    clear ht
    go_enter Try.func11, Try.ntmps11
    go_wp2_with (first | ((with_reducible refine gate_dst (N := 2) rfl ?_); refine box_event ?hg (N := 2) ?hd (cs := #[.int .i64 a0_0, .slice A0_1 l0_1.length c0_1]) (t := 26) ?hr ?_; (case hd => rfl); (case hg => rfl); (case hr => first | (go_simp; done) | (go_simp; rfl)); intro gb hg_ w6 hbox_ hb_; have HX_gb := Aside0.mk hbox_; have HB_w6 := Aside0.mk hb_; have HG_gb := Aside0.mk hg_; clear hbox_ hb_ hg_; have b0 : w6.cell? ⟨gb, 0, none⟩ = some (.int .i64 a0_0) := (blk_cell HX_gb.out 0).trans rfl; have b1 : w6.cell? ⟨gb, 1, none⟩ = some (.slice A0_1 l0_1.length c0_1) := (blk_cell HX_gb.out 1).trans rfl) | ((with_reducible refine gate_dst (N := 3) rfl ?_); refine box_event ?hg (N := 3) ?hd (cs := #[.slice A1 l1.length c1]) (t := 31) ?hr ?_; (case hd => rfl); (case hg => rfl); (case hr => first | (go_simp; done) | (go_simp; rfl)); intro gt hg_ w7 hbox_ hb_; have HX_gt := Aside0.mk hbox_; have HB_w7 := Aside0.mk hb_; have HG_gt := Aside0.mk hg_; clear hbox_ hb_ hg_; have c0 : w7.cell? ⟨gb, 0, none⟩ = some (.int .i64 a0_0) := pw_cell_below HB_w7.out b0; have cc1 : w7.cell? ⟨gb, 1, none⟩ = some (.slice A0_1 l0_1.length c0_1) := pw_cell_below HB_w7.out b1; clear b0 b1) | (go_at_call 8; refine (impl_ValidDiagram.calls _ A0_1 c0_1 l0_1 true _ (Kd.C_below HR.out (below_step HB_w6.out HB_w7.out)) HC.out HV.out).mono ?_; rintro e w8 ⟨rfl, hb8⟩; have HB_w8 := Aside0.mk hb8; have d0 := pw_cell_below hb8 c0; have d1 := pw_cell_below hb8 cc1; have d2 : w8.cell? ⟨gt, 0, none⟩ = some (.slice A1 l1.length c1) := pw_cell_below hb8 ((blk_cell HX_gt.out 0).trans rfl); clear c0 cc1 hb8) | (go_at_call 22; refine (containsI.calls A1 c1 l1 23 #[] badTime _ (Kd.C_below HRT.out (below_step (below_step HB_w6.out HB_w7.out) HB_w8.out)) (enters_of Try.func23 (by kernel_rfl) rfl) (fun W x _ hb => IsTiming_time _ W x hb)).mono ?_; rintro e w9 ⟨he, hb9⟩; rw [show l1.any badTime = true from HTT.out] at he; subst he))
    go_ret
    exact ⟨by rw [HT.out]; rfl, below_step (below_step (below_step HB_w6.out HB_w7.out) HB_w8.out) hb9⟩
   | false =>
    rw [ht] at HT
    have HTT := Aside0.mk ht
    clear ht
    have HIN := Aside0.mk (timing_range a0_0 l0_1 l1 HVV.out HN.out HTT.out)
    have HQ : Aside0 (q = !anyBadBound l1 l0_1) := ⟨by rw [HT.out]; simp⟩
    generalize hbb : anyBadBound l1 l0_1 = bb at HQ
    have HBB := Aside0.mk hbb
    clear hbb
    go_enter Try.func11, Try.ntmps11
    go_wp2_with (first | ((with_reducible refine gate_dst (N := 2) rfl ?_); refine box_event ?hg (N := 2) ?hd (cs := #[.int .i64 a0_0, .slice A0_1 l0_1.length c0_1]) (t := 26) ?hr ?_; (case hd => rfl); (case hg => rfl); (case hr => first | (go_simp; done) | (go_simp; rfl)); intro gb hg_ w6 hbox_ hb_; have HX_gb := Aside0.mk hbox_; have HB_w6 := Aside0.mk hb_; have HG_gb := Aside0.mk hg_; clear hbox_ hb_ hg_; have b0 : w6.cell? ⟨gb, 0, none⟩ = some (.int .i64 a0_0) := (blk_cell HX_gb.out 0).trans rfl; have b1 : w6.cell? ⟨gb, 1, none⟩ = some (.slice A0_1 l0_1.length c0_1) := (blk_cell HX_gb.out 1).trans rfl) | ((with_reducible refine gate_dst (N := 3) rfl ?_); refine box_event ?hg (N := 3) ?hd (cs := #[.slice A1 l1.length c1]) (t := 31) ?hr ?_; (case hd => rfl); (case hg => rfl); (case hr => first | (go_simp; done) | (go_simp; rfl)); intro gt hg_ w7 hbox_ hb_; have HX_gt := Aside0.mk hbox_; have HB_w7 := Aside0.mk hb_; have HG_gt := Aside0.mk hg_; clear hbox_ hb_ hg_; have c0 : w7.cell? ⟨gb, 0, none⟩ = some (.int .i64 a0_0) := pw_cell_below HB_w7.out b0; have cc1 : w7.cell? ⟨gb, 1, none⟩ = some (.slice A0_1 l0_1.length c0_1) := pw_cell_below HB_w7.out b1; clear b0 b1) | (go_at_call 8; refine (impl_ValidDiagram.calls _ A0_1 c0_1 l0_1 true _ (Kd.C_below HR.out (below_step HB_w6.out HB_w7.out)) HC.out HV.out).mono ?_; rintro e w8 ⟨rfl, hb8⟩; have HB_w8 := Aside0.mk hb8; have d0 := pw_cell_below hb8 c0; have d1 := pw_cell_below hb8 cc1; have d2 : w8.cell? ⟨gt, 0, none⟩ = some (.slice A1 l1.length c1) := pw_cell_below hb8 ((blk_cell HX_gt.out 0).trans rfl); clear c0 cc1 hb8) | (go_at_call 22; refine (containsI.calls A1 c1 l1 23 #[] badTime _ (Kd.C_below HRT.out (below_step (below_step HB_w6.out HB_w7.out) HB_w8.out)) (enters_of Try.func23 (by kernel_rfl) rfl) (fun W x _ hb => IsTiming_time _ W x hb)).mono ?_; rintro e w9 ⟨he, hb9⟩; rw [show l1.any badTime = false from HTT.out] at he; subst he; have HB_w9 := Aside0.mk hb9; have f1 := pw_cell_below hb9 d1; have f2 := pw_cell_below hb9 d2; clear d0 d1 d2 hb9) | (go_at_call 17; refine (containsB.calls A0_1 c0_1 l0_1 24 #[.pointer (some ⟨gt, 0, none⟩)] (badBound l1) _ (Kd.C_below HR.out (below_step (below_step (below_step HB_w6.out HB_w7.out) HB_w8.out) HB_w9.out)) (enters_of Try.func24 (by kernel_rfl) rfl) (fun W x hx hb => IsTiming_bound l1 A1 c1 gt w9 f2 (Kd.C_below HRT.out (below_step (below_step (below_step HB_w6.out HB_w7.out) HB_w8.out) HB_w9.out)) W x (HIN.out x hx).1 (HIN.out x hx).2.1 (HIN.out x hx).2.2.1 (HIN.out x hx).2.2.2.1 (HIN.out x hx).2.2.2.2 hb)).mono ?_; rintro e w10 ⟨he, hb10⟩; rw [show l0_1.any (badBound l1) = bb from HBB.out] at he; subst he))
    go_ret
    exact ⟨by rw [HQ.out]; rfl, below_step (below_step (below_step (below_step HB_w6.out HB_w7.out) HB_w8.out) HB_w9.out) hb10⟩
  ·have n0 : ((l1.length : Int) == a0_0) = false := beq_eq_false_iff_ne.mpr hn
   have n1 : ((l1.length : Int) != a0_0) = true := bne_iff_ne.mpr hn
   rw [n0] at HT
   clear hn
   go_enter Try.func11, Try.ntmps11
   go_wp2_with (first | ((with_reducible refine gate_dst (N := 2) rfl ?_); refine box_event ?hg (N := 2) ?hd (cs := #[.int .i64 a0_0, .slice A0_1 l0_1.length c0_1]) (t := 26) ?hr ?_; (case hd => rfl); (case hg => rfl); (case hr => first | (go_simp; done) | (go_simp; rfl)); intro gb hg_ w6 hbox_ hb_; have HX_gb := Aside0.mk hbox_; have HB_w6 := Aside0.mk hb_; have HG_gb := Aside0.mk hg_; clear hbox_ hb_ hg_; have b0 : w6.cell? ⟨gb, 0, none⟩ = some (.int .i64 a0_0) := (blk_cell HX_gb.out 0).trans rfl; have b1 : w6.cell? ⟨gb, 1, none⟩ = some (.slice A0_1 l0_1.length c0_1) := (blk_cell HX_gb.out 1).trans rfl) | ((with_reducible refine gate_dst (N := 3) rfl ?_); refine box_event ?hg (N := 3) ?hd (cs := #[.slice A1 l1.length c1]) (t := 31) ?hr ?_; (case hd => rfl); (case hg => rfl); (case hr => first | (go_simp; done) | (go_simp; rfl)); intro gt hg_ w7 hbox_ hb_; have HX_gt := Aside0.mk hbox_; have HB_w7 := Aside0.mk hb_; have HG_gt := Aside0.mk hg_; clear hbox_ hb_ hg_; have c0 : w7.cell? ⟨gb, 0, none⟩ = some (.int .i64 a0_0) := pw_cell_below HB_w7.out b0; have cc1 : w7.cell? ⟨gb, 1, none⟩ = some (.slice A0_1 l0_1.length c0_1) := pw_cell_below HB_w7.out b1; clear b0 b1) | (go_at_call 8; refine (impl_ValidDiagram.calls _ A0_1 c0_1 l0_1 true _ (Kd.C_below HR.out (below_step HB_w6.out HB_w7.out)) HC.out HV.out).mono ?_; rintro e w8 ⟨rfl, hb8⟩; have HB_w8 := Aside0.mk hb8; have d0 := pw_cell_below hb8 c0; have d1 := pw_cell_below hb8 cc1; have d2 : w8.cell? ⟨gt, 0, none⟩ = some (.slice A1 l1.length c1) := pw_cell_below hb8 ((blk_cell HX_gt.out 0).trans rfl); clear c0 cc1 hb8))
   go_ret
   exact ⟨by rw [HT.out]; rfl, below_step (below_step HB_w6.out HB_w7.out) HB_w8.out⟩

end Go.Proofs.Ythgmolenlpagkaa.Pa

/- Times that a diagram allows: within the earliest and the latest ones, within the gaps; and these are such times. -/
namespace Go.Proofs.Ythgmolenlpagkaa.Pure
open Go.RowKit Go.Proofs.Ythgmolenlpagkaa.Pa Go.Proofs.YthgmolenlpagkaaW.PrintWords Go.Proofs.YthgmolenlpagkaaW.PrintLast Go.Proofs.YthgmolenlpagkaaW.PrintMore
set_option linter.unusedVariables false
set_option linter.unusedSimpArgs false

section
variable {n : Nat} {bs : List S36}
theorem bound_V (hn : n ≤ 10) (hb : ∀ b ∈ bs, Bd n b) {b : S36} (h : b ∈ bs) : V (tight n bs []) b.f0.toNat b.f1.toNat ≤ b.f2 := by
 obtain ⟨p, hp, rfl⟩ := List.getElem_of_mem h
 exact tight_bound hn hb hp (by simp)
/-- A list of times that keeps each bound is a timing. -/
theorem timing_of (hok : diagramOk (n : Int) bs = true) (l : List Int) (hlen : l.length = n) (hr : ∀ j, j < n → -1000000 ≤ rd l (j : Int) ∧ rd l (j : Int) ≤ 1000000) (hb : ∀ b ∈ bs, Bd n b) (h : ∀ b ∈ bs, rd l ((b.f1.toNat : Nat) : Int) - rd l ((b.f0.toNat : Nat) : Int) ≤ b.f2) : timingOk (n : Int) bs l = true := by
 unfold timingOk
 have h1 : ((l.length : Int) == (n : Int)) = true := beq_iff_eq.2 (by omega)
 have h2 : anyBadTime l = false := by
  unfold anyBadTime
  rw [List.any_eq_false]
  intro x hx
  obtain ⟨i, hi, rfl⟩ := List.getElem_of_mem hx
  have := hr i (by omega)
  rw [rd_get hi] at this
  unfold badTime
  rw [decide_eq_true this.1, decide_eq_true this.2]
  decide
 have h3 : anyBadBound l bs = false := by
  unfold anyBadBound
  rw [List.any_eq_false]
  intro b hbm
  obtain ⟨b0, b1, b2, b3, _⟩ := hb b hbm
  have := h b hbm
  rw [show ((b.f1.toNat : Nat) : Int) = b.f1 by omega, show ((b.f0.toNat : Nat) : Int) = b.f0 by omega] at this
  unfold badBound
  simp only [decide_eq_true_eq]
  omega
 rw [hok, h1, h2, h3]
 rfl
theorem late_at (hn : n ≤ 10) (hb : ∀ b ∈ bs, Bd n b) {a : Nat} (ha : a < n) {e : List Int} (h : lateV n bs (a : Int) = (e, true)) :
  feasible n bs [] = true ∧ e.length = n ∧ ∀ j, j < n → V (tight n bs []) a j ≠ 1000000 ∧ rd e (j : Int) = V (tight n bs []) a j := by
 unfold lateV at h
 by_cases hf : feasible n bs [] = true
 ·rw [if_pos hf] at h
  by_cases z : (rd_L6 (tight n bs []) (a : Int)).contains 1000000 = true
  ·rw [if_pos z] at h
   cases (Prod.mk.inj h).2
  ·rw [if_neg z] at h
   have he := (Prod.mk.inj h).1
   have hrl := row_len (tight_Sq hb []) ha
   refine ⟨hf, by rw [← he]; exact hrl, fun j hj => ?_⟩
   have hne : V (tight n bs []) a j ≠ 1000000 := by
    intro hq
    apply z
    rw [List.contains_iff_mem]
    unfold V at hq
    rw [← hq, rd_get (by omega)]
    exact List.getElem_mem _
   exact ⟨hne, by rw [← he]; rfl⟩
 ·rw [if_neg hf] at h
  cases (Prod.mk.inj h).2
theorem late_timing (hn : n ≤ 10) (hb : ∀ b ∈ bs, Bd n b) (hl : ∀ b ∈ bs, Lim b) (hok : diagramOk (n : Int) bs = true) {a : Nat} (ha : a < n) {e : List Int} (h : lateV n bs (a : Int) = (e, true)) : timingOk (n : Int) bs e = true ∧ rd e (a : Int) = 0 := by
 obtain ⟨hf, hlen, hat⟩ := late_at hn hb ha h
 refine ⟨timing_of hok e hlen (fun j hj => ?_) hb (fun b hbm => ?_), ?_⟩
 ·have h1 := hat j hj
  have hr := tight_range hn hb hl hf ha hj (by have := tight_le (w := []) hb ha hj; omega)
  rw [h1.2]; omega
 ·obtain ⟨b0, b1, b2, b3, _⟩ := hb b hbm
  have h1 := hat b.f1.toNat (by omega)
  have h0 := hat b.f0.toNat (by omega)
  have hv := bound_V hn hb hbm
  have hlm := hl b hbm
  unfold Lim at hlm
  have := tight_via hn hb hl hf (i := a) (k := b.f0.toNat) (j := b.f1.toNat) ha (by omega) (by omega) (by have := tight_le (w := []) hb (i := a) (j := b.f0.toNat) ha (by omega); have := h0.1; omega) (by omega)
  rw [h1.2, h0.2]
  omega
 ·rw [(hat a ha).2, tight_self hn hb hl hf ha]
end
end Go.Proofs.Ythgmolenlpagkaa.Pure

namespace Go.Proofs.Ythgmolenlpagkaa.Pa
open Go.RowKit Go.Proofs.YthgmolenlpagkaaW.PrintWords Go.Proofs.YthgmolenlpagkaaW.PrintLast Go.Proofs.YthgmolenlpagkaaW.PrintMore
attribute [local go_sem] max2_int min2_int max_two min_two max_three min_three max_four min_four   -- for this text's walks alone
set_option linter.unusedVariables false
set_option linter.unusedSimpArgs false

/-- A state of type 54 at block g of W; what its slices lead to came in by w0. -/
def IsS54 (w0 W : World) (g : Nat) (f0 : List Int) (f1 : Int) (f2 : Int) : Prop := ∃ A0 c0, W.heap[g]? = some (.cells #[.slice A0 f0.length c0, .int .i64 f1, .int .u64 f2] 54 (0, 0)) ∧ w0.heap.size ≤ g ∧ Kd.C (Kd.int .u8) w0 A0 f0.length f0
theorem IsS54.grown {w0 W : World} {g : Nat} {f0 : List Int} {f1 : Int} {f2 : Int} {W1 : World} {row : Option Nat} (h : IsS54 w0 W g f0 f1 f2) (hw : W.grownBy W1 row) (hne : some g ≠ row) : IsS54 w0 W1 g f0 f1 f2 := by
 obtain ⟨A0, c0, hb, hg, hr0⟩ := h
 exact ⟨A0, c0, blk_grown hb hw hne, hg, hr0⟩
theorem IsS54.below {w0 W : World} {g : Nat} {f0 : List Int} {f1 : Int} {f2 : Int} {W1 : World} (h : IsS54 w0 W g f0 f1 f2) (hw : Below W.heap.size W W1) : IsS54 w0 W1 g f0 f1 f2 := h.grown (grown_of_below hw none) (by simp)
theorem IsS54.drewN {w0 W : World} {g : Nat} {f0 : List Int} {f1 : Int} {f2 : Int} (h : IsS54 w0 W g f0 f1 f2) (m : Nat) : IsS54 w0 (W.drewN m) g f0 f1 f2 := h
theorem IsS54.drew {w0 W : World} {g : Nat} {f0 : List Int} {f1 : Int} {f2 : Int} (h : IsS54 w0 W g f0 f1 f2) : IsS54 w0 W.drew g f0 f1 f2 := h
theorem IsS54.apart {w0 W : World} {g : Nat} {f0 : List Int} {f1 : Int} {f2 : Int} {α : Type} {d : Kd α} {e : Nat} {base : Nat} {ok : Nat → Prop} {v : Value} {xs : List α} (h : IsS54 w0 W g f0 f1 f2) (ho : d.R e W base ok v xs) (ht : ∀ q, q ∈ e :: d.E → q ≠ 54) : d.R e W base (fun k => ok k ∧ k ≠ g) v xs := by
 obtain ⟨A0, c0, hb, hg, hr0⟩ := h
 exact Kd.R_types ho hb ht
theorem IsS54.own_ne {w0 W : World} {g : Nat} {f0 : List Int} {f1 : Int} {f2 : Int} {α : Type} {d : Kd α} {e : Nat} {base : Nat} {ok : Nat → Prop} {v : Value} {xs : List α} (h : IsS54 w0 W g f0 f1 f2) (ho : d.R e W base ok v xs) (ht : e ≠ 54) : some g ≠ v.ownBlock := by
 obtain ⟨A0, c0, hb, hg, hr0⟩ := h
 exact Kd.R_ne ho hb ht
theorem IsS54.lt {w0 W : World} {g : Nat} {f0 : List Int} {f1 : Int} {f2 : Int} (h : IsS54 w0 W g f0 f1 f2) : g < W.heap.size := by
 obtain ⟨A0, c0, hb, hg, hr0⟩ := h
 exact blk_lt hb
theorem IsS54.ge {w0 W : World} {g : Nat} {f0 : List Int} {f1 : Int} {f2 : Int} (h : IsS54 w0 W g f0 f1 f2) : w0.heap.size ≤ g := by
 obtain ⟨A0, c0, hb, hg, hr0⟩ := h
 exact hg
theorem IsS54.ne_blk {w0 W : World} {g : Nat} {f0 : List Int} {f1 : Int} {f2 : Int} {a : Nat} {cs : Array Value} {t : TypeId} {fr : Nat × Nat} (h : IsS54 w0 W g f0 f1 f2) (hb2 : W.heap[a]? = some (.cells cs t fr)) (ht : t ≠ 54) : g ≠ a := by
 obtain ⟨A0, c0, hb, hg, hr0⟩ := h
 rintro rfl
 rw [hb] at hb2
 injection hb2 with hb2
 injection hb2 with _ ht2
 exact ht ht2.symm
theorem IsS54.far {w0 W : World} {g : Nat} {f0 : List Int} {f1 : Int} {f2 : Int} {p : Addr} (h : IsS54 w0 W g f0 f1 f2) (hne : g ≠ p.block) (u : Value) : IsS54 w0 (W.setCell p u) g f0 f1 f2 := by
 obtain ⟨A0, c0, hb, hg, hr0⟩ := h
 exact ⟨A0, c0, blk_far hb hne u, hg, hr0⟩
theorem cellS54_0 {W : World} {g : Nat} {A0 : Option Addr} {c0 : Nat} {f0 : List Int} {f1 : Int} {f2 : Int} (h : W.heap[g]? = some (.cells #[.slice A0 f0.length c0, .int .i64 f1, .int .u64 f2] 54 (0, 0))) : W.cell? ⟨g, 0, none⟩ = some (.slice A0 f0.length c0) := (blk_cell h 0).trans rfl
theorem cellS54_1 {W : World} {g : Nat} {A0 : Option Addr} {c0 : Nat} {f0 : List Int} {f1 : Int} {f2 : Int} (h : W.heap[g]? = some (.cells #[.slice A0 f0.length c0, .int .i64 f1, .int .u64 f2] 54 (0, 0))) : W.cell? ⟨g, 1, none⟩ = some (.int .i64 f1) := (blk_cell h 1).trans rfl
theorem IsS54.set_1 {w0 W : World} {g : Nat} {f0 : List Int} {f1 : Int} {f2 : Int} (h : IsS54 w0 W g f0 f1 f2) (x : Int) : IsS54 w0 (W.setCell ⟨g, 1, none⟩ (.int .i64 x)) g f0 x f2 := by
 obtain ⟨A0, c0, hb, hg, hr0⟩ := h
 exact ⟨A0, c0, by simpa using blk_set hb 1 (.int .i64 x), hg, hr0⟩
theorem cellS54_2 {W : World} {g : Nat} {A0 : Option Addr} {c0 : Nat} {f0 : List Int} {f1 : Int} {f2 : Int} (h : W.heap[g]? = some (.cells #[.slice A0 f0.length c0, .int .i64 f1, .int .u64 f2] 54 (0, 0))) : W.cell? ⟨g, 2, none⟩ = some (.int .u64 f2) := (blk_cell h 2).trans rfl
theorem IsS54.set_2 {w0 W : World} {g : Nat} {f0 : List Int} {f1 : Int} {f2 : Int} (h : IsS54 w0 W g f0 f1 f2) (x : Int) : IsS54 w0 (W.setCell ⟨g, 2, none⟩ (.int .u64 x)) g f0 f1 x := by
 obtain ⟨A0, c0, hb, hg, hr0⟩ := h
 exact ⟨A0, c0, by simpa using blk_set hb 2 (.int .u64 x), hg, hr0⟩
/-! ### spec_l00From: function 12 -/
def spec_l00From.f (l0 : List Int) : Option (List Int × Int × Int) := some (l0, 0, 0)
set_option maxHeartbeats 8000000 in
set_option maxRecDepth 100000 in
theorem spec_l00From.calls (A0 : Option Addr) (c0 : Nat) (l0 : List Int) (r1 : List Int) (r2 : Int) (r3 : Int) (w0 w : World) (hB : Below w0.heap.size w0 w) (hr0 : Kd.C (Kd.int .u8) w0 A0 l0.length l0) (hc0 : l0.length ≤ c0) (h : spec_l00From.f l0 = some (r1, r2, r3)) :
  Calls Try.prog 12 #[.slice A0 l0.length c0] w fun e w' => ∃ g_ : Nat, e = .returned (.pointer (some ⟨g_, 0, none⟩)) ∧ IsS54 w0 w' g_ r1 r2 r3 ∧ Below w0.heap.size w0 w' ∧ Below w.heap.size w w' := by
 have hu54 := Try.underlying54
 have HR0 := Aside0.mk hr0
 have HC0 := Aside0.mk hc0
 clear hr0 hc0
 have HBW := Aside0.mk (Below.refl w.heap.size w)
 have HW0 := Aside0.mk hB.size
 have HB := Aside0.mk hB
 clear hB
 have H : (some (l0, 0, 0)) = some (r1, r2, r3) := h
 clear h
 simp only [Option.some.injEq, Prod.mk.injEq] at H
 obtain ⟨rfl, rfl, rfl⟩ := H
 go_enter Try.func12, Try.ntmps12
 go_wp2_with (first | ((with_reducible refine gate_dst (N := 5) rfl ?_); refine box_event ?hg (N := 5) ?hd (cs := #[.slice A0 l0.length c0, .int .i64 0, .int .u64 0]) (t := 54) ?hr ?_; (case hd => rfl); (case hg => rfl); (case hr => first | (go_simp; done) | (go_simp; rfl)); intro gb101 hg w2 hbox hb; have n0_ := Aside0.mk (below_step HBW.out hb); have n1_ := Aside0.mk (below_step (by repeat (first | (with_reducible first | exact HB.out | apply below_alloc | apply pw_below_drewN | apply below_drew1) | exact HB.out)) hb); have n2_ := Aside0.mk (hbox); have n3_ := Aside0.mk ((by rw [hg]; exact (below_size (by repeat (first | (with_reducible first | exact HBW.out | apply below_alloc | apply pw_below_drewN | apply below_drew1) | exact HBW.out))) : w.heap.size ≤ gb101)); have n4_ := Aside0.mk ((Nat.le_trans HW0.out (by rw [hg]; exact (below_size (by repeat (first | (with_reducible first | exact HBW.out | apply below_alloc | apply pw_below_drewN | apply below_drew1) | exact HBW.out))) : w.heap.size ≤ gb101) : w0.heap.size ≤ gb101)); clear HBW; clear HB; have HBW := n0_; have HB := n1_; have BK101 := n2_; have GW101 := n3_; have GE101 := n4_; clear n0_ n1_ n2_ n3_ n4_; clear hb hbox hg))
 go_ret
 exact ⟨_, rfl, (show IsS54 w0 _ gb101 l0 0 0 from ⟨_, _, by (with_reducible repeat (first | refine blk_drewN ?_ _ | refine blk_drew ?_ | refine blk_alloc ?_ _)); exact BK101.out, GE101.out, HR0.out⟩), by repeat (first | (with_reducible first | exact HB.out | apply below_alloc | apply pw_below_drewN | apply below_drew1 | refine below_set ?_ GE101.out) | exact HB.out), by repeat (first | (with_reducible first | exact HBW.out | apply below_alloc | apply pw_below_drewN | apply below_drew1 | refine below_set ?_ GW101.out) | exact HBW.out)⟩

end Go.Proofs.Ythgmolenlpagkaa.Pa

namespace Go.Proofs.Ythgmolenlpagkaa.Pa
open Go.RowKit Go.Proofs.YthgmolenlpagkaaW.PrintWords Go.Proofs.YthgmolenlpagkaaW.PrintLast Go.Proofs.YthgmolenlpagkaaW.PrintMore
attribute [local go_sem] max2_int min2_int max_two min_two max_three min_three max_four min_four   -- for this text's walks alone
set_option linter.unusedVariables false
set_option linter.unusedSimpArgs false

/-! ### spec_l00Src_next: function 33 -/
def spec_l00Src_next.f (s0_0 : List Int) (s0_1 : Int) (s0_2 : Int) : Option (Int × Int × Int) := if s0_1 < (s0_0.length : Int) then (if 0 ≤ s0_1 then (if (wrap64 (s0_1 + 1)) ≤ (s0_0.length : Int) then (some (wrap64 (rd s0_0 s0_1), wrap64 (s0_1 + 1), IntKind.u64.wrap ((IntKind.u64.wrap ((IntKind.u64.wrap (s0_2 * 6364136223846793005)) + (IntKind.u64.wrap (wrap64 (rd s0_0 s0_1))))) + 1442695040888963407))) else (some (wrap64 (Go.bits .and .u64 ((IntKind.u64.wrap ((IntKind.u64.wrap ((IntKind.u64.wrap (s0_2 * 6364136223846793005)) + (IntKind.u64.wrap (wrap64 (rd s0_0 s0_1))))) + 1442695040888963407)) / 1099511627776) 255), wrap64 (s0_1 + 1), IntKind.u64.wrap ((IntKind.u64.wrap ((IntKind.u64.wrap (s0_2 * 6364136223846793005)) + (IntKind.u64.wrap (wrap64 (rd s0_0 s0_1))))) + 1442695040888963407)))) else (none)) else (if (wrap64 (s0_1 + 1)) ≤ (s0_0.length : Int) then (some (0, wrap64 (s0_1 + 1), IntKind.u64.wrap ((IntKind.u64.wrap ((IntKind.u64.wrap (s0_2 * 6364136223846793005)) + 0)) + 1442695040888963407))) else (some (wrap64 (Go.bits .and .u64 ((IntKind.u64.wrap ((IntKind.u64.wrap ((IntKind.u64.wrap (s0_2 * 6364136223846793005)) + 0)) + 1442695040888963407)) / 1099511627776) 255), wrap64 (s0_1 + 1), IntKind.u64.wrap ((IntKind.u64.wrap ((IntKind.u64.wrap (s0_2 * 6364136223846793005)) + 0)) + 1442695040888963407))))
set_option maxHeartbeats 8000000 in
set_option maxRecDepth 100000 in
theorem spec_l00Src_next.calls (g : Nat) (s0_0 : List Int) (s0_1 : Int) (s0_2 : Int) (r1 : Int) (r2 : Int) (r3 : Int) (w0 w : World) (hI : IsS54 w0 w g s0_0 s0_1 s0_2) (hB : Below w0.heap.size w0 w) (h : spec_l00Src_next.f s0_0 s0_1 s0_2 = some (r1, r2, r3)) :
  Calls Try.prog 33 #[.pointer (some ⟨g, 0, none⟩)] w fun e w' => e = .returned (.int .i64 r1) ∧ IsS54 w0 w' g s0_0 r2 r3 ∧ Below w0.heap.size w0 w' ∧ KeepBut w w' g none := by
 have HI0 := Aside0.mk hI
 have HK := Aside0.mk (KeepBut.refl w g none)
 have HL := Aside0.mk hB.size
 clear hI
 have HW0 := Aside0.mk hB.size
 have HB := Aside0.mk hB
 clear hB
 have H : (if s0_1 < (s0_0.length : Int) then (if 0 ≤ s0_1 then (if (wrap64 (s0_1 + 1)) ≤ (s0_0.length : Int) then (some (wrap64 (rd s0_0 s0_1), wrap64 (s0_1 + 1), IntKind.u64.wrap ((IntKind.u64.wrap ((IntKind.u64.wrap (s0_2 * 6364136223846793005)) + (IntKind.u64.wrap (wrap64 (rd s0_0 s0_1))))) + 1442695040888963407))) else (some (wrap64 (Go.bits .and .u64 ((IntKind.u64.wrap ((IntKind.u64.wrap ((IntKind.u64.wrap (s0_2 * 6364136223846793005)) + (IntKind.u64.wrap (wrap64 (rd s0_0 s0_1))))) + 1442695040888963407)) / 1099511627776) 255), wrap64 (s0_1 + 1), IntKind.u64.wrap ((IntKind.u64.wrap ((IntKind.u64.wrap (s0_2 * 6364136223846793005)) + (IntKind.u64.wrap (wrap64 (rd s0_0 s0_1))))) + 1442695040888963407)))) else (none)) else (if (wrap64 (s0_1 + 1)) ≤ (s0_0.length : Int) then (some (0, wrap64 (s0_1 + 1), IntKind.u64.wrap ((IntKind.u64.wrap ((IntKind.u64.wrap (s0_2 * 6364136223846793005)) + 0)) + 1442695040888963407))) else (some (wrap64 (Go.bits .and .u64 ((IntKind.u64.wrap ((IntKind.u64.wrap ((IntKind.u64.wrap (s0_2 * 6364136223846793005)) + 0)) + 1442695040888963407)) / 1099511627776) 255), wrap64 (s0_1 + 1), IntKind.u64.wrap ((IntKind.u64.wrap ((IntKind.u64.wrap (s0_2 * 6364136223846793005)) + 0)) + 1442695040888963407))))) = some (r1, r2, r3) := h
 clear h
 by_cases c2 : s0_1 < (s0_0.length : Int)
 ·rw [if_pos c2] at H
  have c2b0 : decide (s0_1 < (s0_0.length : Int)) = true := decide_eq_true c2
  clear c2
  by_cases c3 : 0 ≤ s0_1
  ·rw [if_pos c3] at H
   have c3b0 : decide (0 ≤ s0_1) = true := decide_eq_true c3
   clear c3
   by_cases c4 : (wrap64 (s0_1 + 1)) ≤ (s0_0.length : Int)
   ·rw [if_pos c4] at H
    have c4b0 : decide ((wrap64 (s0_1 + 1)) ≤ (s0_0.length : Int)) = true := decide_eq_true c4
    clear c4
    simp only [Option.some.injEq, Prod.mk.injEq] at H
    obtain ⟨rfl, rfl, rfl⟩ := H
    obtain ⟨ASz5_0, cSz5_0, HGz5, hgz5, HSz5_0⟩ := HI0.out
    have hcz5_0 := cellS54_0 HGz5
    have hcz5_1 := cellS54_1 HGz5
    have hcz5_2 := cellS54_2 HGz5
    have hfz5_1 := blk_frozen HGz5 1
    have hfz5_2 := blk_frozen HGz5 2
    clear HGz5 hgz5
    have p102 : 0 ≤ (s0_1 : Int) := of_decide_eq_true (by with_reducible assumption)
    have q102 : s0_1 < (s0_0.length : Int) := of_decide_eq_true (by with_reducible assumption)
    obtain ⟨ad102, e102, hx102_0⟩ := Kd.at_int HSz5_0 s0_1 p102 q102
    cases e102
    replace hx102_0 := pw_cell_below HB.out hx102_0
    replace p102 := eq_true p102
    replace q102 := eq_true q102
    go_enter Try.func33, Try.ntmps33
    go_wp2
    repeat (go_quiet (fail); try go_wp2)
    go_ret
    (try simp only [Int.add_zero])
    exact ⟨by first | rfl | (simp [errW_none, errW_some] <;> rfl) | (simp [*, errW_none, errW_some] <;> rfl), by repeat (first | (with_reducible first | exact HI0.out | apply IsS54.alloc | apply IsS54.drewN | apply IsS54.drew | apply IsS54.set_1 | apply IsS54.set_2) | exact HI0.out), by repeat (first | (with_reducible first | exact HB.out | apply below_alloc | apply pw_below_drewN | apply below_drew1 | refine below_set ?_ (IsS54.ge HI0.out)) | exact HB.out), by repeat (first | (with_reducible first | exact HK.out | apply KeepBut.set_ | apply keep_drewN | apply keep_drew | apply keep_alloc) | exact HK.out)⟩
   ·rw [if_neg c4] at H
    have c4b0 : decide ((wrap64 (s0_1 + 1)) ≤ (s0_0.length : Int)) = false := decide_eq_false c4
    clear c4
    simp only [Option.some.injEq, Prod.mk.injEq] at H
    obtain ⟨rfl, rfl, rfl⟩ := H
    obtain ⟨ASz6_0, cSz6_0, HGz6, hgz6, HSz6_0⟩ := HI0.out
    have hcz6_0 := cellS54_0 HGz6
    have hcz6_1 := cellS54_1 HGz6
    have hcz6_2 := cellS54_2 HGz6
    have hfz6_1 := blk_frozen HGz6 1
    have hfz6_2 := blk_frozen HGz6 2
    clear HGz6 hgz6
    have p102 : 0 ≤ (s0_1 : Int) := of_decide_eq_true (by with_reducible assumption)
    have q102 : s0_1 < (s0_0.length : Int) := of_decide_eq_true (by with_reducible assumption)
    obtain ⟨ad102, e102, hx102_0⟩ := Kd.at_int HSz6_0 s0_1 p102 q102
    cases e102
    replace hx102_0 := pw_cell_below HB.out hx102_0
    replace p102 := eq_true p102
    replace q102 := eq_true q102
    go_enter Try.func33, Try.ntmps33
    go_wp2
    repeat (go_quiet (fail); try go_wp2)
    go_ret
    (try simp only [Int.add_zero])
    exact ⟨by first | rfl | (simp [errW_none, errW_some] <;> rfl) | (simp [*, errW_none, errW_some] <;> rfl), by repeat (first | (with_reducible first | exact HI0.out | apply IsS54.alloc | apply IsS54.drewN | apply IsS54.drew | apply IsS54.set_1 | apply IsS54.set_2) | exact HI0.out), by repeat (first | (with_reducible first | exact HB.out | apply below_alloc | apply pw_below_drewN | apply below_drew1 | refine below_set ?_ (IsS54.ge HI0.out)) | exact HB.out), by repeat (first | (with_reducible first | exact HK.out | apply KeepBut.set_ | apply keep_drewN | apply keep_drew | apply keep_alloc) | exact HK.out)⟩
  ·rw [if_neg c3] at H
   exact absurd H (by simp)
 ·rw [if_neg c2] at H
  have c2b0 : decide (s0_1 < (s0_0.length : Int)) = false := decide_eq_false c2
  clear c2
  by_cases c7 : (wrap64 (s0_1 + 1)) ≤ (s0_0.length : Int)
  ·rw [if_pos c7] at H
   have c7b0 : decide ((wrap64 (s0_1 + 1)) ≤ (s0_0.length : Int)) = true := decide_eq_true c7
   clear c7
   simp only [Option.some.injEq, Prod.mk.injEq] at H
   obtain ⟨rfl, rfl, rfl⟩ := H
   obtain ⟨ASz8_0, cSz8_0, HGz8, hgz8, HSz8_0⟩ := HI0.out
   have hcz8_0 := cellS54_0 HGz8
   have hcz8_1 := cellS54_1 HGz8
   have hcz8_2 := cellS54_2 HGz8
   have hfz8_1 := blk_frozen HGz8 1
   have hfz8_2 := blk_frozen HGz8 2
   clear HGz8 hgz8
   go_enter Try.func33, Try.ntmps33
   go_wp2
   repeat (go_quiet (fail); try go_wp2)
   go_ret
   (try simp only [Int.add_zero])
   exact ⟨by first | rfl | (simp [errW_none, errW_some] <;> rfl) | (simp [*, errW_none, errW_some] <;> rfl), by repeat (first | (with_reducible first | exact HI0.out | apply IsS54.alloc | apply IsS54.drewN | apply IsS54.drew | apply IsS54.set_1 | apply IsS54.set_2) | exact HI0.out), by repeat (first | (with_reducible first | exact HB.out | apply below_alloc | apply pw_below_drewN | apply below_drew1 | refine below_set ?_ (IsS54.ge HI0.out)) | exact HB.out), by repeat (first | (with_reducible first | exact HK.out | apply KeepBut.set_ | apply keep_drewN | apply keep_drew | apply keep_alloc) | exact HK.out)⟩
  ·rw [if_neg c7] at H
   have c7b0 : decide ((wrap64 (s0_1 + 1)) ≤ (s0_0.length : Int)) = false := decide_eq_false c7
   clear c7
   simp only [Option.some.injEq, Prod.mk.injEq] at H
   obtain ⟨rfl, rfl, rfl⟩ := H
   obtain ⟨ASz9_0, cSz9_0, HGz9, hgz9, HSz9_0⟩ := HI0.out
   have hcz9_0 := cellS54_0 HGz9
   have hcz9_1 := cellS54_1 HGz9
   have hcz9_2 := cellS54_2 HGz9
   have hfz9_1 := blk_frozen HGz9 1
   have hfz9_2 := blk_frozen HGz9 2
   clear HGz9 hgz9
   go_enter Try.func33, Try.ntmps33
   go_wp2
   repeat (go_quiet (fail); try go_wp2)
   go_ret
   (try simp only [Int.add_zero])
   exact ⟨by first | rfl | (simp [errW_none, errW_some] <;> rfl) | (simp [*, errW_none, errW_some] <;> rfl), by repeat (first | (with_reducible first | exact HI0.out | apply IsS54.alloc | apply IsS54.drewN | apply IsS54.drew | apply IsS54.set_1 | apply IsS54.set_2) | exact HI0.out), by repeat (first | (with_reducible first | exact HB.out | apply below_alloc | apply pw_below_drewN | apply below_drew1 | refine below_set ?_ (IsS54.ge HI0.out)) | exact HB.out), by repeat (first | (with_reducible first | exact HK.out | apply KeepBut.set_ | apply keep_drewN | apply keep_drew | apply keep_alloc) | exact HK.out)⟩

end Go.Proofs.Ythgmolenlpagkaa.Pa

