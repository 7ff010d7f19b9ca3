-- Written for this claim by a program of this session.
import Derived.Test.YtbkofbcmhddbfaaPPax0
import Derived.Shelf.Abstract
/- Small laws of whole numbers and lists that the plain statements of this seat use. -/
namespace Go.Proofs.Ytbkofbcmhddbfaa.Pure
open Go.RowKit Go.Proofs.Ytbkofbcmhddbfaa.Pa Go.Proofs.YtbkofbcmhddbfaaW.PrintWords Go.Proofs.YtbkofbcmhddbfaaW.PrintLast
set_option linter.unusedVariables false
set_option linter.unusedSimpArgs false

theorem wrap_id {x : Int} (h0 : -9223372036854775808 ≤ x) (h1 : x ≤ 9223372036854775807) : wrap64 x = x := by
 unfold wrap64
 omega
theorem rd_get {l : List Int} {i : Nat} (h : i < l.length) : rd l (i : Int) = l[i] := by
 unfold rd
 rw [List.getD_eq_getElem?_getD, Int.toNat_natCast, List.getElem?_eq_getElem h]
 rfl
/-- The numbers a, a + 1, .. -/
def numsFrom (a : Int) : Nat → List Int
 | 0 => []
 | n + 1 => a :: numsFrom (a + 1) n
end Go.Proofs.Ytbkofbcmhddbfaa.Pure

namespace Go.Proofs.Ytbkofbcmhddbfaa.Pa
open Go.RowKit Go.Proofs.YtbkofbcmhddbfaaW.PrintWords Go.Proofs.YtbkofbcmhddbfaaW.PrintLast Go.Proofs.YtbkofbcmhddbfaaW.PrintMore
attribute [local go_sem] max2_int min2_int max_two min_two max_three min_three max_four min_four   -- for this text's walks alone
set_option linter.unusedVariables false
set_option linter.unusedSimpArgs false

/-! ### AUX cells -/
theorem cells7 {w : World} {g : Nat} {t : TypeId} {v0 v1 v2 v3 v4 v5 v6 : Value} (h : w.heap[g]? = some (.cells #[v0, v1, v2, v3, v4, v5, v6] t (0, 0))) :
  w.cell? ⟨g, 0, none⟩ = some v0 ∧ w.cell? ⟨g, 1, none⟩ = some v1 ∧ w.cell? ⟨g, 2, none⟩ = some v2 ∧ w.cell? ⟨g, 3, none⟩ = some v3 ∧ w.cell? ⟨g, 4, none⟩ = some v4 ∧ w.cell? ⟨g, 5, none⟩ = some v5 ∧ w.cell? ⟨g, 6, none⟩ = some v6 :=
 ⟨(blk_cell h 0).trans rfl, (blk_cell h 1).trans rfl, (blk_cell h 2).trans rfl, (blk_cell h 3).trans rfl, (blk_cell h 4).trans rfl, (blk_cell h 5).trans rfl, (blk_cell h 6).trans rfl⟩

end Go.Proofs.Ytbkofbcmhddbfaa.Pa

namespace Go.Proofs.Ytbkofbcmhddbfaa.Pa
open Go.RowKit Go.Proofs.YtbkofbcmhddbfaaW.PrintWords Go.Proofs.YtbkofbcmhddbfaaW.PrintLast Go.Proofs.YtbkofbcmhddbfaaW.PrintMore
attribute [local go_sem] max2_int min2_int max_two min_two max_three min_three max_four min_four   -- for this text's walks alone
set_option linter.unusedVariables false
set_option linter.unusedSimpArgs false

/-! ### AUX circ -/
/-- A number lies between two others. -/
def inB (x l u : Int) : Bool := decide (l ≤ x) && decide (x ≤ u)
theorem inB_iff {x l u : Int} : inB x l u = true ↔ l ≤ x ∧ x ≤ u := by
 unfold inB
 simp
/-- A list rises behind a number, within 0 and a number. -/
def risesFrom (hi : Int) : Option Int → List Int → Bool
 | _, [] => true
 | p, x :: l => inB x 0 hi && (match p with | none => true | some q => decide (q < x)) && risesFrom hi (some x) l
def risesB (l : List Int) (hi : Int) : Bool := risesFrom hi none l
/-- The element ahead of a place. -/
def prev (l : List Int) (i : Nat) : Option Int := if i = 0 then none else some (l.getD (i - 1) 0)
/-- A gate is one of a circuit of so many registers, at its place. -/
def gateB (n i : Int) (g : S36) : Bool := inB g.f1 0 100 && inB g.f0 0 g.f1 && !decide (g.f2.length = 0) && risesB g.f2 (n + i - 1)
def gatesB (n : Int) : Nat → List S36 → Bool
 | _, [] => true
 | i, g :: l => gateB n (i : Int) g && gatesB n (i + 1) l
def validB (n : Int) (gates : List S36) (data : List Int) (a3 a4 a5 a6 : Int) : Bool :=
 inB n 1 6 && decide (gates.length ≤ 10) && decide ((data.length : Int) = n) && inB a3 0 100 && inB a4 0 100 && (inB a6 0 100 && inB a5 0 a6) && gatesB n 0 gates && data.all fun x => inB x 0 (n + gates.length - 1)
theorem rd_nth {l : List Int} {i : Nat} (h : i < l.length) : rd l (i : Int) = l[i] := by
 unfold rd
 rw [List.getD_eq_getElem?_getD, Int.toNat_natCast, List.getElem?_eq_getElem h]
 rfl
theorem wrap_in {x : Int} (h0 : -9223372036854775808 ≤ x) (h1 : x ≤ 9223372036854775807) : wrap64 x = x := by
 unfold wrap64
 omega
theorem prev_succ {l : List Int} {i : Nat} (h : i < l.length) : prev l (i + 1) = some l[i] := by
 unfold prev
 rw [if_neg (by omega), Nat.add_sub_cancel, List.getD_eq_getElem?_getD, List.getElem?_eq_getElem h]
 rfl
theorem rises_step {l : List Int} {i : Nat} (hi : Int) (h : i < l.length) : risesFrom hi (prev l i) (l.drop i) = (inB l[i] 0 hi && (decide (i = 0) || decide (l.getD (i - 1) 0 < l[i])) && risesFrom hi (prev l (i + 1)) (l.drop (i + 1))) := by
 rw [List.drop_eq_getElem_cons h, prev_succ h]
 unfold prev
 by_cases e : i = 0
 ·simp [risesFrom, e]
 ·simp [risesFrom, e]
theorem gates_step (n : Int) {l : List S36} {i : Nat} (h : i < l.length) : gatesB n i (l.drop i) = (gateB n (i : Int) (rd_T36 l (i : Int)) && gatesB n (i + 1) (l.drop (i + 1))) := by
 rw [List.drop_eq_getElem_cons h]
 unfold rd_T36
 rw [List.getD_eq_getElem?_getD, Int.toNat_natCast, List.getElem?_eq_getElem h]
 rfl

end Go.Proofs.Ytbkofbcmhddbfaa.Pa

namespace Go.Proofs.Ytbkofbcmhddbfaa.Pa
open Go.RowKit Go.Proofs.YtbkofbcmhddbfaaW.PrintWords Go.Proofs.YtbkofbcmhddbfaaW.PrintLast Go.Proofs.YtbkofbcmhddbfaaW.PrintMore
attribute [local go_sem] max2_int min2_int max_two min_two max_three min_three max_four min_four   -- for this text's walks alone
set_option linter.unusedVariables false
set_option linter.unusedSimpArgs false

/-! ### spec_l00In: function 50 -/
def spec_l00In.f (a0 : Int) (a1 : Int) (a2 : Int) : Option (Bool) := if a0 ≥ a1 then (some (decide (a0 ≤ a2))) else (some false)
end Go.Proofs.Ytbkofbcmhddbfaa.Pa

namespace Go.Proofs.Ytbkofbcmhddbfaa.Pa
open Go.RowKit Go.Proofs.YtbkofbcmhddbfaaW.PrintWords Go.Proofs.YtbkofbcmhddbfaaW.PrintLast Go.Proofs.YtbkofbcmhddbfaaW.PrintMore
attribute [local go_sem] max2_int min2_int max_two min_two max_three min_three max_four min_four   -- for this text's walks alone
set_option linter.unusedVariables false
set_option linter.unusedSimpArgs false

/-! ### spec_l06Delays: function 56 -/
def spec_l06Delays.f (a0 : Int) (a1 : Int) : Option (Bool) := (spec_l00In.f a1 0 100).bind fun t310 => (if t310 = true then ((spec_l00In.f a0 0 a1).bind fun t311 => (some t311)) else (some false))
end Go.Proofs.Ytbkofbcmhddbfaa.Pa

namespace Go.Proofs.Ytbkofbcmhddbfaa.Pa
open Go.RowKit Go.Proofs.YtbkofbcmhddbfaaW.PrintWords Go.Proofs.YtbkofbcmhddbfaaW.PrintLast Go.Proofs.YtbkofbcmhddbfaaW.PrintMore
attribute [local go_sem] max2_int min2_int max_two min_two max_three min_three max_four min_four   -- for this text's walks alone
set_option linter.unusedVariables false
set_option linter.unusedSimpArgs false

/-! ### spec_l00Rises: function 57 -/
def spec_l00Rises.l0 : Nat → List Int → Int → Int → Int → Option (Bool)
 | 0, _, _, _, _ => none
 | k + 1, x0, x1, x2, x7 => if x7 < (x0.length : Int) then (if 0 ≤ x7 then ((spec_l00In.f (rd x0 x7) x1 x2).bind fun t313 => (if t313 = true then (if x7 > 0 then (if 0 ≤ (wrap64 (x7 - 1)) then (if (wrap64 (x7 - 1)) < (x0.length : Int) then (if (rd x0 (wrap64 (x7 - 1))) ≥ (rd x0 x7) then (some false) else (spec_l00Rises.l0 k x0 x1 x2 (wrap64 (x7 + 1)))) else (none)) else (none)) else (spec_l00Rises.l0 k x0 x1 x2 (wrap64 (x7 + 1)))) else (some false))) else (none)) else (some true)
def spec_l00Rises.f (k : Nat) (l0 : List Int) (a1 : Int) (a2 : Int) : Option (Bool) := spec_l00Rises.l0 k l0 a1 a2 0
end Go.Proofs.Ytbkofbcmhddbfaa.Pa

namespace Go.Proofs.Ytbkofbcmhddbfaa.Pa
open Go.RowKit Go.Proofs.YtbkofbcmhddbfaaW.PrintWords Go.Proofs.YtbkofbcmhddbfaaW.PrintLast Go.Proofs.YtbkofbcmhddbfaaW.PrintMore
attribute [local go_sem] max2_int min2_int max_two min_two max_three min_three max_four min_four   -- for this text's walks alone
set_option linter.unusedVariables false
set_option linter.unusedSimpArgs false

/-- A state of type 27 at block g of W; what its slices lead to came in by w0. -/
def IsS27 (w0 W : World) (g : Nat) (f0 : Int) (f1 : List (S36)) (f2 : List Int) (f3 : Int) (f4 : Int) (f5 : Int) (f6 : Int) : Prop := ∃ A1 c1, ∃ A2 c2, W.heap[g]? = some (.cells #[.int .i64 f0, .slice A1 f1.length c1, .slice A2 f2.length c2, .int .i64 f3, .int .i64 f4, .int .i64 f5, .int .i64 f6] 27 (0, 0)) ∧ w0.heap.size ≤ g ∧ Kd.C k36 w0 A1 f1.length f1 ∧ Kd.C (Kd.int .i64) w0 A2 f2.length f2
/-! ### spec_l06Is: function 49 -/
def spec_l06Is.f (s0_0 : Int) (s0_1 : List (S36)) (s0_2 : List Int) (s0_3 s0_4 s0_5 s0_6 : Int) : Option (Bool × Int × Int × Int × Int × Int) := some (validB s0_0 s0_1 s0_2 s0_3 s0_4 s0_5 s0_6, s0_0, s0_3, s0_4, s0_5, s0_6)
end Go.Proofs.Ytbkofbcmhddbfaa.Pa

namespace Go.Proofs.Ytbkofbcmhddbfaa.Pa
open Go.RowKit Go.Proofs.YtbkofbcmhddbfaaW.PrintWords Go.Proofs.YtbkofbcmhddbfaaW.PrintLast Go.Proofs.YtbkofbcmhddbfaaW.PrintMore
attribute [local go_sem] max2_int min2_int max_two min_two max_three min_three max_four min_four   -- for this text's walks alone
set_option linter.unusedVariables false
set_option linter.unusedSimpArgs false

/-! ### impl_within: function 27 -/
def impl_within.f (a0 : Int) (a1 : Int) (a2 : Int) : Option (Bool) := if a0 ≥ a1 then (some (decide (a0 ≤ a2))) else (some false)
set_option maxHeartbeats 8000000 in
set_option maxRecDepth 100000 in
theorem impl_within.calls (a0 : Int) (a1 : Int) (a2 : Int) (r : Bool) (w : World) (h : impl_within.f a0 a1 a2 = some r) :
  Calls Try.prog 27 #[.int .i64 a0, .int .i64 a1, .int .i64 a2] w fun e w' => e = .returned (.bool r) ∧ Drawn0 w w' := by
 have H : (if a0 ≥ a1 then (some (decide (a0 ≤ a2))) else (some false)) = some r := h
 clear h
 by_cases c4 : a0 ≥ a1
 ·rw [if_pos c4] at H
  have c4b0 : decide (a1 ≤ a0) = true := decide_eq_true c4
  clear c4
  obtain rfl := Option.some.inj H
  go_enter Try.func27, Try.ntmps27
  go_wp2
  go_ret
  exact ⟨by first | rfl | (simp; done) | (simp [*]; done), by repeat (first | exact Drawn0.refl _ | apply Drawn0.step)⟩
 ·rw [if_neg c4] at H
  have c4b0 : decide (a1 ≤ a0) = false := decide_eq_false c4
  clear c4
  obtain rfl := Option.some.inj H
  go_enter Try.func27, Try.ntmps27
  go_wp2
  go_ret
  exact ⟨by first | rfl | (simp; done) | (simp [*]; done), by repeat (first | exact Drawn0.refl _ | apply Drawn0.step)⟩

end Go.Proofs.Ytbkofbcmhddbfaa.Pa

namespace Go.Proofs.Ytbkofbcmhddbfaa.Pa
open Go.RowKit Go.Proofs.YtbkofbcmhddbfaaW.PrintWords Go.Proofs.YtbkofbcmhddbfaaW.PrintLast Go.Proofs.YtbkofbcmhddbfaaW.PrintMore
attribute [local go_sem] max2_int min2_int max_two min_two max_three min_three max_four min_four   -- for this text's walks alone
set_option linter.unusedVariables false
set_option linter.unusedSimpArgs false

/-! ### impl_isDelay: function 28 -/
def impl_isDelay.f (a0 : Int) : Option (Bool) := (impl_within.f a0 0 100).bind fun t194 => (some t194)
set_option maxHeartbeats 8000000 in
set_option maxRecDepth 100000 in
theorem impl_isDelay.calls (a0 : Int) (r : Bool) (w : World) (h : impl_isDelay.f a0 = some r) :
  Calls Try.prog 28 #[.int .i64 a0] w fun e w' => e = .returned (.bool r) ∧ Drawn0 w w' := by
 have H : ((impl_within.f a0 0 100).bind fun t194 => (some t194)) = some r := h
 clear h
 replace H := Option.bind_eq_some_iff.mp H
 obtain ⟨t194, A20, H⟩ := H
 replace H : (some t194) = some r := H
 have A2 := Aside0.mk A20
 clear A20
 obtain rfl := Option.some.inj H
 go_enter Try.func28, Try.ntmps28
 go_wp2_with (first | ((with_reducible refine gate_callee (f := 27) rfl ?_); refine goesL_ (some 4) rfl rfl Try.func27 (by kernel_rfl) rfl #[.int .i64 a0, .int .i64 0, .int .i64 100] rfl (by (try simp only [List.map_toArray, List.map_cons, List.map_nil]); first | done | rfl | (simp only [List.length_drop, List.length_take]; rfl)) ?_; (with_reducible refine (impl_within.calls a0 0 100 t194 _ A2.out).mono ?_); rintro e w' ⟨rfl, ⟨nd, rfl⟩⟩; refine ⟨_, rfl, ?_⟩))
 go_ret
 exact ⟨by first | rfl | (simp; done) | (simp [*]; done), by repeat (first | exact Drawn0.refl _ | apply Drawn0.step)⟩

end Go.Proofs.Ytbkofbcmhddbfaa.Pa

namespace Go.Proofs.Ytbkofbcmhddbfaa.Pa
open Go.RowKit Go.Proofs.YtbkofbcmhddbfaaW.PrintWords Go.Proofs.YtbkofbcmhddbfaaW.PrintLast Go.Proofs.YtbkofbcmhddbfaaW.PrintMore
attribute [local go_sem] max2_int min2_int max_two min_two max_three min_three max_four min_four   -- for this text's walks alone
set_option linter.unusedVariables false
set_option linter.unusedSimpArgs false

/-! ### impl_isSet: function 29 -/
def impl_isSet.l0 : Nat → List Int → Int → Int → List Int → Int → Int → Option (Bool)
 | 0, _, _, _, _, _, _ => none
 | k + 1, x0, x1, x2, x9, x10, x11 => if x11 < x10 then (if 0 ≤ x11 then (if x11 < (x9.length : Int) then ((impl_within.f (rd x9 x11) x1 x2).bind fun t196 => (if t196 = true then (if x11 > 0 then (if 0 ≤ (wrap64 (x11 - 1)) then (if (wrap64 (x11 - 1)) < (x0.length : Int) then (if (rd x0 (wrap64 (x11 - 1))) ≥ (rd x9 x11) then (some false) else (impl_isSet.l0 k x0 x1 x2 x9 x10 (wrap64 (x11 + 1)))) else (none)) else (none)) else (impl_isSet.l0 k x0 x1 x2 x9 x10 (wrap64 (x11 + 1)))) else (some false))) else (none)) else (none)) else (some true)
def impl_isSet.f (k : Nat) (l0 : List Int) (a1 : Int) (a2 : Int) : Option (Bool) := impl_isSet.l0 k l0 a1 a2 l0 (l0.length : Int) 0
set_option maxHeartbeats 8000000 in
set_option maxRecDepth 100000 in
theorem impl_isSet.calls (k : Nat) (A0 : Option Addr) (c0 : Nat) (l0 : List Int) (a1 : Int) (a2 : Int) (r : Bool) (w : World) (hr0 : Kd.C (Kd.int .i64) w A0 l0.length l0) (hc0 : l0.length ≤ c0) (h : impl_isSet.f k l0 a1 a2 = some r) :
  Calls Try.prog 29 #[.slice A0 l0.length c0, .int .i64 a1, .int .i64 a2] w fun e w' => e = .returned (.bool r) ∧ Drawn0 w w' := by
 have HR0 := Aside0.mk hr0
 have HC0 := Aside0.mk hc0
 clear hr0 hc0
 have H : (impl_isSet.l0 k l0 a1 a2 l0 (l0.length : Int) 0) = some r := h
 clear h
 have H' := Aside0.mk H
 clear H
 go_enter Try.func29, Try.ntmps29
 go_wp2
 go_loopg [11] k (fun kq v11 w' => ∃ (x11_1 : Int), v11 = .int .i64 x11_1 ∧ Aside0 (impl_isSet.l0 kq l0 a1 a2 l0 (l0.length : Int) x11_1 = some r) ∧ Aside0 (kq ≤ k) ∧ Drawn0 w w')
 case atStart => exact ⟨(0), (by first | rfl | (simp; done) | (simp [*]; done)), H', ⟨Nat.le_refl _⟩, by repeat (first | exact Drawn0.refl _ | apply Drawn0.step)⟩
 case round =>
  clear H'
  try clear c2
  try clear p2
  obtain ⟨x11_1, rfl, HA, HK1, ⟨m1, rfl⟩⟩ := hrel
  cases gk with
  | zero => exact absurd HA.out (by simp [impl_isSet.l0])
  | succ k1 =>
   have H := HA.out
   clear HA
   simp only [impl_isSet.l0] at H
   by_cases c4 : x11_1 < (l0.length : Int)
   ·rw [if_pos c4] at H
    have c4b0 : decide (x11_1 < (l0.length : Int)) = true := decide_eq_true c4
    clear c4
    by_cases c5 : 0 ≤ x11_1
    ·rw [if_pos c5] at H
     have c5b0 : decide (0 ≤ x11_1) = true := decide_eq_true c5
     clear c5
     by_cases c6 : x11_1 < (l0.length : Int)
     ·rw [if_pos c6] at H
      have c6b0 : decide (x11_1 < (l0.length : Int)) = true := decide_eq_true c6
      clear c6
      replace H := Option.bind_eq_some_iff.mp H
      obtain ⟨t196, A70, H⟩ := H
      replace H : (if t196 = true then (if x11_1 > 0 then (if 0 ≤ (wrap64 (x11_1 - 1)) then (if (wrap64 (x11_1 - 1)) < (l0.length : Int) then (if (rd l0 (wrap64 (x11_1 - 1))) ≥ (rd l0 x11_1) then (some false) else (impl_isSet.l0 k1 l0 a1 a2 l0 (l0.length : Int) (wrap64 (x11_1 + 1)))) else (none)) else (none)) else (impl_isSet.l0 k1 l0 a1 a2 l0 (l0.length : Int) (wrap64 (x11_1 + 1)))) else (some false)) = some r := H
      have A7 := Aside0.mk A70
      clear A70
      by_cases c8 : t196 = true
      ·subst c8
       have H1 : (if x11_1 > 0 then (if 0 ≤ (wrap64 (x11_1 - 1)) then (if (wrap64 (x11_1 - 1)) < (l0.length : Int) then (if (rd l0 (wrap64 (x11_1 - 1))) ≥ (rd l0 x11_1) then (some false) else (impl_isSet.l0 k1 l0 a1 a2 l0 (l0.length : Int) (wrap64 (x11_1 + 1)))) else (none)) else (none)) else (impl_isSet.l0 k1 l0 a1 a2 l0 (l0.length : Int) (wrap64 (x11_1 + 1)))) = some r := by rw [if_pos rfl] at H; exact H
       clear H
       have H := H1
       clear H1
       by_cases c9 : x11_1 > 0
       ·rw [if_pos c9] at H
        have c9b0 : decide (0 < x11_1) = true := decide_eq_true c9
        clear c9
        obtain ⟨ji10, hji10⟩ : ∃ j_ : Int, (wrap64 (x11_1 - 1)) = j_ := ⟨_, rfl⟩
        replace H : (if 0 ≤ (ji10) then (if (ji10) < (l0.length : Int) then (if (rd l0 (ji10)) ≥ (rd l0 x11_1) then (some false) else (impl_isSet.l0 k1 l0 a1 a2 l0 (l0.length : Int) (wrap64 (x11_1 + 1)))) else (none)) else (none)) = some r := by first | (rw [hji10] at H; exact H) | (simp only [hji10] at H ⊢; exact H)
        (try rw [hji10] at A7)
        have hji10w : (IntKind.i64.wrap (x11_1 - 1)) = ji10 := (i64_w _).trans hji10
        by_cases c11 : 0 ≤ (ji10)
        ·rw [if_pos c11] at H
         have c11b0 : decide (0 ≤ (ji10)) = true := decide_eq_true c11
         clear c11
         by_cases c12 : (ji10) < (l0.length : Int)
         ·rw [if_pos c12] at H
          have c12b0 : decide ((ji10) < (l0.length : Int)) = true := decide_eq_true c12
          clear c12
          by_cases c13 : (rd l0 (ji10)) ≥ (rd l0 x11_1)
          ·rw [if_pos c13] at H
           have c13b0 : decide ((rd l0 x11_1) ≤ (rd l0 (ji10))) = true := decide_eq_true c13
           clear c13
           obtain rfl := Option.some.inj H
           have p195 : 0 ≤ (x11_1 : Int) := of_decide_eq_true (by with_reducible assumption)
           have q195 : x11_1 < (l0.length : Int) := of_decide_eq_true (by with_reducible assumption)
           obtain ⟨ad195, e195, hx195_0⟩ := Kd.at_int HR0.out x11_1 p195 q195
           cases e195
           replace p195 := eq_true p195
           replace q195 := eq_true q195
           go_wp2_with (first | ((with_reducible refine gate_callee (f := 27) rfl ?_); refine goesL_ (some 19) rfl rfl Try.func27 (by kernel_rfl) rfl #[.int .i64 (rd l0 x11_1), .int .i64 a1, .int .i64 a2] rfl (by (try simp only [List.map_toArray, List.map_cons, List.map_nil]); first | done | rfl | (simp only [List.length_drop, List.length_take]; rfl)) ?_; (with_reducible refine (impl_within.calls (rd l0 x11_1) a1 a2 true _ A7.out).mono ?_); rintro e w' ⟨rfl, ⟨nd, rfl⟩⟩; refine ⟨_, rfl, ?_⟩; have p197 : 0 ≤ ((ji10) : Int) := of_decide_eq_true (by with_reducible assumption); have q197 : (ji10) < (l0.length : Int) := of_decide_eq_true (by with_reducible assumption); obtain ⟨ad197, e197, hx197_0⟩ := Kd.at_int HR0.out (ji10) p197 q197; obtain rfl : ad195 = ad197 := (by injection e197); replace p197 := eq_true p197; replace q197 := eq_true q197))
           go_ret
           exact ⟨by first | rfl | (simp; done) | (simp only [← hji10] <;> (first | rfl | simp)) | (simp [*]; done), by repeat (first | exact Drawn0.refl _ | apply Drawn0.step)⟩
          ·rw [if_neg c13] at H
           have c13b0 : decide ((rd l0 x11_1) ≤ (rd l0 (ji10))) = false := decide_eq_false c13
           clear c13
           have H' := Aside0.mk H
           clear H
           have p195 : 0 ≤ (x11_1 : Int) := of_decide_eq_true (by with_reducible assumption)
           have q195 : x11_1 < (l0.length : Int) := of_decide_eq_true (by with_reducible assumption)
           obtain ⟨ad195, e195, hx195_0⟩ := Kd.at_int HR0.out x11_1 p195 q195
           cases e195
           replace p195 := eq_true p195
           replace q195 := eq_true q195
           go_wp2_with (first | ((with_reducible refine gate_callee (f := 27) rfl ?_); refine goesL_ (some 19) rfl rfl Try.func27 (by kernel_rfl) rfl #[.int .i64 (rd l0 x11_1), .int .i64 a1, .int .i64 a2] rfl (by (try simp only [List.map_toArray, List.map_cons, List.map_nil]); first | done | rfl | (simp only [List.length_drop, List.length_take]; rfl)) ?_; (with_reducible refine (impl_within.calls (rd l0 x11_1) a1 a2 true _ A7.out).mono ?_); rintro e w' ⟨rfl, ⟨nd, rfl⟩⟩; refine ⟨_, rfl, ?_⟩; have p197 : 0 ≤ ((ji10) : Int) := of_decide_eq_true (by with_reducible assumption); have q197 : (ji10) < (l0.length : Int) := of_decide_eq_true (by with_reducible assumption); obtain ⟨ad197, e197, hx197_0⟩ := Kd.at_int HR0.out (ji10) p197 q197; obtain rfl : ad195 = ad197 := (by injection e197); replace p197 := eq_true p197; replace q197 := eq_true q197))
           go_roundg k1
           case measure => have := HK1.out; omega
           case rel => exact ⟨(wrap64 (x11_1 + 1)), (by first | rfl | (simp; done) | (simp [*]; done)), H', ⟨by have := HK1.out; omega⟩, by repeat (first | exact Drawn0.refl _ | apply Drawn0.step)⟩
         ·rw [if_neg c12] at H
          exact absurd H (by simp)
        ·rw [if_neg c11] at H
         exact absurd H (by simp)
       ·rw [if_neg c9] at H
        have c9b0 : decide (0 < x11_1) = false := decide_eq_false c9
        clear c9
        have H' := Aside0.mk H
        clear H
        have p195 : 0 ≤ (x11_1 : Int) := of_decide_eq_true (by with_reducible assumption)
        have q195 : x11_1 < (l0.length : Int) := of_decide_eq_true (by with_reducible assumption)
        obtain ⟨ad195, e195, hx195_0⟩ := Kd.at_int HR0.out x11_1 p195 q195
        cases e195
        replace p195 := eq_true p195
        replace q195 := eq_true q195
        go_wp2_with (first | ((with_reducible refine gate_callee (f := 27) rfl ?_); refine goesL_ (some 19) rfl rfl Try.func27 (by kernel_rfl) rfl #[.int .i64 (rd l0 x11_1), .int .i64 a1, .int .i64 a2] rfl (by (try simp only [List.map_toArray, List.map_cons, List.map_nil]); first | done | rfl | (simp only [List.length_drop, List.length_take]; rfl)) ?_; (with_reducible refine (impl_within.calls (rd l0 x11_1) a1 a2 true _ A7.out).mono ?_); rintro e w' ⟨rfl, ⟨nd, rfl⟩⟩; refine ⟨_, rfl, ?_⟩))
        go_roundg k1
        case measure => have := HK1.out; omega
        case rel => exact ⟨(wrap64 (x11_1 + 1)), (by first | rfl | (simp; done) | (simp [*]; done)), H', ⟨by have := HK1.out; omega⟩, by repeat (first | exact Drawn0.refl _ | apply Drawn0.step)⟩
      ·replace c8 := Bool.eq_false_iff.mpr c8
       subst c8
       have H1 : (some false) = some r := by rw [if_neg (show ¬ (false = true) by decide)] at H; exact H
       clear H
       have H := H1
       clear H1
       obtain rfl := Option.some.inj H
       have p195 : 0 ≤ (x11_1 : Int) := of_decide_eq_true (by with_reducible assumption)
       have q195 : x11_1 < (l0.length : Int) := of_decide_eq_true (by with_reducible assumption)
       obtain ⟨ad195, e195, hx195_0⟩ := Kd.at_int HR0.out x11_1 p195 q195
       cases e195
       replace p195 := eq_true p195
       replace q195 := eq_true q195
       go_wp2_with (first | ((with_reducible refine gate_callee (f := 27) rfl ?_); refine goesL_ (some 19) rfl rfl Try.func27 (by kernel_rfl) rfl #[.int .i64 (rd l0 x11_1), .int .i64 a1, .int .i64 a2] rfl (by (try simp only [List.map_toArray, List.map_cons, List.map_nil]); first | done | rfl | (simp only [List.length_drop, List.length_take]; rfl)) ?_; (with_reducible refine (impl_within.calls (rd l0 x11_1) a1 a2 false _ A7.out).mono ?_); rintro e w' ⟨rfl, ⟨nd, rfl⟩⟩; refine ⟨_, rfl, ?_⟩))
       go_ret
       exact ⟨by first | rfl | (simp; done) | (simp [*]; done), by repeat (first | exact Drawn0.refl _ | apply Drawn0.step)⟩
     ·rw [if_neg c6] at H
      exact absurd H (by simp)
    ·rw [if_neg c5] at H
     exact absurd H (by simp)
   ·rw [if_neg c4] at H
    have c4b0 : decide (x11_1 < (l0.length : Int)) = false := decide_eq_false c4
    clear c4
    obtain rfl := Option.some.inj H
    go_wp2
    go_ret
    exact ⟨by first | rfl | (simp; done) | (simp [*]; done), by repeat (first | exact Drawn0.refl _ | apply Drawn0.step)⟩

end Go.Proofs.Ytbkofbcmhddbfaa.Pa

namespace Go.Proofs.Ytbkofbcmhddbfaa.Pa
open Go.RowKit Go.Proofs.YtbkofbcmhddbfaaW.PrintWords Go.Proofs.YtbkofbcmhddbfaaW.PrintLast Go.Proofs.YtbkofbcmhddbfaaW.PrintMore
attribute [local go_sem] max2_int min2_int max_two min_two max_three min_three max_four min_four   -- for this text's walks alone
set_option linter.unusedVariables false
set_option linter.unusedSimpArgs false

/-! ### AUX firstOf -/
/-- The place of the first element for which a test holds, or -1. -/
def firstOf {α : Type} (p : α → Bool) : List α → Int → Int
 | [], _ => -1
 | x :: l, i => if p x = true then i else firstOf p l (i + 1)
theorem firstOf_step {α : Type} (p : α → Bool) (x : α) (l : List α) (i : Int) : firstOf p (x :: l) i = if p x = true then i else firstOf p l (i + 1) := rfl
theorem firstOf_iff {α : Type} (p : α → Bool) (l : List α) : ∀ i, 0 ≤ i → (0 ≤ firstOf p l i ↔ l.any p = true) := by
 induction l with
 | nil => intro i hi; simp [firstOf]
 | cons x l ih =>
  intro i hi
  rw [firstOf_step, List.any_cons]
  by_cases hx : p x = true
  ·rw [if_pos hx, hx]
   simp [hi]
  ·rw [if_neg hx, Bool.eq_false_iff.mpr hx]
   simpa using ih (i + 1) (by omega)
theorem firstOf_any {α : Type} (p : α → Bool) (l : List α) : decide (0 ≤ firstOf p l 0) = l.any p := by
 rw [Bool.eq_iff_iff, decide_eq_true_iff]
 exact firstOf_iff p l 0 (by omega)
end Go.Proofs.Ytbkofbcmhddbfaa.Pa

namespace Go.Proofs.Ytbkofbcmhddbfaa.Pa
open Go.RowKit Go.Proofs.YtbkofbcmhddbfaaW.PrintWords Go.Proofs.YtbkofbcmhddbfaaW.PrintLast Go.Proofs.YtbkofbcmhddbfaaW.PrintMore
attribute [local go_sem] max2_int min2_int max_two min_two max_three min_three max_four min_four   -- for this text's walks alone
set_option linter.unusedVariables false
set_option linter.unusedSimpArgs false

/-! ### AUX containsI -/
set_option maxHeartbeats 2000000 in
set_option maxRecDepth 100000 in
theorem indexI.calls (A : Option Addr) (c : Nat) (l : List Int) (g : Nat) (lb : Array Value) (p : Int → Bool) (w : World) (hr : Kd.C (Kd.int .i64) w A l.length l)
  (eg : ∀ args W, (callFunc g args).run Try.prog W = .ok (.enter g args) W)
  (hp : ∀ (W : World) (x : Int), x ∈ l → Below w.heap.size w W → Calls Try.prog g (#[.int .i64 x] ++ lb) W fun e w' => e = .returned (.bool (p x)) ∧ Below w.heap.size w w') :
  Calls Try.prog 47 #[.slice A l.length c, .func (.func g) #[] lb] w fun e w' => e = .returned (.int .i64 (firstOf p l 0)) ∧ Below w.heap.size w w' := by
 have HR := Aside0.mk hr
 have hlen : l.length ≤ 9223372036854775807 := hr.2.1
 clear hr
 have HP := Aside0.mk hp
 clear hp
 go_enter Try.func47, Try.ntmps47
 go_wp2
 go_loopg [5, 8] l.length (fun gg _ s8 wr => ∃ x : Int, s8 = .int .i64 x ∧ Aside0 (0 ≤ x ∧ x ≤ l.length ∧ (l.length : Int) - x ≤ gg) ∧ Aside0 (Below w.heap.size w wr) ∧ Aside0 (firstOf p l 0 = firstOf p (l.drop x.toNat) x))
 case atStart => exact ⟨0, rfl, ⟨by omega⟩, ⟨Below.refl _ w⟩, ⟨rfl⟩⟩
 case round =>
  obtain ⟨x, rfl, HX, HB, HF⟩ := hrel
  by_cases hlt : x < (l.length : Int)
  ·have c0 : decide (0 ≤ x) = true := decide_eq_true HX.out.1
   have c1 : decide (x < (l.length : Int)) = true := decide_eq_true hlt
   have HL := Aside0.mk hlt
   clear hlt
   obtain ⟨ad, e, h0⟩ := Kd.at_int HR.out x HX.out.1 HL.out
   cases e
   replace h0 := (HB.out.cell (World.block_lt_of_cell? w _ h0)).trans h0
   have hmem : rd l x ∈ l := by
    have hx := HX.out
    have hl := HL.out
    unfold rd
    rw [List.getD_eq_getElem?_getD, List.getElem?_eq_getElem (by omega)]
    exact List.getElem_mem _
   have hcall := HP.out wr (rd l x) hmem HB.out
   clear hmem
   have hd : l.drop x.toNat = rd l x :: l.drop (x + 1).toNat := by
    have hx := HX.out
    have hl := HL.out
    rw [List.drop_eq_getElem_cons (by omega), show (x + 1).toNat = x.toNat + 1 from by omega]
    unfold rd
    rw [List.getD_eq_getElem?_getD, List.getElem?_eq_getElem (by omega)]
    rfl
   have HD := Aside0.mk hd
   clear hd
   cases hq : p (rd l x) with
   | true =>
    rw [hq] at hcall
    have HQ := Aside0.mk hq
    clear hq
    have HC := Aside0.mk hcall
    clear hcall
    have p0 := eq_true HX.out.1
    have p1 := eq_true HL.out
    go_wp2_with (go_at_fn g; refine HC.out.mono ?_; rintro e w' ⟨rfl, hb'⟩)
    go_ret
    refine ⟨?_, hb'⟩
    rw [HF.out, HD.out, firstOf_step, if_pos HQ.out]
    rfl
   | false =>
    rw [hq] at hcall
    have HQ := Aside0.mk hq
    clear hq
    have HC := Aside0.mk hcall
    clear hcall
    have p0 := eq_true HX.out.1
    have p1 := eq_true HL.out
    go_wp2_with (go_at_fn g; refine HC.out.mono ?_; rintro e w' ⟨rfl, hb'⟩)
    have hx1 := HX.out
    have hl1 := HL.out
    go_roundg ((l.length : Int) - (x + 1)).toNat
    case measure => omega
    case rel =>
     have hw1 : wrap64 (x + 1) = x + 1 := by unfold wrap64; omega
     refine ⟨x + 1, by rw [hw1], ⟨by omega⟩, ⟨hb'⟩, ⟨?_⟩⟩
     rw [HF.out, HD.out, firstOf_step, if_neg (by rw [HQ.out]; simp)]
  ·have c1 : decide (x < (l.length : Int)) = false := decide_eq_false hlt
   have HL := Aside0.mk hlt
   clear hlt
   go_wp2
   go_ret
   refine ⟨?_, HB.out⟩
   have hx := HX.out
   have hl := HL.out
   rw [HF.out, List.drop_of_length_le (by omega)]
   rfl
set_option maxHeartbeats 1000000 in
theorem containsI.calls (A : Option Addr) (c : Nat) (l : List Int) (g : Nat) (lb : Array Value) (p : Int → Bool) (w : World) (hr : Kd.C (Kd.int .i64) w A l.length l)
  (eg : ∀ args W, (callFunc g args).run Try.prog W = .ok (.enter g args) W)
  (hp : ∀ (W : World) (x : Int), x ∈ l → Below w.heap.size w W → Calls Try.prog g (#[.int .i64 x] ++ lb) W fun e w' => e = .returned (.bool (p x)) ∧ Below w.heap.size w w') :
  Calls Try.prog 30 #[.slice A l.length c, .func (.func g) #[] lb] w fun e w' => e = .returned (.bool (l.any p)) ∧ Below w.heap.size w w' := by
 have hcall := Aside0.mk (indexI.calls A c l g lb p w hr eg hp)
 clear hp hr eg
 rw [← firstOf_any p l]
 generalize firstOf p l 0 = r at hcall ⊢
 go_enter Try.func30, Try.ntmps30
 go_wp2_with (go_at_call 47; refine hcall.out.mono ?_; rintro e w' ⟨rfl, hb'⟩)
 go_ret
 exact ⟨rfl, hb'⟩

end Go.Proofs.Ytbkofbcmhddbfaa.Pa

namespace Go.Proofs.Ytbkofbcmhddbfaa.Pa
open Go.RowKit Go.Proofs.YtbkofbcmhddbfaaW.PrintWords Go.Proofs.YtbkofbcmhddbfaaW.PrintLast Go.Proofs.YtbkofbcmhddbfaaW.PrintMore
attribute [local go_sem] max2_int min2_int max_two min_two max_three min_three max_four min_four   -- for this text's walks alone
set_option linter.unusedVariables false
set_option linter.unusedSimpArgs false

/-! ### impl_ValidCircuit: function 10 -/
theorem within_tells (x l u : Int) : impl_within.f x l u = some (inB x l u) := by
 unfold impl_within.f inB
 by_cases h : l ≤ x <;> simp [h]
theorem delay_tells (x : Int) : impl_isDelay.f x = some (inB x 0 100) := by
 unfold impl_isDelay.f
 rw [within_tells]
 rfl
theorem set_loop (l : List Int) (hi : Int) (hl : l.length ≤ 9223372036854775807) (d : Nat) : ∀ (k i : Nat), i + d = l.length → d < k → impl_isSet.l0 k l 0 hi l (l.length : Int) (i : Int) = some (risesFrom hi (prev l i) (l.drop i)) := by
 induction d with
 | zero =>
  intro k i h hk
  obtain ⟨k, rfl⟩ : ∃ m, k = m + 1 := ⟨k - 1, by omega⟩
  simp only [impl_isSet.l0]
  rw [if_neg (by omega), List.drop_of_length_le (by omega)]
  unfold prev
  split <;> rfl
 | succ d ih =>
  intro k i h hk
  obtain ⟨k, rfl⟩ : ∃ m, k = m + 1 := ⟨k - 1, by omega⟩
  have h' : i < l.length := by omega
  have hgo : impl_isSet.l0 k l 0 hi l (l.length : Int) (wrap64 ((i : Int) + 1)) = some (risesFrom hi (prev l (i + 1)) (l.drop (i + 1))) := by
   rw [wrap_in (by omega) (by omega)]
   exact ih k (i + 1) (by omega) (by omega)
  simp only [impl_isSet.l0]
  rw [if_pos (by omega), if_pos (by omega), if_pos (by omega), rd_nth h', within_tells, rises_step hi h', hgo]
  simp only [Option.bind_some]
  cases hb : inB l[i] 0 hi with
  | false => simp
  | true =>
   rw [if_pos rfl]
   by_cases h0 : (i : Int) > 0
   ·have e1 : wrap64 ((i : Int) - 1) = ((i - 1 : Nat) : Int) := by rw [wrap_in (by omega) (by omega)]; omega
    rw [if_pos h0, e1, if_pos (by omega), if_pos (by omega)]
    have e2 : rd l ((i - 1 : Nat) : Int) = l.getD (i - 1) 0 := by unfold rd; rw [Int.toNat_natCast]
    rw [e2]
    by_cases hge : l.getD (i - 1) 0 ≥ l[i]
    ·rw [if_pos hge, decide_eq_false (show ¬ i = 0 by omega), decide_eq_false (show ¬ l.getD (i - 1) 0 < l[i] by omega)]
     rfl
    ·rw [if_neg hge, decide_eq_true (show l.getD (i - 1) 0 < l[i] by omega)]
     simp
   ·rw [if_neg h0, decide_eq_true (show i = 0 by omega)]
    simp
theorem set_tells (l : List Int) (hi : Int) (hl : l.length ≤ 9223372036854775807) : impl_isSet.f (l.length + 1) l 0 hi = some (risesB l hi) := by
 unfold impl_isSet.f
 exact set_loop l hi hl l.length (l.length + 1) 0 (by omega) (by omega)
def impl_ValidCircuit.f (a0_0 : Int) (l0_1 : List S36) (l0_2 : List Int) (a0_3 a0_4 a0_5 a0_6 : Int) : Option Bool := some (validB a0_0 l0_1 l0_2 a0_3 a0_4 a0_5 a0_6)
set_option maxHeartbeats 4000000 in
set_option maxRecDepth 100000 in
/-- The test of a node that ValidCircuit hands on. -/
theorem impl_ValidCircuit.test {g : Nat} {n a3 a4 a5 a6 : Int} {Ag A2 : Option Addr} {mm cg n2 c2 : Nat} (w W : World) (x : Int) (h0 : 1 ≤ n) (h1 : n ≤ 6) (h2 : mm ≤ 10)
  (hbk : w.heap[g]? = some (.cells #[.int .i64 n, .slice Ag mm cg, .slice A2 n2 c2, .int .i64 a3, .int .i64 a4, .int .i64 a5, .int .i64 a6] 27 (0, 0))) (hb : Below w.heap.size w W) :
  Calls Try.prog 31 (#[.int .i64 x] ++ #[.pointer (some ⟨g, 0, none⟩)]) W fun e w' => e = .returned (.bool (!inB x 0 (n + mm - 1))) ∧ Below w.heap.size w w' := by
 have hu := Try.underlying27
 obtain ⟨c0, c1, c2', c3, c4, c5, c6⟩ := cells7 (blk_below hbk hb)
 have HB := Aside0.mk hb
 clear hb hbk
 have HE := Aside0.mk (show wrap64 (wrap64 (n + (mm : Int)) - 1) = n + mm - 1 by rw [wrap_in (x := n + (mm : Int)) (by omega) (by omega), wrap_in (by omega) (by omega)])
 have HQ := Aside0.mk (within_tells x 0 (wrap64 (wrap64 (n + (mm : Int)) - 1)))
 clear h0 h1 h2
 show Calls Try.prog 31 #[.int .i64 x, .pointer (some ⟨g, 0, none⟩)] W _
 go_enter Try.func31, Try.ntmps31
 go_wp2_with (first | (go_at_call 27; refine (impl_within.calls _ _ _ _ _ HQ.out).mono ?_; rintro e w' ⟨rfl, ⟨nd, rfl⟩⟩) | go_in)
 go_ret
 exact ⟨by rw [HE.out]; rfl, HB.out.trans (Below.mono (pw_below_drewN (below_alloc (Below.refl _ _) _) nd) HB.out.size)⟩
theorem validB_no {b : Bool} {n : Int} {gates : List S36} {data : List Int} {a3 a4 a5 a6 : Int} (h : validB n gates data a3 a4 a5 a6 = b) (hf : inB n 1 6 = false ∨ ¬ gates.length ≤ 10 ∨ ¬ (data.length : Int) = n ∨ inB a3 0 100 = false ∨ inB a4 0 100 = false ∨ inB a6 0 100 = false ∨ inB a5 0 a6 = false) : b = false := by
 subst h
 unfold validB
 rcases hf with h | h | h | h | h | h | h <;> simp [h]
theorem validB_yes {b : Bool} {n : Int} {gates : List S36} {data : List Int} {a3 a4 a5 a6 : Int} (h : validB n gates data a3 a4 a5 a6 = b) (h1 : inB n 1 6 = true) (h2 : gates.length ≤ 10) (h3 : (data.length : Int) = n) (h4 : inB a3 0 100 = true) (h5 : inB a4 0 100 = true) (h6 : inB a6 0 100 = true) (h7 : inB a5 0 a6 = true) :
  b = (gatesB n 0 gates && !data.any fun x => !inB x 0 (n + gates.length - 1)) := by
 subst h
 unfold validB
 rw [h1, decide_eq_true h2, decide_eq_true h3, h4, h5, h6, h7, List.all_eq_not_any_not]
 simp
set_option maxHeartbeats 8000000 in
set_option maxRecDepth 100000 in
theorem impl_ValidCircuit.calls (a0_0 : Int) (A0_1 : Option Addr) (c0_1 : Nat) (l0_1 : List (S36)) (A0_2 : Option Addr) (c0_2 : Nat) (l0_2 : List Int) (a0_3 : Int) (a0_4 : Int) (a0_5 : Int) (a0_6 : Int) (r : Bool) (w : World) (hr0_1 : Kd.C k36 w A0_1 l0_1.length l0_1) (hc0_1 : l0_1.length ≤ c0_1) (hr0_2 : Kd.C (Kd.int .i64) w A0_2 l0_2.length l0_2) (hc0_2 : l0_2.length ≤ c0_2) (h : impl_ValidCircuit.f a0_0 l0_1 l0_2 a0_3 a0_4 a0_5 a0_6 = some r) :
  Calls Try.prog 10 #[.agg #[.int .i64 a0_0, .slice A0_1 l0_1.length c0_1, .slice A0_2 l0_2.length c0_2, .int .i64 a0_3, .int .i64 a0_4, .int .i64 a0_5, .int .i64 a0_6]] w fun e w' => e = .returned (.bool r) ∧ Below w.heap.size w w' := by
 have HV := Aside0.mk (Option.some.inj h)
 have hu := Try.underlying27
 have hu2 := Try.underlying36
 have HR := Aside0.mk hr0_1
 have HD := Aside0.mk hr0_2
 have HDC := Aside0.mk hc0_2
 clear h hr0_1 hc0_1 hr0_2 hc0_2
 have hlen : l0_1.length ≤ 9223372036854775807 := HR.out.2.1
 have HLEN := Aside0.mk hlen
 have HDL : l0_2.length ≤ 9223372036854775807 := HD.out.2.1
 by_cases hall : inB a0_0 1 6 = true ∧ l0_1.length ≤ 10 ∧ (l0_2.length : Int) = a0_0 ∧ inB a0_3 0 100 = true ∧ inB a0_4 0 100 = true ∧ inB a0_6 0 100 = true ∧ inB a0_5 0 a0_6 = true
 ·obtain ⟨h1, h2, h3, h4, h5, h6, h7⟩ := hall
  have HY := Aside0.mk (validB_yes HV.out h1 h2 h3 h4 h5 h6 h7)
  have HN := Aside0.mk (inB_iff.mp h1)
  have HG := Aside0.mk h2
  have d2 : decide ((10 : Int) < (l0_1.length : Int)) = false := decide_eq_false (by omega)
  have d2' : decide (10 < l0_1.length) = false := decide_eq_false (by omega)
  have d3 : ((l0_2.length : Int) == a0_0) = true := beq_iff_eq.mpr h3
  have d3' : ((l0_2.length : Int) != a0_0) = false := bne_eq_false_iff_eq.mpr h3
  clear h2 h3
  go_enter Try.func10, Try.ntmps10
  go_wp2_with (first | ((with_reducible refine gate_dst (N := 1) rfl ?_); refine box_event ?hg (N := 1) ?hd (cs := #[.int .i64 a0_0, .slice A0_1 l0_1.length c0_1, .slice A0_2 l0_2.length c0_2, .int .i64 a0_3, .int .i64 a0_4, .int .i64 a0_5, .int .i64 a0_6]) (t := 27) ?hr ?_; (case hd => rfl); (case hg => rfl); (case hr => first | (go_simp; done) | (go_simp; rfl)); intro gb hg_ w1 hbox_ hb_; have HX_gb := Aside0.mk hbox_; have HB_w1 := Aside0.mk hb_; have HG_gb := Aside0.mk hg_; clear hbox_ hb_ hg_; obtain ⟨b0, b1, b2, b3, b4, b5, b6⟩ := cells7 HX_gb.out) | (go_at_call 27; refine (impl_within.calls _ _ _ _ _ (within_tells _ _ _)).mono ?_; rintro e w' ⟨rfl, ⟨nd, rfl⟩⟩) | (go_at_call 28; refine (impl_isDelay.calls _ _ _ (delay_tells _)).mono ?_; rintro e w' ⟨rfl, ⟨nd, rfl⟩⟩))
  clear b0 b1 b2 b3 b4 b5 b6
  go_loopg [50] l0_1.length (fun gg s50 wr => ∃ x : Int, s50 = .int .i64 x ∧ Aside0 (0 ≤ x ∧ x ≤ l0_1.length ∧ (l0_1.length : Int) - x ≤ gg) ∧ Aside0 (Below w1.heap.size w1 wr) ∧ Aside0 (gatesB a0_0 0 l0_1 = gatesB a0_0 x.toNat (l0_1.drop x.toNat)))
  case atStart => exact ⟨0, rfl, ⟨by omega⟩, ⟨by repeat (first | exact Below.refl _ _ | apply pw_below_drewN)⟩, ⟨rfl⟩⟩
  case round =>
   obtain ⟨x, rfl, HX, HB, HF⟩ := hrel
   have HK := Aside0.mk (blk_below HX_gb.out HB.out)
   obtain ⟨b0, b1, b2, b3, b4, b5, b6⟩ := cells7 HK.out
   have hne : gb ≠ wr.heap.size := Nat.ne_of_lt (blk_lt HK.out)
   have hlt_ : gb < wr.heap.size := blk_lt HK.out
   by_cases hlt : x < (l0_1.length : Int)
   ·have t0 : decide (0 ≤ x) = true := decide_eq_true HX.out.1
    have t1 : decide (x < (l0_1.length : Int)) = true := decide_eq_true hlt
    have HL := Aside0.mk hlt
    clear hlt
    obtain ⟨ad, Ai, ci, e, e0, e1, e2, e3, e4⟩ := at_T36 HR.out x HX.out.1 HL.out
    cases e
    replace e0 := pw_cell_below HB.out (pw_cell_below HB_w1.out e0)
    replace e1 := pw_cell_below HB.out (pw_cell_below HB_w1.out e1)
    replace e2 := pw_cell_below HB.out (pw_cell_below HB_w1.out e2)
    have H3 := Aside0.mk e3
    have H4 := Aside0.mk (Kd.C_below e4 (below_step HB_w1.out HB.out))
    have HI := Aside0.mk e4.2.1
    clear e3 e4
    have hst := gates_step a0_0 (l := l0_1) (i := x.toNat) (by have := HX.out; have := HL.out; omega)
    rw [show ((x.toNat : Nat) : Int) = x by have := HX.out; omega] at hst
    have HS := Aside0.mk hst
    have HW := Aside0.mk (show wrap64 (wrap64 (a0_0 + x) - 1) = a0_0 + x - 1 by have := HX.out; have := HL.out; have := HN.out; have := HG.out; rw [wrap_in (x := a0_0 + x) (by omega) (by omega), wrap_in (by omega) (by omega)])
    have HSET := Aside0.mk (set_tells (rd_T36 l0_1 x).f2 (wrap64 (wrap64 (a0_0 + x) - 1)) HI.out)
    clear hst
    have p0 := eq_true HX.out.1
    have p1 := eq_true HL.out
    by_cases hok : inB (rd_T36 l0_1 x).f1 0 100 = true ∧ inB (rd_T36 l0_1 x).f0 0 (rd_T36 l0_1 x).f1 = true ∧ ¬ (rd_T36 l0_1 x).f2.length = 0 ∧ risesB (rd_T36 l0_1 x).f2 (wrap64 (wrap64 (a0_0 + x) - 1)) = true
    ·obtain ⟨g1, g2, g3, g4⟩ := hok
     have g3a : (((rd_T36 l0_1 x).f2.length : Int) == 0) = false := beq_eq_false_iff_ne.mpr (by omega)
     have g3b : ¬ (rd_T36 l0_1 x).f2 = [] := fun h_ => g3 (by rw [h_]; rfl)
     have HGB := Aside0.mk (show gateB a0_0 x (rd_T36 l0_1 x) = true by unfold gateB; rw [← HW.out, g1, g2, g4, decide_eq_false g3]; rfl)
     clear g3
     go_wp2_with (first | (go_at_call 27; refine (impl_within.calls _ _ _ _ _ (within_tells _ _ _)).mono ?_; rintro e w' ⟨rfl, ⟨nd, rfl⟩⟩) | (go_at_call 28; refine (impl_isDelay.calls _ _ _ (delay_tells _)).mono ?_; rintro e w' ⟨rfl, ⟨nd, rfl⟩⟩) | (go_at_call 29; refine (impl_isSet.calls (hr0 := by repeat (first | exact H4.out | (with_reducible refine Kd.C_alloc ?_ _) | (with_reducible refine Kd.C_drewN ?_ _) | (with_reducible refine Kd.C_drew ?_))) (hc0 := H3.out) (h := HSET.out)).mono ?_; rintro e w' ⟨rfl, ⟨nd, rfl⟩⟩))
     have hx1 := HX.out
     have hl1 := HL.out
     go_roundg ((l0_1.length : Int) - (x + 1)).toNat
     case measure => omega
     case rel =>
      refine ⟨x + 1, by rw [wrap_in (by omega) (by omega)], ⟨by omega⟩, ⟨by repeat (first | exact HB.out | apply pw_below_drewN | apply below_alloc)⟩, ⟨?_⟩⟩
      rw [HF.out, HS.out, HGB.out, show (x + 1).toNat = x.toNat + 1 by omega]
      rfl
    ·have HNO := Aside0.mk (show gateB a0_0 x (rd_T36 l0_1 x) = false by
      unfold gateB
      rw [← HW.out]
      cases g1 : inB (rd_T36 l0_1 x).f1 0 100 <;> cases g2 : inB (rd_T36 l0_1 x).f0 0 (rd_T36 l0_1 x).f1 <;> cases g4 : risesB (rd_T36 l0_1 x).f2 (wrap64 (wrap64 (a0_0 + x) - 1)) <;> by_cases g3 : (rd_T36 l0_1 x).f2.length = 0 <;> simp_all)
     have hcase : (inB (rd_T36 l0_1 x).f1 0 100 = false) ∨ (inB (rd_T36 l0_1 x).f1 0 100 = true ∧ inB (rd_T36 l0_1 x).f0 0 (rd_T36 l0_1 x).f1 = false) ∨ (inB (rd_T36 l0_1 x).f1 0 100 = true ∧ inB (rd_T36 l0_1 x).f0 0 (rd_T36 l0_1 x).f1 = true ∧ (((rd_T36 l0_1 x).f2.length : Int) == 0) = true ∧ (((rd_T36 l0_1 x).f2.length : Int) != 0) = false) ∨ (inB (rd_T36 l0_1 x).f1 0 100 = true ∧ inB (rd_T36 l0_1 x).f0 0 (rd_T36 l0_1 x).f1 = true ∧ (((rd_T36 l0_1 x).f2.length : Int) == 0) = false ∧ (¬ (rd_T36 l0_1 x).f2 = []) ∧ risesB (rd_T36 l0_1 x).f2 (wrap64 (wrap64 (a0_0 + x) - 1)) = false) := by
      cases g1 : inB (rd_T36 l0_1 x).f1 0 100 with
      | false => exact .inl rfl
      | true =>
       cases g2 : inB (rd_T36 l0_1 x).f0 0 (rd_T36 l0_1 x).f1 with
       | false => exact .inr (.inl ⟨rfl, rfl⟩)
       | true =>
        by_cases g3 : (rd_T36 l0_1 x).f2.length = 0
        ·exact .inr (.inr (.inl ⟨rfl, rfl, beq_iff_eq.mpr (by omega), bne_eq_false_iff_eq.mpr (by omega)⟩))
        ·exact .inr (.inr (.inr ⟨rfl, rfl, beq_eq_false_iff_ne.mpr (by omega), fun h_ => g3 (by rw [h_]; rfl), Bool.eq_false_iff.mpr (fun g4 => hok ⟨g1, g2, g3, g4⟩)⟩))
     clear hok
     rcases hcase with g1 | ⟨g1, g2⟩ | ⟨g1, g2, g3, g3'⟩ | ⟨g1, g2, g3, g3', g4⟩
     all_goals
      go_wp2_with (first | (go_at_call 27; refine (impl_within.calls _ _ _ _ _ (within_tells _ _ _)).mono ?_; rintro e w' ⟨rfl, ⟨nd, rfl⟩⟩) | (go_at_call 28; refine (impl_isDelay.calls _ _ _ (delay_tells _)).mono ?_; rintro e w' ⟨rfl, ⟨nd, rfl⟩⟩) | (go_at_call 29; refine (impl_isSet.calls (hr0 := by repeat (first | exact H4.out | (with_reducible refine Kd.C_alloc ?_ _) | (with_reducible refine Kd.C_drewN ?_ _) | (with_reducible refine Kd.C_drew ?_))) (hc0 := H3.out) (h := HSET.out)).mono ?_; rintro e w' ⟨rfl, ⟨nd, rfl⟩⟩))
      go_ret
      exact ⟨by rw [HY.out, HF.out, HS.out, HNO.out]; rfl, below_step HB_w1.out (by repeat (first | exact HB.out | apply pw_below_drewN | apply below_alloc))⟩
   ·have t1 : decide (x < (l0_1.length : Int)) = false := decide_eq_false hlt
    have hx := HX.out
    have HE := Aside0.mk (show gatesB a0_0 0 l0_1 = true by rw [HF.out, List.drop_of_length_le (by omega)]; rfl)
    clear hlt hx
    go_wp2_with (go_at_call 30; refine (containsI.calls A0_2 c0_2 l0_2 31 #[.pointer (some ⟨gb, 0, none⟩)] (fun x => !inB x 0 (a0_0 + l0_1.length - 1)) wr (Kd.C_below HD.out (below_step HB_w1.out HB.out)) (enters_of Try.func31 (by kernel_rfl) rfl) (fun W x _ hb => impl_ValidCircuit.test wr W x HN.out.1 HN.out.2 HG.out HK.out hb)).mono ?_; rintro e w2 ⟨rfl, hb⟩; have HB2 := Aside0.mk hb; clear hb)
    go_ret
    exact ⟨by rw [HY.out, HE.out]; rfl, below_step (below_step HB_w1.out HB.out) HB2.out⟩
 ·have hcase : inB a0_0 1 6 = false ∨ (inB a0_0 1 6 = true ∧ decide ((10 : Int) < (l0_1.length : Int)) = true ∧ decide (10 < l0_1.length) = true) ∨ (inB a0_0 1 6 = true ∧ decide ((10 : Int) < (l0_1.length : Int)) = false ∧ decide (10 < l0_1.length) = false ∧ ((l0_2.length : Int) == a0_0) = false ∧ ((l0_2.length : Int) != a0_0) = true) ∨ (inB a0_0 1 6 = true ∧ decide ((10 : Int) < (l0_1.length : Int)) = false ∧ decide (10 < l0_1.length) = false ∧ ((l0_2.length : Int) == a0_0) = true ∧ ((l0_2.length : Int) != a0_0) = false ∧ (inB a0_3 0 100 = false ∨ (inB a0_3 0 100 = true ∧ inB a0_4 0 100 = false) ∨ (inB a0_3 0 100 = true ∧ inB a0_4 0 100 = true ∧ inB a0_6 0 100 = false) ∨ (inB a0_3 0 100 = true ∧ inB a0_4 0 100 = true ∧ inB a0_6 0 100 = true ∧ inB a0_5 0 a0_6 = false))) := by
   cases h1 : inB a0_0 1 6 with
   | false => exact .inl rfl
   | true =>
    by_cases h2 : l0_1.length ≤ 10
    ·by_cases h3 : (l0_2.length : Int) = a0_0
     ·refine .inr (.inr (.inr ⟨rfl, decide_eq_false (by omega), decide_eq_false (by omega), beq_iff_eq.mpr h3, bne_eq_false_iff_eq.mpr h3, ?_⟩))
      cases h4 : inB a0_3 0 100 with
      | false => exact .inl rfl
      | true =>
       cases h5 : inB a0_4 0 100 with
       | false => exact .inr (.inl ⟨rfl, rfl⟩)
       | true =>
        cases h6 : inB a0_6 0 100 with
        | false => exact .inr (.inr (.inl ⟨rfl, rfl, rfl⟩))
        | true => exact .inr (.inr (.inr ⟨rfl, rfl, rfl, Bool.eq_false_iff.mpr (fun h7 => hall ⟨h1, h2, h3, h4, h5, h6, h7⟩)⟩))
     ·exact .inr (.inr (.inl ⟨rfl, decide_eq_false (by omega), decide_eq_false (by omega), beq_eq_false_iff_ne.mpr h3, bne_iff_ne.mpr h3⟩))
    ·exact .inr (.inl ⟨rfl, decide_eq_true (by omega), decide_eq_true (by omega)⟩)
  clear hall
  have HNO := Aside0.mk (validB_no HV.out (by
   rcases hcase with h1 | ⟨_, _, h2⟩ | ⟨_, _, _, h3, _⟩ | ⟨_, _, _, _, _, h4 | ⟨_, h5⟩ | ⟨_, _, h6⟩ | ⟨_, _, _, h7⟩⟩
   ·exact .inl h1
   ·exact .inr (.inl (by have := of_decide_eq_true h2; omega))
   ·exact .inr (.inr (.inl (beq_eq_false_iff_ne.mp h3)))
   ·exact .inr (.inr (.inr (.inl h4)))
   ·exact .inr (.inr (.inr (.inr (.inl h5))))
   ·exact .inr (.inr (.inr (.inr (.inr (.inl h6)))))
   ·exact .inr (.inr (.inr (.inr (.inr (.inr h7)))))))
  rcases hcase with h1 | ⟨h1, h2, h2'⟩ | ⟨h1, h2, h2', h3, h3'⟩ | ⟨h1, h2, h2', h3, h3', h4 | ⟨h4, h5⟩ | ⟨h4, h5, h6⟩ | ⟨h4, h5, h6, h7⟩⟩
  all_goals
   go_enter Try.func10, Try.ntmps10
   go_wp2_with (first | ((with_reducible refine gate_dst (N := 1) rfl ?_); refine box_event ?hg (N := 1) ?hd (cs := #[.int .i64 a0_0, .slice A0_1 l0_1.length c0_1, .slice A0_2 l0_2.length c0_2, .int .i64 a0_3, .int .i64 a0_4, .int .i64 a0_5, .int .i64 a0_6]) (t := 27) ?hr ?_; (case hd => rfl); (case hg => rfl); (case hr => first | (go_simp; done) | (go_simp; rfl)); intro gb hg_ w1 hbox_ hb_; have HX_gb := Aside0.mk hbox_; have HB_w1 := Aside0.mk hb_; have HG_gb := Aside0.mk hg_; clear hbox_ hb_ hg_; obtain ⟨b0, b1, b2, b3, b4, b5, b6⟩ := cells7 HX_gb.out) | (go_at_call 27; refine (impl_within.calls _ _ _ _ _ (within_tells _ _ _)).mono ?_; rintro e w' ⟨rfl, ⟨nd, rfl⟩⟩) | (go_at_call 28; refine (impl_isDelay.calls _ _ _ (delay_tells _)).mono ?_; rintro e w' ⟨rfl, ⟨nd, rfl⟩⟩))
   go_ret
   exact ⟨by rw [HNO.out]; rfl, by repeat (first | exact HB_w1.out | apply pw_below_drewN)⟩

end Go.Proofs.Ytbkofbcmhddbfaa.Pa

/- What a valid circuit is: the program's test and the reference's are one. -/
namespace Go.Proofs.Ytbkofbcmhddbfaa.Pure
open Go.RowKit Go.Proofs.Ytbkofbcmhddbfaa.Pa Go.Proofs.YtbkofbcmhddbfaaW.PrintWords Go.Proofs.YtbkofbcmhddbfaaW.PrintLast
set_option linter.unusedVariables false
set_option linter.unusedSimpArgs false

theorem rdG' {l : List S36} {i : Nat} (h : i < l.length) : rd_T36 l (i : Int) = l[i] := by
 unfold rd_T36
 rw [List.getD_eq_getElem?_getD, Int.toNat_natCast, List.getElem?_eq_getElem h]
 rfl
theorem valid_tells (n : Int) (gates : List S36) (data : List Int) (a3 a4 a5 a6 : Int) : impl_ValidCircuit.f n gates data a3 a4 a5 a6 = some (validB n gates data a3 a4 a5 a6) := rfl
theorem risesFrom_in (hi : Int) (l : List Int) : ∀ p, risesFrom hi p l = true → ∀ x ∈ l, 0 ≤ x ∧ x ≤ hi := by
 induction l with
 | nil => intro p h x hx; simp at hx
 | cons y l ih =>
  intro p h x hx
  simp only [risesFrom, Bool.and_eq_true] at h
  rcases List.mem_cons.mp hx with rfl | hx
  ·exact inB_iff.mp h.1.1
  ·exact ih _ h.2 x hx
theorem risesB_in (l : List Int) (hi : Int) (h : risesB l hi = true) : ∀ x ∈ l, 0 ≤ x ∧ x ≤ hi := risesFrom_in hi l none h
/-- What is known of a valid circuit. -/
structure Circ (n : Int) (gates : List S36) (data : List Int) (a3 a4 a5 a6 : Int) : Prop where
 n0 : 1 ≤ n
 n1 : n ≤ 6
 len : gates.length ≤ 10
 dlen : (data.length : Int) = n
 setup : 0 ≤ a3 ∧ a3 ≤ 100
 hold : 0 ≤ a4 ∧ a4 ≤ 100
 least : 0 ≤ a5 ∧ a5 ≤ a6 ∧ a6 ≤ 100
 gate : ∀ (i : Nat) (h : i < gates.length), 0 ≤ gates[i].f0 ∧ gates[i].f0 ≤ gates[i].f1 ∧ gates[i].f1 ≤ 100 ∧ gates[i].f2 ≠ [] ∧ ∀ x ∈ gates[i].f2, 0 ≤ x ∧ x ≤ n + i - 1
 node : ∀ x ∈ data, 0 ≤ x ∧ x ≤ n + gates.length - 1
theorem gatesB_get (n : Int) (l : List S36) : ∀ (j : Nat), gatesB n j l = true → ∀ (i : Nat) (h : i < l.length), gateB n ((j + i : Nat) : Int) l[i] = true := by
 induction l with
 | nil => intro j _ i h; simp at h
 | cons g l ih =>
  intro j hj i h
  simp only [gatesB, Bool.and_eq_true] at hj
  cases i with
  | zero => simpa using hj.1
  | succ i =>
   have := ih (j + 1) hj.2 i (by simpa using h)
   rw [show j + (i + 1) = j + 1 + i by omega]
   simpa using this
theorem circ_of (n : Int) (gates : List S36) (data : List Int) (a3 a4 a5 a6 : Int) (hw : ∀ g ∈ gates, g.f2.length ≤ 1048576) (h : validB n gates data a3 a4 a5 a6 = true) : Circ n gates data a3 a4 a5 a6 := by
 unfold validB at h
 simp only [Bool.and_eq_true, decide_eq_true_eq, inB_iff, List.all_eq_true] at h
 obtain ⟨⟨⟨⟨⟨⟨⟨h0, h1⟩, h2⟩, h3⟩, h4⟩, h5, h6⟩, h7⟩, h8⟩ := h
 refine ⟨h0.1, h0.2, h1, h2, h3, h4, ⟨h6.1, h6.2, h5.2⟩, fun i hi => ?_, h8⟩
 have := gatesB_get n gates 0 h7 i hi
 unfold gateB at this
 simp only [Bool.and_eq_true, inB_iff, Bool.not_eq_true', decide_eq_false_iff_not] at this
 obtain ⟨⟨⟨g1, g2⟩, g3⟩, g4⟩ := this
 refine ⟨g2.1, g2.2, g1.2, fun e => g3 (by rw [e]; rfl), ?_⟩
 have := risesB_in _ _ g4
 simpa using this
end Go.Proofs.Ytbkofbcmhddbfaa.Pure

namespace Go.Proofs.Ytbkofbcmhddbfaa.Pa
open Go.RowKit Go.Proofs.YtbkofbcmhddbfaaW.PrintWords Go.Proofs.YtbkofbcmhddbfaaW.PrintLast Go.Proofs.YtbkofbcmhddbfaaW.PrintMore
attribute [local go_sem] max2_int min2_int max_two min_two max_three min_three max_four min_four   -- for this text's walks alone
set_option linter.unusedVariables false
set_option linter.unusedSimpArgs false

/-! ### impl_Circuit_nodes: function 24 -/
def impl_Circuit_nodes.f (a0_0 : Int) (l0_1 : List (S36)) (l0_2 : List Int) (a0_3 : Int) (a0_4 : Int) (a0_5 : Int) (a0_6 : Int) : Option (Int) := some (wrap64 (a0_0 + (l0_1.length : Int)))
set_option maxHeartbeats 8000000 in
set_option maxRecDepth 100000 in
theorem impl_Circuit_nodes.calls (a0_0 : Int) (A0_1 : Option Addr) (c0_1 : Nat) (l0_1 : List (S36)) (A0_2 : Option Addr) (c0_2 : Nat) (l0_2 : List Int) (a0_3 : Int) (a0_4 : Int) (a0_5 : Int) (a0_6 : Int) (r : Int) (w : World) (hr0_1 : Kd.C k36 w A0_1 l0_1.length l0_1) (hc0_1 : l0_1.length ≤ c0_1) (hr0_2 : Kd.C (Kd.int .i64) w A0_2 l0_2.length l0_2) (hc0_2 : l0_2.length ≤ c0_2) (h : impl_Circuit_nodes.f a0_0 l0_1 l0_2 a0_3 a0_4 a0_5 a0_6 = some r) :
  Calls Try.prog 24 #[.agg #[.int .i64 a0_0, .slice A0_1 l0_1.length c0_1, .slice A0_2 l0_2.length c0_2, .int .i64 a0_3, .int .i64 a0_4, .int .i64 a0_5, .int .i64 a0_6]] w fun e w' => e = .returned (.int .i64 r) ∧ Below w.heap.size w w' := by
 have hu27 := Try.underlying27
 have HR0_1 := Aside0.mk hr0_1
 have HC0_1 := Aside0.mk hc0_1
 clear hr0_1 hc0_1
 have HR0_2 := Aside0.mk hr0_2
 have HC0_2 := Aside0.mk hc0_2
 clear hr0_2 hc0_2
 have HB := Aside0.mk (Below.refl w.heap.size w)
 have H : (some (wrap64 (a0_0 + (l0_1.length : Int)))) = some r := h
 clear h
 obtain rfl := Option.some.inj H
 go_enter Try.func24, Try.ntmps24
 go_wp2_with (first | ((with_reducible refine gate_dst (N := 1) rfl ?_); refine box_event ?hg (N := 1) ?hd (cs := #[.int .i64 a0_0, .slice A0_1 l0_1.length c0_1, .slice A0_2 l0_2.length c0_2, .int .i64 a0_3, .int .i64 a0_4, .int .i64 a0_5, .int .i64 a0_6]) (t := 27) ?hr ?_; (case hd => rfl); (case hg => rfl); (case hr => first | (go_simp; done) | (go_simp; rfl)); intro gb198 hg w2 hbox hb; have n0_ := Aside0.mk (below_step (by repeat (first | (with_reducible first | exact HB.out | apply below_alloc | apply pw_below_drewN | apply below_drew1) | exact HB.out)) hb); have n1_ := Aside0.mk (hbox); have n2_ := Aside0.mk ((by rw [hg]; exact (below_size (by repeat (first | (with_reducible first | exact HB.out | apply below_alloc | apply pw_below_drewN | apply below_drew1) | exact HB.out))) : w.heap.size ≤ gb198)); have n3_ := Aside0.mk ((by rw [hg]; exact (below_size (by repeat (first | (with_reducible first | exact HB.out | apply below_alloc | apply pw_below_drewN | apply below_drew1) | exact HB.out))) : w.heap.size ≤ gb198)); clear HB; have HB := n0_; have BK198 := n1_; have GW198 := n2_; have GE198 := n3_; clear n0_ n1_ n2_ n3_; clear hb hbox hg; have hcz3_0 : w2.cell? ⟨gb198, 0, none⟩ = some (.int .i64 a0_0) := (blk_cell BK198.out 0).trans rfl; have hcz3_1 : w2.cell? ⟨gb198, 1, none⟩ = some (.slice A0_1 l0_1.length c0_1) := (blk_cell BK198.out 1).trans rfl; have hcz3_2 : w2.cell? ⟨gb198, 2, none⟩ = some (.slice A0_2 l0_2.length c0_2) := (blk_cell BK198.out 2).trans rfl; have hcz3_3 : w2.cell? ⟨gb198, 3, none⟩ = some (.int .i64 a0_3) := (blk_cell BK198.out 3).trans rfl; have hcz3_4 : w2.cell? ⟨gb198, 4, none⟩ = some (.int .i64 a0_4) := (blk_cell BK198.out 4).trans rfl; have hcz3_5 : w2.cell? ⟨gb198, 5, none⟩ = some (.int .i64 a0_5) := (blk_cell BK198.out 5).trans rfl; have hcz3_6 : w2.cell? ⟨gb198, 6, none⟩ = some (.int .i64 a0_6) := (blk_cell BK198.out 6).trans rfl; have hfz3_0 := blk_frozen BK198.out 0; have hfz3_1 := blk_frozen BK198.out 1; have hfz3_2 := blk_frozen BK198.out 2; have hfz3_3 := blk_frozen BK198.out 3; have hfz3_4 := blk_frozen BK198.out 4; have hfz3_5 := blk_frozen BK198.out 5; have hfz3_6 := blk_frozen BK198.out 6))
 go_ret
 exact ⟨by first | rfl | (simp [errW_none, errW_some] <;> rfl) | (simp [*, errW_none, errW_some] <;> rfl), by repeat (first | (with_reducible first | exact HB.out | apply below_alloc | apply pw_below_drewN | apply below_drew1 | refine below_set ?_ GE198.out) | exact HB.out)⟩

end Go.Proofs.Ytbkofbcmhddbfaa.Pa

