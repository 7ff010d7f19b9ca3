-- Written for this claim by a program of this session.
import Derived.Test.YtkdijegkoajdgaaFPax0
import Derived.Test.YtkdijegkoajdgaaFKFPaxf33
import Derived.Test.YtkdijegkoajdgaaFKFPaxf44
import Derived.Test.YtkdijegkoajdgaaFKFPaxf36
import Derived.Test.YtkdijegkoajdgaaFKFPaxacontainsB
namespace Go.Proofs.Ytkdijegkoajdgaa.Pa
open Go.RowKit Go.Proofs.YtkdijegkoajdgaaW.PrintWords Go.Proofs.YtkdijegkoajdgaaW.PrintLast Go.Proofs.YtkdijegkoajdgaaW.PrintMore
attribute [local go_sem] max2_int min2_int max_two min_two max_three min_three max_four min_four   -- for this text's walks alone
set_option linter.unusedVariables false
set_option linter.unusedSimpArgs false

/-! ### impl_ValidDiagram: function 20 -/
/-- What a diagram must be. -/
def boundOk (n : Int) (b : S53) : Bool := decide (0 ≤ b.f0) && decide (b.f0 ≤ n - 1) && (decide (0 ≤ b.f1) && decide (b.f1 ≤ n - 1)) && !(b.f0 == b.f1) && (decide (-1000 ≤ b.f2) && decide (b.f2 ≤ 1000))
def diagramOk (n : Int) (l : List S53) : Bool := decide (1 ≤ n) && decide (n ≤ 10) && decide (l.length ≤ 24) && l.all (boundOk n)
theorem isBound_tells (a b c n : Int) (h0 : 1 ≤ n) (h1 : n ≤ 10) : impl_isBound.f a b c n = some (boundOk n ⟨a, b, c⟩) := by
 have hw : wrap64 (n - 1) = n - 1 := by unfold wrap64; omega
 have hin : ∀ x l u : Int, impl_within.f x l u = some (decide (l ≤ x) && decide (x ≤ u)) := by
  intro x l u
  unfold impl_within.f
  by_cases h : l ≤ x <;> simp [h]
 unfold impl_isBound.f impl_isLimit.f boundOk
 simp only [hin, hw, Option.bind_some]
 by_cases h2 : 0 ≤ a <;> by_cases h3 : a ≤ n - 1 <;> by_cases h4 : 0 ≤ b <;> by_cases h5 : b ≤ n - 1 <;> by_cases h6 : a = b <;> simp [h2, h3, h4, h5, h6]
def impl_ValidDiagram.f (a0_0 : Int) (l0_1 : List (S53)) : Option (Bool) := some (diagramOk a0_0 l0_1)
set_option maxHeartbeats 4000000 in
set_option maxRecDepth 100000 in
/-- The test that ValidDiagram hands on. -/
theorem ValidDiagram_test (n : Int) (A : Option Addr) (m c : Nat) (h0 : 1 ≤ n) (h1 : n ≤ 10) (B : Nat) (w : World) (hB : B < w.heap.size) (hc0 : w.cell? ⟨B, 0, none⟩ = some (.int .i64 n)) (W : World) (x : S53) (hb : Below w.heap.size w W) :
  Calls Try.prog 35 (#[.agg #[.int .i64 x.f0, .int .i64 x.f1, .int .i64 x.f2]] ++ #[.pointer (some ⟨B, 0, none⟩)]) W fun e w' => e = .returned (.bool (!boundOk n x)) ∧ Below w.heap.size w w' := by
 have hc : W.cell? ⟨B, 0, none⟩ = some (.int .i64 n) := (hb.cell (p := ⟨B, 0, none⟩) hB).trans hc0
 have hu := Try.underlying53
 have hu2 := Try.underlying31
 have hBW : B < W.heap.size := Nat.lt_of_lt_of_le hB hb.size
 have hne : B ≠ W.heap.size := by omega
 have hq := Aside0.mk (isBound_tells x.f0 x.f1 x.f2 n h0 h1)
 have HB := Aside0.mk hb
 clear hb hc0 h0 h1
 generalize boundOk n x = q at hq ⊢
 show Calls Try.prog 35 #[.agg #[.int .i64 x.f0, .int .i64 x.f1, .int .i64 x.f2], .pointer (some ⟨B, 0, none⟩)] W _
 go_enter Try.func35, Try.ntmps35
 go_wp2_with (go_at_call 36; refine (impl_isBound.calls _ _ _ _ q _ hq.out).mono ?_; rintro e w' ⟨rfl, hb'⟩)
 go_ret
 exact ⟨rfl, HB.out.trans (Below.mono ((below_alloc (Below.refl _ _) _).trans (hb'.mono (by simp))) HB.out.size)⟩
def anyBad (n : Int) (l : List S53) : Bool := l.any fun x => !boundOk n x
theorem anyBad_all (n : Int) (l : List S53) : (!anyBad n l) = l.all (boundOk n) := by
 unfold anyBad
 rw [List.all_eq_not_any_not]
theorem ValidDiagram_contains (n : Int) (A : Option Addr) (c : Nat) (l : List S53) (h0 : 1 ≤ n) (h1 : n ≤ 10) (B : Nat) (w : World) (hB : B < w.heap.size) (hc0 : w.cell? ⟨B, 0, none⟩ = some (.int .i64 n)) (hr : Kd.C k53 w A l.length l) :
  Calls Try.prog 34 #[.slice A l.length c, .func (.func 35) #[] #[.pointer (some ⟨B, 0, none⟩)]] w fun e w' => e = .returned (.bool (anyBad n l)) ∧ Below w.heap.size w w' :=
 containsB.calls A c l 35 #[.pointer (some ⟨B, 0, none⟩)] (fun x => !boundOk n x) w hr (enters_of Try.func35 (by kernel_rfl) rfl) (fun W x _ hb => ValidDiagram_test n A l.length c h0 h1 B w hB hc0 W x hb)
set_option maxHeartbeats 4000000 in
set_option maxRecDepth 100000 in
theorem impl_ValidDiagram.calls (a0_0 : Int) (A0_1 : Option Addr) (c0_1 : Nat) (l0_1 : List (S53)) (r : Bool) (w : World) (hr0_1 : Kd.C k53 w A0_1 l0_1.length l0_1) (hc0_1 : l0_1.length ≤ c0_1) (h : impl_ValidDiagram.f a0_0 l0_1 = some r) :
  Calls Try.prog 20 #[.agg #[.int .i64 a0_0, .slice A0_1 l0_1.length c0_1]] w fun e w' => e = .returned (.bool r) ∧ Below w.heap.size w w' := by
 obtain rfl := Option.some.inj h
 clear h
 have hu := Try.underlying31
 have HR := Aside0.mk hr0_1
 clear hr0_1 hc0_1
 by_cases hn : 1 ≤ a0_0 ∧ a0_0 ≤ 10
 ·obtain ⟨h0, h1⟩ := hn
  have HW : Aside0 (impl_within.f a0_0 1 10 = some true) := ⟨by unfold impl_within.f; rw [if_pos h0, decide_eq_true h1]⟩
  by_cases hl : l0_1.length ≤ 24
  ·have c1 : decide ((24 : Int) < (l0_1.length : Int)) = false := decide_eq_false (by omega)
   have c2 : decide (24 < l0_1.length) = false := decide_eq_false (by omega)
   have HE : Aside0 (diagramOk a0_0 l0_1 = !anyBad a0_0 l0_1) := ⟨by unfold diagramOk; rw [anyBad_all, decide_eq_true h0, decide_eq_true h1, decide_eq_true hl]; simp⟩
   have H0 := Aside0.mk h0
   have H1 := Aside0.mk h1
   clear h0 h1 hl
   generalize diagramOk a0_0 l0_1 = q at HE ⊢
   go_enter Try.func20, Try.ntmps20
   go_wp2_with (first | (go_at_call 33; refine (impl_within.calls _ _ _ true _ HW.out).mono ?_; rintro e w' ⟨rfl, ⟨nd, rfl⟩⟩) | (go_at_call 34; refine (ValidDiagram_contains a0_0 A0_1 c0_1 l0_1 H0.out H1.out w.heap.size _ (by simp) (by simp) (by repeat (first | exact HR.out | (with_reducible refine Kd.C_drewN ?_ _) | (with_reducible refine Kd.C_drew ?_) | (with_reducible refine Kd.C_alloc ?_ _)))).mono ?_; rintro e w' ⟨rfl, hb'⟩))
   go_ret
   exact ⟨by rw [HE.out]; rfl, (below_alloc (Below.refl _ _) _).trans (Below.mono (below_step (pw_below_drewN (Below.refl _ _) nd) hb') (by simp))⟩
  ·have c1 : decide ((24 : Int) < (l0_1.length : Int)) = true := decide_eq_true (by omega)
   have c2 : decide (24 < l0_1.length) = true := decide_eq_true (by omega)
   have HE : Aside0 (diagramOk a0_0 l0_1 = false) := ⟨by unfold diagramOk; rw [decide_eq_false hl]; simp⟩
   clear h0 h1 hl
   generalize diagramOk a0_0 l0_1 = q at HE ⊢
   go_enter Try.func20, Try.ntmps20
   go_wp2_with (go_at_call 33; refine (impl_within.calls _ _ _ true _ HW.out).mono ?_; rintro e w' ⟨rfl, ⟨nd, rfl⟩⟩)
   go_ret
   exact ⟨by rw [HE.out]; rfl, pw_below_drewN (below_alloc (Below.refl _ _) _) nd⟩
 ·have HW : Aside0 (impl_within.f a0_0 1 10 = some false) := ⟨by
   unfold impl_within.f
   split
   ·rw [decide_eq_false (by omega)]
   ·rfl⟩
  have HE : Aside0 (diagramOk a0_0 l0_1 = false) := ⟨by
   unfold diagramOk
   by_cases h0 : 1 ≤ a0_0
   ·rw [decide_eq_false (show ¬ a0_0 ≤ 10 by omega)]; simp
   ·rw [decide_eq_false h0]; simp⟩
  clear hn
  generalize diagramOk a0_0 l0_1 = q at HE ⊢
  go_enter Try.func20, Try.ntmps20
  go_wp2_with (go_at_call 33; refine (impl_within.calls _ _ _ false _ HW.out).mono ?_; rintro e w' ⟨rfl, ⟨nd, rfl⟩⟩)
  go_ret
  exact ⟨by rw [HE.out]; rfl, pw_below_drewN (below_alloc (Below.refl _ _) _) nd⟩

end Go.Proofs.Ytkdijegkoajdgaa.Pa
