-- Written for this claim by a program of this session.
import Derived.Test.YteccfnppbonniaaDoorKPaxf3
import Derived.Test.YteccfnppbonniaaDoorCore3
/- RunQueue answers as the reference does, for all arguments, and its answers share no memory. -/
namespace Go.Proofs.YteccfnppbonniaaDoor.Pure
open Go.RowKit Go.Proofs.YteccfnppbonniaaDoor.Pa Go.Proofs.YteccfnppbonniaaDoorW.PrintWords Go.Proofs.YteccfnppbonniaaDoorW.PrintLast
set_option linter.unusedVariables false
set_option linter.unusedSimpArgs false

theorem loops_eq {d g : Int} (hd : d = 2 ∨ d = 4) (hg : g = 0 ∨ g = 1) (s : ByteArray) (hs : orderB s.data.toList = true) : ∀ (n i : Nat) (x0 x1 x2 x3 p q m p' q' : Int) (out : List Int), i + n = s.size →
  0 ≤ x0 → x0 < 2 * d → 0 ≤ x1 → x1 < 2 * d → 0 ≤ x2 → x2 < 2 * d → 0 ≤ x3 → x3 < 2 * d →
  ∃ l : List Int, l.length = out.length + n ∧ qrLoop d g s n i x0 x1 x2 x3 p q m out = some l ∧ sqLoop d g s n i x0 x1 x2 x3 m p' q' out = some l := by
 intro n
 induction n with
 | zero =>
  intro i x0 x1 x2 x3 p q m p' q' out hi a0 b0 a1 b1 a2 b2 a3 b3
  exact ⟨out, rfl, rfl, rfl⟩
 | succ n ih =>
  intro i x0 x1 x2 x3 p q m p' q' out hi a0 b0 a1 b1 a2 b2 a3 b3
  unfold qrLoop sqLoop
  rcases order_bt hs (i := i) (by omega) with hb | hb
  ·rw [hb, if_pos rfl]
   obtain ⟨z0, z2, M, P, Q, P', Q', h0, h1, h2, h3, e1, e2⟩ := write_eq (x3 := x3) hd hg a0 b0 a1 b1 a2 b2 p q m p' q'
   rw [e1, e2]
   simp only [Option.bind_some]
   obtain ⟨l, hl, r1, r2⟩ := ih (i + 1) z0 x1 z2 x3 P Q M P' Q' (out ++ [M]) (by omega) h0 h1 a1 b1 h2 h3 a3 b3
   exact ⟨l, by rw [hl]; simp; omega, r1, r2⟩
  ·rw [hb, if_neg (by decide)]
   obtain ⟨z0, z2, M, P, Q, P', Q', h0, h1, h2, h3, e1, e2⟩ := read_eq (x2 := x2) hd hg a0 b0 a1 b1 a3 b3 p q m p' q'
   rw [e1, e2]
   simp only [Option.bind_some]
   obtain ⟨l, hl, r1, r2⟩ := ih (i + 1) x0 z0 x2 z2 P Q M P' Q' (out ++ [M]) (by omega) a0 b0 h0 h1 a2 b2 h2 h3
   exact ⟨l, by rw [hl]; simp; omega, r1, r2⟩
theorem queue_valid (d g : Int) : ∃ b, impl_ValidQueue.f d g = some b ∧ spec_l05Queue.f d g = some (b, d, g) ∧ (b = true → (d = 2 ∨ d = 4) ∧ (g = 0 ∨ g = 1)) := by
 have hw : impl_within.f g 0 1 = some (decide (0 ≤ g) && decide (g ≤ 1)) := by
  unfold impl_within.f
  by_cases h : g ≥ 0
  ·rw [if_pos h, decide_eq_true (show (0 : Int) ≤ g from h), Bool.true_and]
  ·rw [if_neg h, decide_eq_false (show ¬ (0 : Int) ≤ g from h), Bool.false_and]
 have hw2 : spec_l00In.f g 0 1 = some (decide (0 ≤ g) && decide (g ≤ 1)) := hw
 unfold impl_ValidQueue.f spec_l05Queue.f
 rw [hw, hw2]
 by_cases h2 : d = 2
 ·rw [if_pos h2, if_pos h2]
  refine ⟨_, rfl, rfl, fun h => ⟨.inl h2, ?_⟩⟩
  rw [Bool.and_eq_true, decide_eq_true_eq, decide_eq_true_eq] at h
  omega
 ·rw [if_neg h2, if_neg h2]
  by_cases h4 : d = 4
  ·rw [if_pos h4, if_pos h4]
   refine ⟨_, rfl, rfl, fun h => ⟨.inr h4, ?_⟩⟩
   rw [Bool.and_eq_true, decide_eq_true_eq, decide_eq_true_eq] at h
   omega
  ·rw [if_neg h4, if_neg h4]
   exact ⟨false, rfl, rfl, fun h => by cases h⟩
theorem run_queue (d g : Int) (s : ByteArray) (hs : s.size ≤ 140737488351232) : ∃ (l : List Int) (b : Bool), l.length ≤ 300 ∧ impl_RunQueue.f d g s = some (l, b) ∧ spec_RunQueue.f d g s = some (l, b) := by
 obtain ⟨v, e1, e2, e3⟩ := queue_valid d g
 unfold impl_RunQueue.f spec_RunQueue.f
 rw [e1, e2]
 simp only [Option.bind_some, if_true]
 cases v with
 | false => exact ⟨[], false, Nat.zero_le _, rfl, rfl⟩
 | true =>
  have ho : impl_isOrder.f s = some (isOrderB s) := rfl
  dsimp only
  rw [ho, steps_tells s hs (s.size + 1) (by omega)]
  simp only [Option.bind_some]
  cases hb : isOrderB s with
  | false => exact ⟨[], false, Nat.zero_le _, rfl, rfl⟩
  | true =>
   obtain ⟨h1, h2⟩ := order_is hb
   obtain ⟨hd, hg⟩ := e3 rfl
   dsimp only
   rw [if_pos (by omega), if_pos (by omega)]
   obtain ⟨l, hl, r1, r2⟩ := loops_eq hd hg s h2 s.size 0 0 0 0 0 0 0 0 0 0 [] (by omega) (by omega) (by omega) (by omega) (by omega) (by omega) (by omega) (by omega) (by omega)
   rw [r1, r2]
   exact ⟨l, true, by rw [hl]; simp; omega, rfl, rfl⟩
theorem FnExactRunQueue : laws_FnExactRunQueue.Pure := by
 intro d g s _ _ hs
 obtain ⟨l, b, hl, e1, e2⟩ := run_queue d g s hs
 refine ⟨l.length + 4, ?_⟩
 unfold laws_FnExactRunQueue.f
 by_cases hb : (s.size : Int) > 1048576
 ·rw [if_pos hb]
 ·have tq : laws_toQueue.f d g = some (d, g) := rfl
  have q0 := eqI l (by omega) (l.length + 4) (by omega)
  have q1 := eqI l (by omega) (l.length + 3) (by omega)
  have m1 := markI l (by omega) (l.length + 3) (by omega)
  have h1 := heldI l.length (by omega) (l.length + 3) (by omega)
  have h2 := heldI l.length (by omega) (l.length + 2) (by omega)
  rw [if_neg hb, tq]
  simp only [Option.bind_some]
  rw [e2]
  simp only [Option.bind_some]
  rw [e1]
  simp only [Option.bind_some]
  rw [q0]
  simp only [Option.bind_some, if_true, bne_self_eq_false]
  rw [show l.length + 4 = (l.length + 3) + 1 from rfl]
  simp only [laws_FnExactRunQueue.j0, Bool.false_eq_true, if_false]
  rw [m1]
  simp only [Option.bind_some]
  rw [h1]
  simp only [Option.bind_some]
  rw [if_neg (by omega), if_pos trivial, tq]
  simp only [Option.bind_some]
  rw [e1]
  simp only [Option.bind_some]
  rw [q1]
  simp only [Option.bind_some, if_true, bne_self_eq_false]
  rw [show l.length + 3 = (l.length + 2) + 1 from rfl]
  simp only [laws_FnExactRunQueue.j1, Bool.false_eq_true, if_false]
  rw [h2]
  simp only [Option.bind_some]
  rw [if_neg (by omega), if_pos trivial]
end Go.Proofs.YteccfnppbonniaaDoor.Pure
