-- Written for this claim by a program of this session.
import Derived.Test.YteccfnppbonniaaDoorKLPaxf4
import Derived.Test.YteccfnppbonniaaDoorCoreL4
/- RunLink answers as the reference does, for all arguments, and its answers share no memory. -/
namespace Go.Proofs.YteccfnppbonniaaDoor.Pure
open Go.RowKit Go.Proofs.YteccfnppbonniaaDoor.Pa Go.Proofs.YteccfnppbonniaaDoorW.PrintWords Go.Proofs.YteccfnppbonniaaDoorW.PrintLast
set_option linter.unusedVariables false
set_option linter.unusedSimpArgs false

theorem within_is (x a b : Int) : impl_within.f x a b = some (decide (a ≤ x) && decide (x ≤ b)) ∧ spec_l00In.f x a b = some (decide (a ≤ x) && decide (x ≤ b)) := by
 unfold impl_within.f spec_l00In.f
 by_cases h : x ≥ a
 ·rw [if_pos h, decide_eq_true (show a ≤ x from h), Bool.true_and]
  exact ⟨rfl, rfl⟩
 ·rw [if_neg h, decide_eq_false (show ¬ a ≤ x from h), Bool.false_and]
  exact ⟨rfl, rfl⟩
theorem link_valid (a b c d : Int) : ∃ v, impl_ValidLink.f a b c d = some v ∧ spec_l05Link.f a b c d = some (v, a, b, c, d) ∧ (v = true → LinkOk a b c d) := by
 unfold impl_ValidLink.f spec_l05Link.f
 rw [(within_is b 0 2).1, (within_is b 0 2).2, (within_is c 0 2).1, (within_is c 0 2).2, (within_is d 0 4).1, (within_is d 0 4).2]
 simp only [Option.bind_some]
 by_cases h2 : a = 2 ∨ a = 4
 ·have hgo : ∀ x : Option Bool, x = (if (decide (0 ≤ b) && decide (b ≤ 2)) = true then (if (decide (0 ≤ c) && decide (c ≤ 2)) = true then some (decide (0 ≤ d) && decide (d ≤ 4)) else some false) else some false) →
    ∀ y : Option (Bool × Int × Int × Int × Int), y = (if (decide (0 ≤ b) && decide (b ≤ 2)) = true then (if (decide (0 ≤ c) && decide (c ≤ 2)) = true then some ((decide (0 ≤ d) && decide (d ≤ 4)), a, b, c, d) else some (false, a, b, c, d)) else some (false, a, b, c, d)) →
    ∃ v, x = some v ∧ y = some (v, a, b, c, d) ∧ (v = true → LinkOk a b c d) := by
   rintro x rfl y rfl
   by_cases hb : (decide (0 ≤ b) && decide (b ≤ 2)) = true
   ·rw [if_pos hb, if_pos hb]
    by_cases hc : (decide (0 ≤ c) && decide (c ≤ 2)) = true
    ·rw [if_pos hc, if_pos hc]
     refine ⟨_, rfl, rfl, fun hd => ?_⟩
     simp only [Bool.and_eq_true, decide_eq_true_eq] at hb hc hd
     exact ⟨h2, by omega, by omega, hd.1, hd.2⟩
    ·rw [if_neg hc, if_neg hc]
     exact ⟨false, rfl, rfl, fun h => by cases h⟩
   ·rw [if_neg hb, if_neg hb]
    exact ⟨false, rfl, rfl, fun h => by cases h⟩
  rcases h2 with h2 | h2
  ·rw [if_pos h2, if_pos h2]
   exact hgo _ rfl _ rfl
  ·have h22 : ¬ a = 2 := by omega
   rw [if_neg h22, if_neg h22, if_pos h2, if_pos h2]
   exact hgo _ rfl _ rfl
 ·rw [if_neg (fun h => h2 (.inl h)), if_neg (fun h => h2 (.inl h)), if_neg (fun h => h2 (.inr h)), if_neg (fun h => h2 (.inr h))]
  exact ⟨false, rfl, rfl, fun h => by cases h⟩
theorem run_link (a b c d : Int) (s : ByteArray) (hs : s.size ≤ 140737488351232) : ∃ (l : List Int) (r : Int) (v : Bool), l.length ≤ 300 ∧ impl_RunLink.f a b c d s = some (l, r, v) ∧ spec_RunLink.f a b c d s = some (l, r, v) := by
 obtain ⟨v, e1, e2, e3⟩ := link_valid a b c d
 unfold impl_RunLink.f spec_RunLink.f
 rw [e1, e2]
 simp only [Option.bind_some, if_true]
 cases v with
 | false => exact ⟨[], 0, false, Nat.zero_le _, rfl, rfl⟩
 | true =>
  have ho : impl_isOrder.f s = some (isOrderB s) := rfl
  dsimp only
  rw [ho, steps_tells s hs (s.size + 1) (by omega)]
  simp only [Option.bind_some]
  cases hb : isOrderB s with
  | false => exact ⟨[], 0, false, Nat.zero_le _, rfl, rfl⟩
  | true =>
   obtain ⟨h1, h2⟩ := order_is hb
   have hk := e3 rfl
   dsimp only
   rw [if_pos (by omega), if_pos (by omega)]
   obtain ⟨l, r, hl, r1, r2⟩ := link_loops hk s s.size 0 0 0 0 (-1) 0 0 0 0 0 0 0 0 2 0 false [] (by omega) (.inl rfl) (.inl rfl) (.inl rfl) (.inl rfl) (.inl rfl) (.inl rfl) (by omega) hk.2.2.2.1 (fun h => by cases h)
   have hr : rowS b 0 0 = 0 := by
    unfold rowS
    split
    ·rfl
    ·split <;> rfl
   rw [hr, show (farS c false 0 0).1 = 0 from rfl, show (farS c false 0 0).2 = 0 from rfl] at r2
   rw [r1, r2]
   exact ⟨l, r, true, by simp at hl; omega, rfl, rfl⟩
theorem FnExactRunLink : laws_FnExactRunLink.Pure := by
 intro a b c d s _ _ _ _ hs
 obtain ⟨l, r, v, hl, e1, e2⟩ := run_link a b c d s hs
 refine ⟨l.length + 4, ?_⟩
 unfold laws_FnExactRunLink.f
 by_cases hb : (s.size : Int) > 1048576
 ·rw [if_pos hb]
 ·have tq : laws_toLink.f a b c d = some (a, b, c, d) := rfl
  have q0 := eqI l (by omega) (l.length + 4) (by omega)
  have q1 := eqI l (by omega) (l.length + 3) (by omega)
  have m1 := markI l (by omega) (l.length + 3) (by omega)
  have h1 := heldI l.length (by omega) (l.length + 3) (by omega)
  have h2 := heldI l.length (by omega) (l.length + 2) (by omega)
  rw [if_neg hb, tq]
  simp only [Option.bind_some]
  rw [e2]
  simp only [Option.bind_some]
  rw [e1]
  simp only [Option.bind_some]
  rw [q0]
  simp only [Option.bind_some, if_true, bne_self_eq_false]
  rw [show l.length + 4 = (l.length + 3) + 1 from rfl]
  simp only [laws_FnExactRunLink.j0, Bool.false_eq_true, if_false]
  rw [m1]
  simp only [Option.bind_some]
  rw [h1]
  simp only [Option.bind_some]
  rw [if_neg (by omega), if_pos trivial, tq]
  simp only [Option.bind_some]
  rw [e1]
  simp only [Option.bind_some]
  rw [q1]
  simp only [Option.bind_some, if_true, bne_self_eq_false]
  rw [show l.length + 3 = (l.length + 2) + 1 from rfl]
  simp only [laws_FnExactRunLink.j1, Bool.false_eq_true, if_false]
  rw [h2]
  simp only [Option.bind_some]
  rw [if_neg (by omega), if_pos trivial]
end Go.Proofs.YteccfnppbonniaaDoor.Pure
