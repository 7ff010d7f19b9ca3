-- Written for this claim by a program of this session.
import Derived.Test.YtbkofbcmhddbfaaFPax0
namespace Go.Proofs.Ytbkofbcmhddbfaa.Pa
open Go.RowKit Go.Proofs.YtbkofbcmhddbfaaW.PrintWords Go.Proofs.YtbkofbcmhddbfaaW.PrintLast Go.Proofs.YtbkofbcmhddbfaaW.PrintMore
attribute [local go_sem] max2_int min2_int max_two min_two max_three min_three max_four min_four   -- for this text's walks alone
set_option linter.unusedVariables false
set_option linter.unusedSimpArgs false

/-! ### AUX own -/
/-- What a call has made lies between two sizes of the heap. -/
theorem R_range {α : Type} {d : Kd α} {e base N0 : Nat} {ok : Nat → Prop} {w1 : World} {v : Value} {xs : List α} (h : d.R e w1 base ok v xs) (hN : N0 ≤ base) : d.R e w1 N0 (fun b => base ≤ b ∧ b < w1.heap.size) v xs :=
 Kd.R_lower (Kd.R_mono (Kd.R_bound h) (fun _ hb => ⟨hb.2.1, hb.2.2.1⟩)) hN
theorem S_range {α : Type} {d : Kd α} {e base N0 : Nat} {ok : Nat → Prop} {w1 : World} {v : Value} {xs : List α} (h : Kd.S d e w1 base ok v xs) (hN : N0 ≤ base) : Kd.S d e w1 N0 (fun b => (base ≤ b ∧ b < w1.heap.size) ∧ ok b) v xs :=
 Kd.S_lower (Kd.S_mono (Kd.S_bound h) (fun _ hb => ⟨⟨hb.2.1, hb.2.2.1⟩, hb.1⟩)) hN
theorem drawn_below {w w' : World} (h : Drawn0 w w') : Below w.heap.size w w' := by
 obtain ⟨n, rfl⟩ := h
 exact pw_below_drewN (Below.refl _ _) n
theorem bB {w0 w w' : World} (h : Aside0 (Below w0.heap.size w0 w)) (hb : Below w.heap.size w w') : Aside0 (Below w0.heap.size w0 w') := ⟨below_step h.out hb⟩
theorem rB {α : Type} {d : Kd α} {e base : Nat} {ok : Nat → Prop} {w w' : World} {v : Value} {xs : List α} (h : Aside0 (d.R e w base ok v xs)) (hb : Below w.heap.size w w') : Aside0 (d.R e w' base ok v xs) := ⟨Kd.R_below h.out hb⟩
theorem xB {w w' : World} {g : Nat} {o : Obj} (h : Aside0 (w.heap[g]? = some o)) (hb : Below w.heap.size w w') : Aside0 (w'.heap[g]? = some o) := ⟨blk_below h.out hb⟩
theorem rK {α : Type} {d : Kd α} {e base : Nat} {ok S : Nat → Prop} {w w' : World} {v : Value} {xs : List α} (h : Aside0 (d.R e w base ok v xs)) (hk : Kept w w' S) (hne : ∀ k, ok k → ¬ S k) : Aside0 (d.R e w' base ok v xs) := ⟨Kd.R_kept h.out hk hne⟩
theorem xK {w w' : World} {g : Nat} {o : Obj} {S : Nat → Prop} (h : Aside0 (w.heap[g]? = some o)) (hk : Kept w w' S) (hne : ¬ S g) : Aside0 (w'.heap[g]? = some o) := ⟨(hk.2 g (blk_lt h.out) hne).trans h.out⟩
end Go.Proofs.Ytbkofbcmhddbfaa.Pa
