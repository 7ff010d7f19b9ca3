-- Written for this claim by a program of this session.
import Derived.Test.YtmipelgjmmgmnaaDoorPax0
namespace Go.Proofs.YtmipelgjmmgmnaaDoor.Pa
open Go.RowKit Go.Proofs.YtmipelgjmmgmnaaDoorW.PrintWords Go.Proofs.YtmipelgjmmgmnaaDoorW.PrintLast Go.Proofs.YtmipelgjmmgmnaaDoorW.PrintMore
attribute [local go_sem] max2_int min2_int max_two min_two max_three min_three max_four min_four   -- for this text's walks alone
set_option linter.unusedVariables false
set_option linter.unusedSimpArgs false

/-! ### AUX side -/
/-- Blocks from B up to M may have been written; all else of the elder world is as it was. -/
structure Side (B M : Nat) (w w' : World) : Prop where
  os : w'.os = w.os
  tape : w'.tape = w.tape
  output : w'.output = w.output
  size : w.heap.size ≤ w'.heap.size
  block : ∀ k, k < w.heap.size → (k < B ∨ M ≤ k) → w'.heap[k]? = w.heap[k]?
theorem Side.below {B M : Nat} {w w' : World} (h : Side B M w w') (hB : B ≤ w.heap.size) : Below B w w' :=
  ⟨h.os, h.tape, h.output, h.size, fun k hk => h.block k (Nat.lt_of_lt_of_le hk hB) (.inl hk)⟩
theorem Side.of_below {B M : Nat} {w w' : World} (h : Below w.heap.size w w') : Side B M w w' := ⟨h.os, h.tape, h.output, h.size, fun k hk _ => h.block k hk⟩
theorem Side.trans {B M : Nat} {a b c : World} (h : Side B M a b) (k : Side B M b c) : Side B M a c :=
  ⟨k.os.trans h.os, k.tape.trans h.tape, k.output.trans h.output, Nat.le_trans h.size k.size, fun i hi ho => (k.block i (Nat.lt_of_lt_of_le hi h.size) ho).trans (h.block i hi ho)⟩
theorem Side.drew {B M : Nat} {W w : World} (h : Side B M W w) : Side B M W w.drew := ⟨h.os, h.tape, h.output, h.size, h.block⟩
theorem Side.refl (B M : Nat) (w : World) : Side B M w w := ⟨rfl, rfl, rfl, Nat.le_refl _, fun _ _ _ => rfl⟩
theorem Side.alloc {B M : Nat} {W w : World} (h : Side B M W w) (o : Obj) : Side B M W (w.alloc o) := h.trans (Side.of_below (below_alloc (Below.refl _ _) _))
theorem Side.set {B M : Nat} {W w : World} (h : Side B M W w) {b : Nat} (h1 : B ≤ b) (h2 : b < M) (o : Nat) (v : Value) : Side B M W (w.setCell ⟨b, o, none⟩ v) :=
  h.trans ⟨rfl, rfl, rfl, by simp [World.setCell], fun k _ ho => Below.heap_setCell w ⟨b, o, none⟩ v k (by show k ≠ b; omega)⟩
/-- A store into a block of one's own. -/
theorem Side.set_new {B M : Nat} {W w : World} (h : Side B M W w) {b : Nat} (h1 : W.heap.size ≤ b) (o : Nat) (v : Value) : Side B M W (w.setCell ⟨b, o, none⟩ v) :=
  ⟨h.os, h.tape, h.output, Nat.le_trans h.size (by simp [World.setCell]), fun k hk ho => (Below.heap_setCell w ⟨b, o, none⟩ v k (by show k ≠ b; omega)).trans (h.block k hk ho)⟩
/-- What a function on the ticks tells, as bytes. -/
def waveL (lv : Nat → Bool) (n : Nat) : List Int := (List.range n).map fun i => if lv i = true then 49 else 48
theorem waveL_succ (lv : Nat → Bool) (n : Nat) : waveL lv (n + 1) = waveL lv n ++ [if lv n = true then 49 else 48] := by
  unfold waveL
  rw [List.range_succ, List.map_append]
  rfl
theorem waveL_length (lv : Nat → Bool) (n : Nat) : (waveL lv n).length = n := by unfold waveL; simp

end Go.Proofs.YtmipelgjmmgmnaaDoor.Pa
