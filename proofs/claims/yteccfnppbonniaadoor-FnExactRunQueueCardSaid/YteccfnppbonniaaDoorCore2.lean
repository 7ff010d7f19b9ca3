-- Written for this claim by a program of this session.
import Derived.Test.YteccfnppbonniaaDoorPax0
import Derived.Test.YteccfnppbonniaaDoorCore1
namespace Go.Proofs.YteccfnppbonniaaDoor.Pa
open Go.RowKit Go.Proofs.YteccfnppbonniaaDoorW.PrintWords Go.Proofs.YteccfnppbonniaaDoorW.PrintLast Go.Proofs.YteccfnppbonniaaDoorW.PrintMore
attribute [local go_sem] max2_int min2_int max_two min_two max_three min_three max_four min_four   -- for this text's walks alone
set_option linter.unusedVariables false
set_option linter.unusedSimpArgs false

/-- A state of type 48 at block g of W; what its slices lead to came in by w0. -/
def IsS48 (w0 W : World) (g : Nat) (f0 : Int) (f1 : Int) (f2 : Int) (f3 : Int) (f4 : Int) (f5 : Int) (f6 : Int) : Prop := W.heap[g]? = some (.cells #[.int .i64 f0, .int .i64 f1, .int .i64 f2, .int .i64 f3, .int .i64 f4, .int .i64 f5, .int .i64 f6] 48 (0, 0)) ∧ w0.heap.size ≤ g
theorem IsS48.grown {w0 W : World} {g : Nat} {f0 : Int} {f1 : Int} {f2 : Int} {f3 : Int} {f4 : Int} {f5 : Int} {f6 : Int} {W1 : World} {row : Option Nat} (h : IsS48 w0 W g f0 f1 f2 f3 f4 f5 f6) (hw : W.grownBy W1 row) (hne : some g ≠ row) : IsS48 w0 W1 g f0 f1 f2 f3 f4 f5 f6 := by
 obtain ⟨hb, hg⟩ := h
 exact ⟨blk_grown hb hw hne, hg⟩
theorem IsS48.own_neN {w0 W : World} {g : Nat} {f0 : Int} {f1 : Int} {f2 : Int} {f3 : Int} {f4 : Int} {f5 : Int} {f6 : Int} {α : Type} {d : Kd α} {e : Nat} {base : Nat} {ok : Nat → Prop} {v : Value} {xs : List α} (h : IsS48 w0 W g f0 f1 f2 f3 f4 f5 f6) (ho : Kd.N d e W base ok v xs) (ht : e ≠ 48) : some g ≠ v.ownBlock := by
 obtain ⟨hb, hg⟩ := h
 exact Kd.N_ne ho hb ht
theorem IsS48.fresh {w0 W : World} {g : Nat} {f0 : Int} {f1 : Int} {f2 : Int} {f3 : Int} {f4 : Int} {f5 : Int} {f6 : Int} (h : IsS48 w0 W g f0 f1 f2 f3 f4 f5 f6) : ∀ k, W.heap.size ≤ k → k ≠ g := by
 obtain ⟨hb, hg⟩ := h
 exact Kd.freshB hb
theorem IsS48.kept {w0 W : World} {g : Nat} {f0 : Int} {f1 : Int} {f2 : Int} {f3 : Int} {f4 : Int} {f5 : Int} {f6 : Int} {W1 : World} {S : Nat → Prop} (h : IsS48 w0 W g f0 f1 f2 f3 f4 f5 f6) (hk : Kept W W1 S) (hne : ¬ S g) : IsS48 w0 W1 g f0 f1 f2 f3 f4 f5 f6 := by
 obtain ⟨hb, hg⟩ := h
 exact ⟨blk_kept hb hk hne, hg⟩
theorem IsS48.below {w0 W : World} {g : Nat} {f0 : Int} {f1 : Int} {f2 : Int} {f3 : Int} {f4 : Int} {f5 : Int} {f6 : Int} {W1 : World} (h : IsS48 w0 W g f0 f1 f2 f3 f4 f5 f6) (hw : Below W.heap.size W W1) : IsS48 w0 W1 g f0 f1 f2 f3 f4 f5 f6 := h.grown (grown_of_below hw none) (by simp)
theorem IsS48.alloc {w0 W : World} {g : Nat} {f0 : Int} {f1 : Int} {f2 : Int} {f3 : Int} {f4 : Int} {f5 : Int} {f6 : Int} (h : IsS48 w0 W g f0 f1 f2 f3 f4 f5 f6) (o : Obj) : IsS48 w0 (W.alloc o) g f0 f1 f2 f3 f4 f5 f6 := h.below (below_alloc (Below.refl _ _) o)
theorem IsS48.drewN {w0 W : World} {g : Nat} {f0 : Int} {f1 : Int} {f2 : Int} {f3 : Int} {f4 : Int} {f5 : Int} {f6 : Int} (h : IsS48 w0 W g f0 f1 f2 f3 f4 f5 f6) (m : Nat) : IsS48 w0 (W.drewN m) g f0 f1 f2 f3 f4 f5 f6 := h
theorem IsS48.drew {w0 W : World} {g : Nat} {f0 : Int} {f1 : Int} {f2 : Int} {f3 : Int} {f4 : Int} {f5 : Int} {f6 : Int} (h : IsS48 w0 W g f0 f1 f2 f3 f4 f5 f6) : IsS48 w0 W.drew g f0 f1 f2 f3 f4 f5 f6 := h
theorem IsS48.at_ {w0 W : World} {g : Nat} {f0 : Int} {f1 : Int} {f2 : Int} {f3 : Int} {f4 : Int} {f5 : Int} {f6 : Int} {w' : World} {m : Nat} (hq : W.drewN m = w') (h : IsS48 w0 W g f0 f1 f2 f3 f4 f5 f6) : IsS48 w0 w' g f0 f1 f2 f3 f4 f5 f6 := by subst hq; exact IsS48.drewN h m
theorem IsS48.apart {w0 W : World} {g : Nat} {f0 : Int} {f1 : Int} {f2 : Int} {f3 : Int} {f4 : Int} {f5 : Int} {f6 : Int} {α : Type} {d : Kd α} {e : Nat} {base : Nat} {ok : Nat → Prop} {v : Value} {xs : List α} (h : IsS48 w0 W g f0 f1 f2 f3 f4 f5 f6) (ho : d.R e W base ok v xs) (ht : ∀ q, q ∈ e :: d.E → q ≠ 48) : d.R e W base (fun k => ok k ∧ k ≠ g) v xs := by
 obtain ⟨hb, hg⟩ := h
 exact Kd.R_types ho hb ht
theorem IsS48.own_ne {w0 W : World} {g : Nat} {f0 : Int} {f1 : Int} {f2 : Int} {f3 : Int} {f4 : Int} {f5 : Int} {f6 : Int} {α : Type} {d : Kd α} {e : Nat} {base : Nat} {ok : Nat → Prop} {v : Value} {xs : List α} (h : IsS48 w0 W g f0 f1 f2 f3 f4 f5 f6) (ho : d.R e W base ok v xs) (ht : e ≠ 48) : some g ≠ v.ownBlock := by
 obtain ⟨hb, hg⟩ := h
 exact Kd.R_ne ho hb ht
theorem IsS48.apartQ {w0 W : World} {g : Nat} {f0 : Int} {f1 : Int} {f2 : Int} {f3 : Int} {f4 : Int} {f5 : Int} {f6 : Int} {α : Type} {d : Kd α} {e : Nat} {base : Nat} {ok : Nat → Prop} {v : Value} {xs : List α} (h : IsS48 w0 W g f0 f1 f2 f3 f4 f5 f6) (ho : d.Q e W base ok v xs) (ht : ∀ q, q ∈ e :: d.E → q ≠ 48) : d.Q e W base (fun k => ok k ∧ k ≠ g) v xs := by
 obtain ⟨hb, hg⟩ := h
 exact Kd.Q_types ho hb ht
theorem IsS48.own_neQ {w0 W : World} {g : Nat} {f0 : Int} {f1 : Int} {f2 : Int} {f3 : Int} {f4 : Int} {f5 : Int} {f6 : Int} {α : Type} {d : Kd α} {e : Nat} {base : Nat} {ok : Nat → Prop} {v : Value} {xs : List α} (h : IsS48 w0 W g f0 f1 f2 f3 f4 f5 f6) (ho : d.Q e W base ok v xs) (ht : e ≠ 48) : some g ≠ v.ownBlock := by
 obtain ⟨hb, hg⟩ := h
 exact Kd.Q_ne ho hb ht
theorem IsS48.apartS {w0 W : World} {g : Nat} {f0 : Int} {f1 : Int} {f2 : Int} {f3 : Int} {f4 : Int} {f5 : Int} {f6 : Int} {α : Type} {d : Kd α} {e : Nat} {base : Nat} {ok : Nat → Prop} {v : Value} {xs : List α} (h : IsS48 w0 W g f0 f1 f2 f3 f4 f5 f6) (ho : d.S e W base ok v xs) (ht : ∀ q, q ∈ e :: d.E → q ≠ 48) : d.S e W base (fun k => ok k ∧ k ≠ g) v xs := by
 obtain ⟨hb, hg⟩ := h
 exact Kd.S_types ho hb ht
theorem IsS48.own_neS {w0 W : World} {g : Nat} {f0 : Int} {f1 : Int} {f2 : Int} {f3 : Int} {f4 : Int} {f5 : Int} {f6 : Int} {α : Type} {d : Kd α} {e : Nat} {base : Nat} {ok : Nat → Prop} {v : Value} {xs : List α} (h : IsS48 w0 W g f0 f1 f2 f3 f4 f5 f6) (ho : d.S e W base ok v xs) (ht : e ≠ 48) : some g ≠ v.ownBlock := by
 obtain ⟨hb, hg⟩ := h
 exact Kd.S_ne ho hb ht
theorem IsS48.lt {w0 W : World} {g : Nat} {f0 : Int} {f1 : Int} {f2 : Int} {f3 : Int} {f4 : Int} {f5 : Int} {f6 : Int} (h : IsS48 w0 W g f0 f1 f2 f3 f4 f5 f6) : g < W.heap.size := by
 obtain ⟨hb, hg⟩ := h
 exact blk_lt hb
theorem IsS48.ge {w0 W : World} {g : Nat} {f0 : Int} {f1 : Int} {f2 : Int} {f3 : Int} {f4 : Int} {f5 : Int} {f6 : Int} (h : IsS48 w0 W g f0 f1 f2 f3 f4 f5 f6) : w0.heap.size ≤ g := by
 obtain ⟨hb, hg⟩ := h
 exact hg
theorem IsS48.ne_blk {w0 W : World} {g : Nat} {f0 : Int} {f1 : Int} {f2 : Int} {f3 : Int} {f4 : Int} {f5 : Int} {f6 : Int} {a : Nat} {cs : Array Value} {t : TypeId} {fr : Nat × Nat} (h : IsS48 w0 W g f0 f1 f2 f3 f4 f5 f6) (hb2 : W.heap[a]? = some (.cells cs t fr)) (ht : t ≠ 48) : g ≠ a := by
 obtain ⟨hb, hg⟩ := h
 rintro rfl
 rw [hb] at hb2
 injection hb2 with hb2
 injection hb2 with _ ht2
 exact ht ht2.symm
theorem IsS48.far {w0 W : World} {g : Nat} {f0 : Int} {f1 : Int} {f2 : Int} {f3 : Int} {f4 : Int} {f5 : Int} {f6 : Int} {p : Addr} (h : IsS48 w0 W g f0 f1 f2 f3 f4 f5 f6) (hne : g ≠ p.block) (u : Value) : IsS48 w0 (W.setCell p u) g f0 f1 f2 f3 f4 f5 f6 := by
 obtain ⟨hb, hg⟩ := h
 exact ⟨blk_far hb hne u, hg⟩
theorem cellS48_0 {W : World} {g : Nat} {f0 : Int} {f1 : Int} {f2 : Int} {f3 : Int} {f4 : Int} {f5 : Int} {f6 : Int} (h : W.heap[g]? = some (.cells #[.int .i64 f0, .int .i64 f1, .int .i64 f2, .int .i64 f3, .int .i64 f4, .int .i64 f5, .int .i64 f6] 48 (0, 0))) : W.cell? ⟨g, 0, none⟩ = some (.int .i64 f0) := (blk_cell h 0).trans rfl
theorem IsS48.set_0 {w0 W : World} {g : Nat} {f0 : Int} {f1 : Int} {f2 : Int} {f3 : Int} {f4 : Int} {f5 : Int} {f6 : Int} (h : IsS48 w0 W g f0 f1 f2 f3 f4 f5 f6) (x : Int) : IsS48 w0 (W.setCell ⟨g, 0, none⟩ (.int .i64 x)) g x f1 f2 f3 f4 f5 f6 := by
 obtain ⟨hb, hg⟩ := h
 exact ⟨by simpa using blk_set hb 0 (.int .i64 x), hg⟩
theorem cellS48_1 {W : World} {g : Nat} {f0 : Int} {f1 : Int} {f2 : Int} {f3 : Int} {f4 : Int} {f5 : Int} {f6 : Int} (h : W.heap[g]? = some (.cells #[.int .i64 f0, .int .i64 f1, .int .i64 f2, .int .i64 f3, .int .i64 f4, .int .i64 f5, .int .i64 f6] 48 (0, 0))) : W.cell? ⟨g, 1, none⟩ = some (.int .i64 f1) := (blk_cell h 1).trans rfl
theorem IsS48.set_1 {w0 W : World} {g : Nat} {f0 : Int} {f1 : Int} {f2 : Int} {f3 : Int} {f4 : Int} {f5 : Int} {f6 : Int} (h : IsS48 w0 W g f0 f1 f2 f3 f4 f5 f6) (x : Int) : IsS48 w0 (W.setCell ⟨g, 1, none⟩ (.int .i64 x)) g f0 x f2 f3 f4 f5 f6 := by
 obtain ⟨hb, hg⟩ := h
 exact ⟨by simpa using blk_set hb 1 (.int .i64 x), hg⟩
theorem cellS48_2 {W : World} {g : Nat} {f0 : Int} {f1 : Int} {f2 : Int} {f3 : Int} {f4 : Int} {f5 : Int} {f6 : Int} (h : W.heap[g]? = some (.cells #[.int .i64 f0, .int .i64 f1, .int .i64 f2, .int .i64 f3, .int .i64 f4, .int .i64 f5, .int .i64 f6] 48 (0, 0))) : W.cell? ⟨g, 2, none⟩ = some (.int .i64 f2) := (blk_cell h 2).trans rfl
theorem IsS48.set_2 {w0 W : World} {g : Nat} {f0 : Int} {f1 : Int} {f2 : Int} {f3 : Int} {f4 : Int} {f5 : Int} {f6 : Int} (h : IsS48 w0 W g f0 f1 f2 f3 f4 f5 f6) (x : Int) : IsS48 w0 (W.setCell ⟨g, 2, none⟩ (.int .i64 x)) g f0 f1 x f3 f4 f5 f6 := by
 obtain ⟨hb, hg⟩ := h
 exact ⟨by simpa using blk_set hb 2 (.int .i64 x), hg⟩
theorem cellS48_3 {W : World} {g : Nat} {f0 : Int} {f1 : Int} {f2 : Int} {f3 : Int} {f4 : Int} {f5 : Int} {f6 : Int} (h : W.heap[g]? = some (.cells #[.int .i64 f0, .int .i64 f1, .int .i64 f2, .int .i64 f3, .int .i64 f4, .int .i64 f5, .int .i64 f6] 48 (0, 0))) : W.cell? ⟨g, 3, none⟩ = some (.int .i64 f3) := (blk_cell h 3).trans rfl
theorem IsS48.set_3 {w0 W : World} {g : Nat} {f0 : Int} {f1 : Int} {f2 : Int} {f3 : Int} {f4 : Int} {f5 : Int} {f6 : Int} (h : IsS48 w0 W g f0 f1 f2 f3 f4 f5 f6) (x : Int) : IsS48 w0 (W.setCell ⟨g, 3, none⟩ (.int .i64 x)) g f0 f1 f2 x f4 f5 f6 := by
 obtain ⟨hb, hg⟩ := h
 exact ⟨by simpa using blk_set hb 3 (.int .i64 x), hg⟩
theorem cellS48_4 {W : World} {g : Nat} {f0 : Int} {f1 : Int} {f2 : Int} {f3 : Int} {f4 : Int} {f5 : Int} {f6 : Int} (h : W.heap[g]? = some (.cells #[.int .i64 f0, .int .i64 f1, .int .i64 f2, .int .i64 f3, .int .i64 f4, .int .i64 f5, .int .i64 f6] 48 (0, 0))) : W.cell? ⟨g, 4, none⟩ = some (.int .i64 f4) := (blk_cell h 4).trans rfl
theorem IsS48.set_4 {w0 W : World} {g : Nat} {f0 : Int} {f1 : Int} {f2 : Int} {f3 : Int} {f4 : Int} {f5 : Int} {f6 : Int} (h : IsS48 w0 W g f0 f1 f2 f3 f4 f5 f6) (x : Int) : IsS48 w0 (W.setCell ⟨g, 4, none⟩ (.int .i64 x)) g f0 f1 f2 f3 x f5 f6 := by
 obtain ⟨hb, hg⟩ := h
 exact ⟨by simpa using blk_set hb 4 (.int .i64 x), hg⟩
theorem cellS48_5 {W : World} {g : Nat} {f0 : Int} {f1 : Int} {f2 : Int} {f3 : Int} {f4 : Int} {f5 : Int} {f6 : Int} (h : W.heap[g]? = some (.cells #[.int .i64 f0, .int .i64 f1, .int .i64 f2, .int .i64 f3, .int .i64 f4, .int .i64 f5, .int .i64 f6] 48 (0, 0))) : W.cell? ⟨g, 5, none⟩ = some (.int .i64 f5) := (blk_cell h 5).trans rfl
theorem IsS48.set_5 {w0 W : World} {g : Nat} {f0 : Int} {f1 : Int} {f2 : Int} {f3 : Int} {f4 : Int} {f5 : Int} {f6 : Int} (h : IsS48 w0 W g f0 f1 f2 f3 f4 f5 f6) (x : Int) : IsS48 w0 (W.setCell ⟨g, 5, none⟩ (.int .i64 x)) g f0 f1 f2 f3 f4 x f6 := by
 obtain ⟨hb, hg⟩ := h
 exact ⟨by simpa using blk_set hb 5 (.int .i64 x), hg⟩
theorem cellS48_6 {W : World} {g : Nat} {f0 : Int} {f1 : Int} {f2 : Int} {f3 : Int} {f4 : Int} {f5 : Int} {f6 : Int} (h : W.heap[g]? = some (.cells #[.int .i64 f0, .int .i64 f1, .int .i64 f2, .int .i64 f3, .int .i64 f4, .int .i64 f5, .int .i64 f6] 48 (0, 0))) : W.cell? ⟨g, 6, none⟩ = some (.int .i64 f6) := (blk_cell h 6).trans rfl
theorem IsS48.set_6 {w0 W : World} {g : Nat} {f0 : Int} {f1 : Int} {f2 : Int} {f3 : Int} {f4 : Int} {f5 : Int} {f6 : Int} (h : IsS48 w0 W g f0 f1 f2 f3 f4 f5 f6) (x : Int) : IsS48 w0 (W.setCell ⟨g, 6, none⟩ (.int .i64 x)) g f0 f1 f2 f3 f4 f5 x := by
 obtain ⟨hb, hg⟩ := h
 exact ⟨by simpa using blk_set hb 6 (.int .i64 x), hg⟩
theorem IsS48.new (w0 W : World) (f0 : Int) (f1 : Int) (f2 : Int) (f3 : Int) (f4 : Int) (f5 : Int) (f6 : Int) (hB : Below w0.heap.size w0 W) : IsS48 w0 (W.alloc (.cells #[.int .i64 f0, .int .i64 f1, .int .i64 f2, .int .i64 f3, .int .i64 f4, .int .i64 f5, .int .i64 f6] 48)) W.heap.size f0 f1 f2 f3 f4 f5 f6 := ⟨by simpa using heap_alloc_new W _, hB.size⟩

/-! ### impl_queueState_step: function 20 -/
def impl_queueState_step.T3 : Bool × List (List Nat × List Nat) := (true, [([], []), ([0], [0]), ([1], [1]), ([2], [2]), ([], []), ([], []), ([5], [5]), ([6], [6]), ([7], [7]), ([4, 8], [4, 8]), ([3, 9], [3, 9]), ([], []), ([10, 11], [10, 11]), ([], []), ([12, 13], [12, 13]), ([], []), ([15], [15]), ([14, 16], [14, 16])])
def impl_queueState_step.B3 : List Nat := [0, 1, 3, 7, 0, 0, 32, 96, 224, 496, 1023, 0, 4095, 0, 16383, 0, 32768, 131071]
theorem impl_queueState_step.tab3 : rtab .any (opsOf Tryd.f20 3) = impl_queueState_step.T3 := by kernel_rfl
theorem impl_queueState_step.bits3 : waitsOk impl_queueState_step.T3.2 impl_queueState_step.B3 = true := by kernel_rfl
def impl_queueState_step.T4 : Bool × List (List Nat × List Nat) := (true, [([], []), ([], []), ([1], [1]), ([2], [2]), ([3], [3]), ([0, 4], [0, 4]), ([5, 5, 0, 1, 2, 3, 4, 5], [5])])
def impl_queueState_step.B4 : List Nat := [0, 0, 2, 6, 14, 31, 63]
theorem impl_queueState_step.tab4 : rtab .any (opsOf Tryd.f20 4) = impl_queueState_step.T4 := by kernel_rfl
theorem impl_queueState_step.bits4 : waitsOk impl_queueState_step.T4.2 impl_queueState_step.B4 = true := by kernel_rfl
def impl_queueState_step.T6 : Bool × List (List Nat × List Nat) := (true, [([], []), ([], []), ([], []), ([], []), ([3], [3]), ([4], [4]), ([5], [5]), ([2, 6], [2, 6]), ([1, 7], [1, 7]), ([0, 0, 1, 2, 3, 4, 5, 6, 7, 8], [0]), ([9, 0, 1, 2, 3, 4, 5, 6, 7, 8], [9]), ([10, 8, 7, 0, 1, 2, 3, 4, 5, 6, 7, 8], [8, 10])])
def impl_queueState_step.B6 : List Nat := [0, 0, 0, 0, 8, 24, 56, 124, 254, 511, 1023, 2047]
theorem impl_queueState_step.tab6 : rtab .any (opsOf Tryd.f20 6) = impl_queueState_step.T6 := by kernel_rfl
theorem impl_queueState_step.bits6 : waitsOk impl_queueState_step.T6.2 impl_queueState_step.B6 = true := by kernel_rfl
def impl_queueState_step.T8 : Bool × List (List Nat × List Nat) := (true, [([], []), ([], []), ([], []), ([2], [2]), ([3], [3]), ([4], [4]), ([1, 5], [1, 5]), ([0, 0, 1, 2, 3, 4, 5, 6], [0]), ([7, 0, 1, 2, 3, 4, 5, 6], [7]), ([8, 6, 6, 0, 1, 2, 3, 4, 5, 6], [6, 8])])
def impl_queueState_step.B8 : List Nat := [0, 0, 0, 4, 12, 28, 62, 127, 255, 511]
theorem impl_queueState_step.tab8 : rtab .any (opsOf Tryd.f20 8) = impl_queueState_step.T8 := by kernel_rfl
theorem impl_queueState_step.bits8 : waitsOk impl_queueState_step.T8.2 impl_queueState_step.B8 = true := by kernel_rfl
def impl_queueState_step.T9 : Bool × List (List Nat × List Nat) := (true, [([], []), ([], []), ([1], [1]), ([2], [2]), ([3], [3]), ([0, 4], [0, 4]), ([], []), ([6], [6]), ([7], [7]), ([8], [8]), ([5, 9], [5, 9]), ([], []), ([10, 11], [10, 11]), ([], []), ([12, 13], [12, 13]), ([14, 5, 0, 1, 2, 3, 4, 5, 6, 7, 8, 9, 10, 11, 12, 13, 14], [14])])
def impl_queueState_step.B9 : List Nat := [0, 0, 2, 6, 14, 31, 0, 64, 192, 448, 1023, 0, 4095, 0, 16383, 32767]
theorem impl_queueState_step.tab9 : rtab .any (opsOf Tryd.f20 9) = impl_queueState_step.T9 := by kernel_rfl
theorem impl_queueState_step.bits9 : waitsOk impl_queueState_step.T9.2 impl_queueState_step.B9 = true := by kernel_rfl
def impl_queueState_step.T11 : Bool × List (List Nat × List Nat) := (true, [([], []), ([], []), ([1], [1]), ([2], [2]), ([3], [3]), ([0, 4], [0, 4]), ([5, 5, 0, 1, 2, 3, 4, 5], [5])])
def impl_queueState_step.B11 : List Nat := [0, 0, 2, 6, 14, 31, 63]
theorem impl_queueState_step.tab11 : rtab .any (opsOf Tryd.f20 11) = impl_queueState_step.T11 := by kernel_rfl
theorem impl_queueState_step.bits11 : waitsOk impl_queueState_step.T11.2 impl_queueState_step.B11 = true := by kernel_rfl
def impl_queueState_step.T13 : Bool × List (List Nat × List Nat) := (true, [([], []), ([], []), ([], []), ([], []), ([3], [3]), ([4], [4]), ([5], [5]), ([2, 6], [2, 6]), ([1, 7], [1, 7]), ([0, 0, 1, 2, 3, 4, 5, 6, 7, 8], [0]), ([9, 0, 1, 2, 3, 4, 5, 6, 7, 8], [9]), ([10, 8, 7, 0, 1, 2, 3, 4, 5, 6, 7, 8], [8, 10])])
def impl_queueState_step.B13 : List Nat := [0, 0, 0, 0, 8, 24, 56, 124, 254, 511, 1023, 2047]
theorem impl_queueState_step.tab13 : rtab .any (opsOf Tryd.f20 13) = impl_queueState_step.T13 := by kernel_rfl
theorem impl_queueState_step.bits13 : waitsOk impl_queueState_step.T13.2 impl_queueState_step.B13 = true := by kernel_rfl
def impl_queueState_step.T15 : Bool × List (List Nat × List Nat) := (true, [([], []), ([], []), ([], []), ([2], [2]), ([3], [3]), ([4], [4]), ([1, 5], [1, 5]), ([0, 0, 1, 2, 3, 4, 5, 6], [0]), ([7, 0, 1, 2, 3, 4, 5, 6], [7]), ([8, 6, 6, 0, 1, 2, 3, 4, 5, 6], [6, 8])])
def impl_queueState_step.B15 : List Nat := [0, 0, 0, 4, 12, 28, 62, 127, 255, 511]
theorem impl_queueState_step.tab15 : rtab .any (opsOf Tryd.f20 15) = impl_queueState_step.T15 := by kernel_rfl
theorem impl_queueState_step.bits15 : waitsOk impl_queueState_step.T15.2 impl_queueState_step.B15 = true := by kernel_rfl
set_option maxHeartbeats 8000000 in
set_option maxRecDepth 100000 in
theorem qstepA (k : Nat) (gx : Nat) (x0 x1 x2 x3 x4 x5 x6 d g lt cn cb ce cf : Int) (w : World) (hx : w.heap[gx]? = some (.cells #[.int .i64 x0, .int .i64 x1, .int .i64 x2, .int .i64 x3, .int .i64 x4, .int .i64 x5, .int .i64 x6] 48 (0, 0))) (hR : ¬ wrap64 (2 * d) = 0) (hl : lt = 115) (hc : impl_Queue_count.f k d g x2 = some cn) (ht : Int.tmod (wrap64 (wrap64 (x0 - cn) + wrap64 (2 * d))) (wrap64 (2 * d)) < d) (h0 : impl_Queue_code.f d g x0 = some cb) (h1 : impl_Queue_code.f d g (Int.tmod (wrap64 (x0 + 1)) (wrap64 (2 * d))) = some ce) (h2 : impl_Queue_code.f d g x1 = some cf) :
  Calls Tryd.prog 20 #[.pointer (some ⟨gx, 0, none⟩), .agg #[.int .i64 d, .int .i64 g], .int .u8 lt] w fun e w' => e = .returned (.tuple #[]) ∧ w'.heap[gx]? = some (.cells #[.int .i64 (Int.tmod (wrap64 (x0 + 1)) (wrap64 (2 * d))), .int .i64 x1, .int .i64 cf, .int .i64 x3, .int .i64 (Go.bits .xor .i64 (cb) (ce)), .int .i64 x5, .int .i64 (wrap64 (x6 + 1))] 48 (0, 0)) ∧ Kept w w' (fun b => b = gx) ∧ Below 0 w w' := by
 have hu := Tryd.underlying27
 have hu2 := Tryd.underlying48
 have HX := Aside0.mk hx
 have HR0 := Aside0.mk hR
 clear hx hR
 have HC := Aside0.mk hc; have HB0 := Aside0.mk h0; have HB1 := Aside0.mk h1; have HB2 := Aside0.mk h2
 clear hc h0 h1 h2
 subst hl
 have t1 : decide (Int.tmod (wrap64 (wrap64 (x0 - cn) + wrap64 (2 * d))) (wrap64 (2 * d)) < d) = true := decide_eq_true ht
 go_enter Tryd.func20, Tryd.ntmps20
 go_wp2_with (fail)
 obtain ⟨wr, hwr⟩ : ∃ z, z = w.alloc (.cells #[.int .i64 d, .int .i64 g] 27) := ⟨_, rfl⟩
 rw [← hwr]
 have hb : Below w.heap.size w wr := by rw [hwr]; exact below_alloc (Below.refl _ _) _
 have HQ : Aside0 (wr.heap[w.heap.size]? = some (.cells #[.int .i64 d, .int .i64 g] 27 (0, 0))) := ⟨by rw [hwr]; simpa using heap_alloc_new w _⟩
 have HNE : Aside0 (w.heap.size ≠ gx) := ⟨by have := blk_lt HX.out; omega⟩
 have KP : Aside0 (Kept w wr (fun b => b = gx)) := ⟨Kept.of_below hb _⟩
 have HZ : Aside0 (Below 0 w wr) := ⟨Below.mono hb (Nat.zero_le _)⟩
 replace HX := Aside0.mk (blk_below HX.out hb)
 clear hwr hb
 obtain ⟨gq, hgq⟩ : ∃ z, z = w.heap.size := ⟨_, rfl⟩
 rw [← hgq] at HQ HNE ⊢
 clear hgq
 have hb : Below wr.heap.size wr wr.drew := below_drew1 (Below.refl _ _)
 replace KP := Aside0.mk (Kept.then_ KP.out (Kept.of_below hb (fun b => b = gx)) (fun b hb => .inl hb)); replace HX := Aside0.mk (blk_below HX.out hb); replace HQ := Aside0.mk (blk_below HQ.out hb); replace HZ := Aside0.mk (Below.trans HZ.out (Below.mono hb (Nat.zero_le _))); clear hb
 refine start_ (n := 18) (S := fun w' => True) (ds := []) #[false, false, false, false, false, false, false, false, false, false, false, false, false, false, false, false, false, false] (by kernel_rfl) rfl rfl trivial (fun hHeld => ?_)
 refine with_tabW impl_queueState_step.tab3 impl_queueState_step.bits3 (fun HT_ HW_ => ?_)
 generalize wr.drew = wk1 at KP HX HQ HZ hHeld ⊢
 refine pure_ (i := 0) (N := some 15) (v := ?_) (a' := ?_) #[true, false, false, false, false, false, false, false, false, false, false, false, false, false, false, false, false, false] rfl rfl (any_of HT_.out (by kernel_rfl)) (fun _ _ _ h => h) (Or.inl ⟨by rfl, ?_⟩) ?_ ?_
 rotate_left
 ·intro w'
  go_simp
  with_reducible rfl
 rotate_left
 ·simp only [Act.put, List.setIfInBounds_toArray, List.set_cons_zero, List.set_cons_succ, i64_w, i32_w]
  rfl
 refine pure_ (i := 5) (N := some 20) (v := ?_) (a' := ?_) #[true, false, false, false, false, true, false, false, false, false, false, false, false, false, false, false, false, false] rfl rfl (any_of HT_.out (by kernel_rfl)) (fun _ _ _ h => h) (Or.inl ⟨by rfl, ?_⟩) ?_ ?_
 rotate_left
 ·intro w'
  go_simp
  with_reducible rfl
 rotate_left
 ·simp only [Act.put, List.setIfInBounds_toArray, List.set_cons_zero, List.set_cons_succ, i64_w, i32_w]
  rfl
 refine pure_ (i := 11) (N := some 26) (v := ?_) (a' := ?_) #[true, false, false, false, false, true, false, false, false, false, false, true, false, false, false, false, false, false] rfl rfl (any_of HT_.out (by kernel_rfl)) (fun _ _ _ h => h) (Or.inl ⟨by rfl, ?_⟩) ?_ ?_
 rotate_left
 ·intro w'
  go_simp
  with_reducible rfl
 rotate_left
 ·simp only [Act.put, List.setIfInBounds_toArray, List.set_cons_zero, List.set_cons_succ, i64_w, i32_w]
  rfl
 refine pure_ (i := 13) (N := some 28) (v := ?_) (a' := ?_) #[true, false, false, false, false, true, false, false, false, false, false, true, false, true, false, false, false, false] rfl rfl (any_of HT_.out (by kernel_rfl)) (fun _ _ _ h => h) (Or.inl ⟨by rfl, ?_⟩) ?_ ?_
 rotate_left
 ·intro w'
  go_simp
  with_reducible rfl
 rotate_left
 ·simp only [Act.put, List.setIfInBounds_toArray, List.set_cons_zero, List.set_cons_succ, i64_w, i32_w]
  rfl
 refine pure_ (i := 15) (N := some 30) (v := ?_) (a' := ?_) #[true, false, false, false, false, true, false, false, false, false, false, true, false, true, false, true, false, false] rfl rfl (any_of HT_.out (by kernel_rfl)) (fun _ _ _ h => h) (Or.inl ⟨by rfl, ?_⟩) ?_ ?_
 rotate_left
 ·intro w'
  go_simp
  with_reducible rfl
 rotate_left
 ·simp only [Act.put, List.setIfInBounds_toArray, List.set_cons_zero, List.set_cons_succ, i64_w, i32_w]
  rfl
 refine inv_at [1, 2, 3, 4, 6, 7, 8, 9, 10, 12, 14, 16, 17] (fun a0_ b a w' => a = putSel a0_ b [(1, 16, .pointer (some ⟨gx, 0, none⟩)), (2, 17, .pointer (some ⟨gx, 0, none⟩)), (3, 18, .int .i64 x0), (4, 19, .agg #[.int .i64 d, .int .i64 g]), (6, 21, .pointer (some ⟨gx, 0, none⟩)), (7, 22, .pointer (some ⟨gx, 2, none⟩)), (8, 23, .int .i64 x2), (9, 24, .int .i64 cn), (10, 25, .int .i64 (wrap64 (x0 - cn))), (12, 27, .int .i64 (wrap64 (((wrap64 (x0 - cn))) + ((wrap64 (2 * d)))))), (14, 29, .int .i64 (Int.tmod ((wrap64 (((wrap64 (x0 - cn))) + ((wrap64 (2 * d)))))) ((wrap64 (2 * d))))), (16, 31, .int .i64 d), (17, 32, .bool (decide (((Int.tmod ((wrap64 (((wrap64 (x0 - cn))) + ((wrap64 (2 * d)))))) ((wrap64 (2 * d))))) < (d))))] ∧ (Below 0 w w') ∧ (Kept w w' (fun b => b = gx)) ∧ (w'.heap[gx]? = some (.cells #[.int .i64 x0, .int .i64 x1, .int .i64 x2, .int .i64 x3, .int .i64 x4, .int .i64 x5, .int .i64 x6] 48 (0, 0))) ∧ (w'.heap[gq]? = some (.cells #[.int .i64 d, .int .i64 g] 27 (0, 0)))) HT_.out HW_.out (by kernel_rfl) (by kernel_rfl) ?_ ?_ ?_
 ·exact ⟨by simp only [putSel, Bool.false_eq_true, if_false], HZ.out, KP.out, HX.out, HQ.out⟩
 ·skip
  clear HQ HX HZ KP
  refine steps_cons ?_ ?_
  ·rintro b a w' ⟨ha, Q_HZ, Q_KP, Q_HX, Q_HQ⟩ hb_ hon hoff
   refine ⟨_, rfl, fun K hK => ?_⟩
   have e15 : a.tmps[15]? = some (.pointer (some ⟨gx, 0, none⟩)) := by rw [ha]; exact (putSel_off rfl).trans rfl
   replace ha := Aside0.mk ha
   have HZ := Aside0.mk Q_HZ
   have KP := Aside0.mk Q_KP
   have HX := Aside0.mk Q_HX
   have HQ := Aside0.mk Q_HQ
   refine value_ (w1 := w') (v := .pointer (some ⟨gx, 0, none⟩)) (by rfl) rfl ?_ ?_
   ·go_simp
    (try simp only [i64_w])
    try rfl
   refine hK.out _ _ ⟨(by rw [ha.out]; exact putSel_upk 0 hb_ rfl rfl rfl), Q_HZ, Q_KP, Q_HX, Q_HQ⟩
  refine steps_cons ?_ ?_
  ·rintro b a w' ⟨ha, Q_HZ, Q_KP, Q_HX, Q_HQ⟩ hb_ hon hoff
   refine ⟨_, rfl, fun K hK => ?_⟩
   have e16 : a.tmps[16]? = some (.pointer (some ⟨gx, 0, none⟩)) := by rw [ha]; exact putSel_on (e := (1, 16, .pointer (some ⟨gx, 0, none⟩))) 0 rfl rfl (hon 1 (by kernel_rfl)) rfl
   replace ha := Aside0.mk ha
   have HZ := Aside0.mk Q_HZ
   have KP := Aside0.mk Q_KP
   have HX := Aside0.mk Q_HX
   have HQ := Aside0.mk Q_HQ
   refine value_ (w1 := w') (v := .pointer (some ⟨gx, 0, none⟩)) (by rfl) rfl ?_ ?_
   ·go_simp
    (try simp only [i64_w])
    try rfl
   refine hK.out _ _ ⟨(by rw [ha.out]; exact putSel_upk 1 hb_ rfl rfl rfl), Q_HZ, Q_KP, Q_HX, Q_HQ⟩
  refine steps_cons ?_ ?_
  ·rintro b a w' ⟨ha, Q_HZ, Q_KP, Q_HX, Q_HQ⟩ hb_ hon hoff
   refine ⟨_, rfl, fun K hK => ?_⟩
   have e17 : a.tmps[17]? = some (.pointer (some ⟨gx, 0, none⟩)) := by rw [ha]; exact putSel_on (e := (2, 17, .pointer (some ⟨gx, 0, none⟩))) 1 rfl rfl (hon 2 (by kernel_rfl)) rfl
   replace ha := Aside0.mk ha
   have HZ := Aside0.mk Q_HZ
   have KP := Aside0.mk Q_KP
   have HX := Aside0.mk Q_HX
   have HQ := Aside0.mk Q_HQ
   have hc0_ : w'.cell? ⟨gx, 0, none⟩ = some (.int .i64 x0) := (blk_cell HX.out 0).trans rfl
   refine value_ (w1 := w') (v := .int .i64 x0) (by rfl) rfl ?_ ?_
   ·go_simp
    (try simp only [i64_w])
    try rfl
   refine hK.out _ _ ⟨(by rw [ha.out]; exact putSel_upk 2 hb_ rfl rfl rfl), Q_HZ, Q_KP, Q_HX, Q_HQ⟩
  refine steps_cons ?_ ?_
  ·rintro b a w' ⟨ha, Q_HZ, Q_KP, Q_HX, Q_HQ⟩ hb_ hon hoff
   refine ⟨_, rfl, fun K hK => ?_⟩
   have e4 : a.tmps[4]? = some (.pointer (some ⟨gq, 0, none⟩)) := by rw [ha]; exact (putSel_off rfl).trans rfl
   replace ha := Aside0.mk ha
   have HZ := Aside0.mk Q_HZ
   have KP := Aside0.mk Q_KP
   have HX := Aside0.mk Q_HX
   have HQ := Aside0.mk Q_HQ
   have hc0_ : w'.cell? ⟨gq, 0, none⟩ = some (.int .i64 d) := (blk_cell HQ.out 0).trans rfl
   have hc1_ : w'.cell? ⟨gq, 1, none⟩ = some (.int .i64 g) := (blk_cell HQ.out 1).trans rfl
   refine value_ (w1 := w') (v := .agg #[.int .i64 d, .int .i64 g]) (by rfl) rfl ?_ ?_
   ·go_simp
    (try simp only [i64_w])
    try rfl
   refine hK.out _ _ ⟨(by rw [ha.out]; exact putSel_upk 3 hb_ rfl rfl rfl), Q_HZ, Q_KP, Q_HX, Q_HQ⟩
  refine steps_cons ?_ ?_
  ·rintro b a w' ⟨ha, Q_HZ, Q_KP, Q_HX, Q_HQ⟩ hb_ hon hoff
   refine ⟨_, rfl, fun K hK => ?_⟩
   have e20 : a.tmps[20]? = some (.pointer (some ⟨gx, 0, none⟩)) := by rw [ha]; exact (putSel_off rfl).trans rfl
   replace ha := Aside0.mk ha
   have HZ := Aside0.mk Q_HZ
   have KP := Aside0.mk Q_KP
   have HX := Aside0.mk Q_HX
   have HQ := Aside0.mk Q_HQ
   refine value_ (w1 := w') (v := .pointer (some ⟨gx, 0, none⟩)) (by rfl) rfl ?_ ?_
   ·go_simp
    (try simp only [i64_w])
    try rfl
   refine hK.out _ _ ⟨(by rw [ha.out]; exact putSel_upk 4 hb_ rfl rfl rfl), Q_HZ, Q_KP, Q_HX, Q_HQ⟩
  refine steps_cons ?_ ?_
  ·rintro b a w' ⟨ha, Q_HZ, Q_KP, Q_HX, Q_HQ⟩ hb_ hon hoff
   refine ⟨_, rfl, fun K hK => ?_⟩
   have e21 : a.tmps[21]? = some (.pointer (some ⟨gx, 0, none⟩)) := by rw [ha]; exact putSel_on (e := (6, 21, .pointer (some ⟨gx, 0, none⟩))) 4 rfl rfl (hon 6 (by kernel_rfl)) rfl
   replace ha := Aside0.mk ha
   have HZ := Aside0.mk Q_HZ
   have KP := Aside0.mk Q_KP
   have HX := Aside0.mk Q_HX
   have HQ := Aside0.mk Q_HQ
   refine value_ (w1 := w') (v := .pointer (some ⟨gx, 2, none⟩)) (by rfl) rfl ?_ ?_
   ·go_simp
    (try simp only [i64_w])
    try rfl
   refine hK.out _ _ ⟨(by rw [ha.out]; exact putSel_upk 5 hb_ rfl rfl rfl), Q_HZ, Q_KP, Q_HX, Q_HQ⟩
  refine steps_cons ?_ ?_
  ·rintro b a w' ⟨ha, Q_HZ, Q_KP, Q_HX, Q_HQ⟩ hb_ hon hoff
   refine ⟨_, rfl, fun K hK => ?_⟩
   have e22 : a.tmps[22]? = some (.pointer (some ⟨gx, 2, none⟩)) := by rw [ha]; exact putSel_on (e := (7, 22, .pointer (some ⟨gx, 2, none⟩))) 5 rfl rfl (hon 7 (by kernel_rfl)) rfl
   replace ha := Aside0.mk ha
   have HZ := Aside0.mk Q_HZ
   have KP := Aside0.mk Q_KP
   have HX := Aside0.mk Q_HX
   have HQ := Aside0.mk Q_HQ
   have hc2_ : w'.cell? ⟨gx, 2, none⟩ = some (.int .i64 x2) := (blk_cell HX.out 2).trans rfl
   refine value_ (w1 := w') (v := .int .i64 x2) (by rfl) rfl ?_ ?_
   ·go_simp
    (try simp only [i64_w])
    try rfl
   refine hK.out _ _ ⟨(by rw [ha.out]; exact putSel_upk 6 hb_ rfl rfl rfl), Q_HZ, Q_KP, Q_HX, Q_HQ⟩
  refine steps_cons ?_ ?_
  ·rintro b a w' ⟨ha, Q_HZ, Q_KP, Q_HX, Q_HQ⟩ hb_ hon hoff
   refine ⟨_, rfl, fun K hK => ?_⟩
   have e19 : a.tmps[19]? = some (.agg #[.int .i64 d, .int .i64 g]) := by rw [ha]; exact putSel_on (e := (4, 19, .agg #[.int .i64 d, .int .i64 g])) 3 rfl rfl (hon 4 (by kernel_rfl)) rfl
   have e23 : a.tmps[23]? = some (.int .i64 x2) := by rw [ha]; exact putSel_on (e := (8, 23, .int .i64 x2)) 6 rfl rfl (hon 8 (by kernel_rfl)) rfl
   replace ha := Aside0.mk ha
   have HZ := Aside0.mk Q_HZ
   have KP := Aside0.mk Q_KP
   have HX := Aside0.mk Q_HX
   have HQ := Aside0.mk Q_HQ
   refine goes_ Tryd.func34 (by kernel_rfl) rfl #[.agg #[.int .i64 d, .int .i64 g], .int .i64 x2] (by rfl) rfl rfl (by first | (simp only [List.map_toArray, List.map_cons, List.map_nil, Act.eval, Array.getD_eq_getD_getElem?, Option.getD_some, e19, e23]; done) | (simp only [List.map_toArray, List.map_cons, List.map_nil, Act.eval, Array.getD_eq_getD_getElem?, Option.getD_some, e19, e23]; rfl)) ?_
   refine (impl_Queue_count.calls k d g x2 cn w' HC.out).mono ?_
   rintro e w5 ⟨rfl, hb⟩
   refine ⟨_, rfl, ?_⟩
   refine hK.out _ _ ⟨(by rw [ha.out]; exact putSel_upk 7 hb_ rfl rfl rfl), Below.trans HZ.out (Below.mono hb (Nat.zero_le _)), Kept.then_ KP.out (Kept.of_below hb (fun b => b = gx)) (fun b hb => .inl hb), blk_below HX.out hb, blk_below HQ.out hb⟩
  refine steps_cons ?_ ?_
  ·rintro b a w' ⟨ha, Q_HZ, Q_KP, Q_HX, Q_HQ⟩ hb_ hon hoff
   refine ⟨_, rfl, fun K hK => ?_⟩
   have e18 : a.tmps[18]? = some (.int .i64 x0) := by rw [ha]; exact putSel_on (e := (3, 18, .int .i64 x0)) 2 rfl rfl (hon 3 (by kernel_rfl)) rfl
   have e24 : a.tmps[24]? = some (.int .i64 cn) := by rw [ha]; exact putSel_on (e := (9, 24, .int .i64 cn)) 7 rfl rfl (hon 9 (by kernel_rfl)) rfl
   replace ha := Aside0.mk ha
   have HZ := Aside0.mk Q_HZ
   have KP := Aside0.mk Q_KP
   have HX := Aside0.mk Q_HX
   have HQ := Aside0.mk Q_HQ
   refine value_ (w1 := w') (v := .int .i64 (wrap64 (x0 - cn))) (by rfl) rfl ?_ ?_
   ·go_simp
    (try simp only [i64_w])
    try rfl
   refine hK.out _ _ ⟨(by rw [ha.out]; exact putSel_upk 8 hb_ rfl rfl rfl), Q_HZ, Q_KP, Q_HX, Q_HQ⟩
  refine steps_cons ?_ ?_
  ·rintro b a w' ⟨ha, Q_HZ, Q_KP, Q_HX, Q_HQ⟩ hb_ hon hoff
   refine ⟨_, rfl, fun K hK => ?_⟩
   have e25 : a.tmps[25]? = some (.int .i64 (wrap64 (x0 - cn))) := by rw [ha]; exact putSel_on (e := (10, 25, .int .i64 (wrap64 (x0 - cn)))) 8 rfl rfl (hon 10 (by kernel_rfl)) rfl
   have e26 : a.tmps[26]? = some (.int .i64 (wrap64 (2 * d))) := by rw [ha]; exact (putSel_off rfl).trans rfl
   replace ha := Aside0.mk ha
   have HZ := Aside0.mk Q_HZ
   have KP := Aside0.mk Q_KP
   have HX := Aside0.mk Q_HX
   have HQ := Aside0.mk Q_HQ
   refine value_ (w1 := w') (v := .int .i64 (wrap64 (((wrap64 (x0 - cn))) + ((wrap64 (2 * d)))))) (by rfl) rfl ?_ ?_
   ·go_simp
    (try simp only [i64_w])
    try rfl
   refine hK.out _ _ ⟨(by rw [ha.out]; exact putSel_upk 9 hb_ rfl rfl rfl), Q_HZ, Q_KP, Q_HX, Q_HQ⟩
  refine steps_cons ?_ ?_
  ·rintro b a w' ⟨ha, Q_HZ, Q_KP, Q_HX, Q_HQ⟩ hb_ hon hoff
   refine ⟨_, rfl, fun K hK => ?_⟩
   have e27 : a.tmps[27]? = some (.int .i64 (wrap64 (((wrap64 (x0 - cn))) + ((wrap64 (2 * d)))))) := by rw [ha]; exact putSel_on (e := (12, 27, .int .i64 (wrap64 (((wrap64 (x0 - cn))) + ((wrap64 (2 * d))))))) 9 rfl rfl (hon 12 (by kernel_rfl)) rfl
   have e28 : a.tmps[28]? = some (.int .i64 (wrap64 (2 * d))) := by rw [ha]; exact (putSel_off rfl).trans rfl
   replace ha := Aside0.mk ha
   have HZ := Aside0.mk Q_HZ
   have KP := Aside0.mk Q_KP
   have HX := Aside0.mk Q_HX
   have HQ := Aside0.mk Q_HQ
   have hr_ := HR0.out
   refine value_ (w1 := w') (v := .int .i64 (Int.tmod ((wrap64 (((wrap64 (x0 - cn))) + ((wrap64 (2 * d)))))) ((wrap64 (2 * d))))) (by rfl) rfl ?_ ?_
   ·go_simp
    (try simp only [i64_w])
    try rfl
   refine hK.out _ _ ⟨(by rw [ha.out]; exact putSel_upk 10 hb_ rfl rfl rfl), Q_HZ, Q_KP, Q_HX, Q_HQ⟩
  refine steps_cons ?_ ?_
  ·rintro b a w' ⟨ha, Q_HZ, Q_KP, Q_HX, Q_HQ⟩ hb_ hon hoff
   refine ⟨_, rfl, fun K hK => ?_⟩
   have e30 : a.tmps[30]? = some (.pointer (some ⟨gq, 0, none⟩)) := by rw [ha]; exact (putSel_off rfl).trans rfl
   replace ha := Aside0.mk ha
   have HZ := Aside0.mk Q_HZ
   have KP := Aside0.mk Q_KP
   have HX := Aside0.mk Q_HX
   have HQ := Aside0.mk Q_HQ
   have hc0_ : w'.cell? ⟨gq, 0, none⟩ = some (.int .i64 d) := (blk_cell HQ.out 0).trans rfl
   refine value_ (w1 := w') (v := .int .i64 d) (by rfl) rfl ?_ ?_
   ·go_simp
    (try simp only [i64_w])
    try rfl
   refine hK.out _ _ ⟨(by rw [ha.out]; exact putSel_upk 11 hb_ rfl rfl rfl), Q_HZ, Q_KP, Q_HX, Q_HQ⟩
  refine steps_cons ?_ ?_
  ·rintro b a w' ⟨ha, Q_HZ, Q_KP, Q_HX, Q_HQ⟩ hb_ hon hoff
   refine ⟨_, rfl, fun K hK => ?_⟩
   have e29 : a.tmps[29]? = some (.int .i64 (Int.tmod ((wrap64 (((wrap64 (x0 - cn))) + ((wrap64 (2 * d)))))) ((wrap64 (2 * d))))) := by rw [ha]; exact putSel_on (e := (14, 29, .int .i64 (Int.tmod ((wrap64 (((wrap64 (x0 - cn))) + ((wrap64 (2 * d)))))) ((wrap64 (2 * d)))))) 10 rfl rfl (hon 14 (by kernel_rfl)) rfl
   have e31 : a.tmps[31]? = some (.int .i64 d) := by rw [ha]; exact putSel_on (e := (16, 31, .int .i64 d)) 11 rfl rfl (hon 16 (by kernel_rfl)) rfl
   replace ha := Aside0.mk ha
   have HZ := Aside0.mk Q_HZ
   have KP := Aside0.mk Q_KP
   have HX := Aside0.mk Q_HX
   have HQ := Aside0.mk Q_HQ
   refine value_ (w1 := w') (v := .bool (decide (((Int.tmod ((wrap64 (((wrap64 (x0 - cn))) + ((wrap64 (2 * d)))))) ((wrap64 (2 * d))))) < (d)))) (by rfl) rfl ?_ ?_
   ·go_simp
    (try simp only [i64_w])
    try rfl
   refine hK.out _ _ ⟨(by rw [ha.out]; exact putSel_upk 12 hb_ rfl rfl rfl), Q_HZ, Q_KP, Q_HX, Q_HQ⟩
  exact steps_nil
 rintro b a w21 hall ⟨ha, Q_HZ, Q_KP, Q_HX, Q_HQ⟩
 clear HQ HX HZ KP
 have hb1_ := hall 1 (by kernel_rfl)
 have hb2_ := hall 2 (by kernel_rfl)
 have hb3_ := hall 3 (by kernel_rfl)
 have hb4_ := hall 4 (by kernel_rfl)
 have hb6_ := hall 6 (by kernel_rfl)
 have hb7_ := hall 7 (by kernel_rfl)
 have hb8_ := hall 8 (by kernel_rfl)
 have hb9_ := hall 9 (by kernel_rfl)
 have hb10_ := hall 10 (by kernel_rfl)
 have hb12_ := hall 12 (by kernel_rfl)
 have hb14_ := hall 14 (by kernel_rfl)
 have hb16_ := hall 16 (by kernel_rfl)
 have hb17_ := hall 17 (by kernel_rfl)
 subst ha
 simp only [putSel, hb1_, hb2_, hb3_, hb4_, hb6_, hb7_, hb8_, hb9_, hb10_, hb12_, hb14_, hb16_, hb17_, if_true, Act.put, List.setIfInBounds_toArray, List.set_cons_zero, List.set_cons_succ]
 have HZ := Aside0.mk Q_HZ
 clear Q_HZ
 have KP := Aside0.mk Q_KP
 clear Q_KP
 have HX := Aside0.mk Q_HX
 clear Q_HX
 have HQ := Aside0.mk Q_HQ
 clear Q_HQ
 clear hall hb1_ hb2_ hb3_ hb4_ hb6_ hb7_ hb8_ hb9_ hb10_ hb12_ hb14_ hb16_ hb17_
 go_wp2_with (fail)
 have hb : Below w21.heap.size w21 w21.drew := below_drew1 (Below.refl _ _)
 replace KP := Aside0.mk (Kept.then_ KP.out (Kept.of_below hb (fun b => b = gx)) (fun b hb => .inl hb)); replace HX := Aside0.mk (blk_below HX.out hb); replace HQ := Aside0.mk (blk_below HQ.out hb); replace HZ := Aside0.mk (Below.trans HZ.out (Below.mono hb (Nat.zero_le _))); clear hb
 refine start_ (n := 7) (S := fun w' => True) (ds := []) #[false, false, false, false, false, false, false] (by kernel_rfl) rfl rfl trivial (fun hHeld => ?_)
 refine with_tabW impl_queueState_step.tab4 impl_queueState_step.bits4 (fun HT_ HW_ => ?_)
 generalize w21.drew = wk2 at KP HX HQ HZ hHeld ⊢
 refine pure_ (i := 1) (N := some 34) (v := ?_) (a' := ?_) #[false, true, false, false, false, false, false] rfl rfl (any_of HT_.out (by kernel_rfl)) (fun _ _ _ h => h) (Or.inl ⟨by rfl, ?_⟩) ?_ ?_
 rotate_left
 ·intro w'
  go_simp
  with_reducible rfl
 rotate_left
 ·simp only [Act.put, List.setIfInBounds_toArray, List.set_cons_zero, List.set_cons_succ, i64_w, i32_w]
  rfl
 refine inv_at [0, 2, 3, 4, 5, 6] (fun a0_ b a w' => a = putSel a0_ b [(0, 33, .agg #[.int .i64 d, .int .i64 g]), (2, 35, .pointer (some ⟨gx, 0, none⟩)), (3, 36, .pointer (some ⟨gx, 0, none⟩)), (4, 37, .int .i64 x0), (5, 38, .int .i64 cb), (6, 7, .int .i64 cb)] ∧ (Below 0 w w') ∧ (Kept w w' (fun b => b = gx)) ∧ (w'.heap[gx]? = some (.cells #[.int .i64 x0, .int .i64 x1, .int .i64 x2, .int .i64 x3, .int .i64 x4, .int .i64 x5, .int .i64 x6] 48 (0, 0))) ∧ (w'.heap[gq]? = some (.cells #[.int .i64 d, .int .i64 g] 27 (0, 0)))) HT_.out HW_.out (by kernel_rfl) (by kernel_rfl) ?_ ?_ ?_
 ·exact ⟨by simp only [putSel, Bool.false_eq_true, if_false], HZ.out, KP.out, HX.out, HQ.out⟩
 ·skip
  clear HQ HX HZ KP
  refine steps_cons ?_ ?_
  ·rintro b a w' ⟨ha, Q_HZ, Q_KP, Q_HX, Q_HQ⟩ hb_ hon hoff
   refine ⟨_, rfl, fun K hK => ?_⟩
   have e4 : a.tmps[4]? = some (.pointer (some ⟨gq, 0, none⟩)) := by rw [ha]; exact (putSel_off rfl).trans rfl
   replace ha := Aside0.mk ha
   have HZ := Aside0.mk Q_HZ
   have KP := Aside0.mk Q_KP
   have HX := Aside0.mk Q_HX
   have HQ := Aside0.mk Q_HQ
   have hc0_ : w'.cell? ⟨gq, 0, none⟩ = some (.int .i64 d) := (blk_cell HQ.out 0).trans rfl
   have hc1_ : w'.cell? ⟨gq, 1, none⟩ = some (.int .i64 g) := (blk_cell HQ.out 1).trans rfl
   refine value_ (w1 := w') (v := .agg #[.int .i64 d, .int .i64 g]) (by rfl) rfl ?_ ?_
   ·go_simp
    (try simp only [i64_w])
    try rfl
   refine hK.out _ _ ⟨(by rw [ha.out]; exact putSel_upk 0 hb_ rfl rfl rfl), Q_HZ, Q_KP, Q_HX, Q_HQ⟩
  refine steps_cons ?_ ?_
  ·rintro b a w' ⟨ha, Q_HZ, Q_KP, Q_HX, Q_HQ⟩ hb_ hon hoff
   refine ⟨_, rfl, fun K hK => ?_⟩
   have e34 : a.tmps[34]? = some (.pointer (some ⟨gx, 0, none⟩)) := by rw [ha]; exact (putSel_off rfl).trans rfl
   replace ha := Aside0.mk ha
   have HZ := Aside0.mk Q_HZ
   have KP := Aside0.mk Q_KP
   have HX := Aside0.mk Q_HX
   have HQ := Aside0.mk Q_HQ
   refine value_ (w1 := w') (v := .pointer (some ⟨gx, 0, none⟩)) (by rfl) rfl ?_ ?_
   ·go_simp
    (try simp only [i64_w])
    try rfl
   refine hK.out _ _ ⟨(by rw [ha.out]; exact putSel_upk 1 hb_ rfl rfl rfl), Q_HZ, Q_KP, Q_HX, Q_HQ⟩
  refine steps_cons ?_ ?_
  ·rintro b a w' ⟨ha, Q_HZ, Q_KP, Q_HX, Q_HQ⟩ hb_ hon hoff
   refine ⟨_, rfl, fun K hK => ?_⟩
   have e35 : a.tmps[35]? = some (.pointer (some ⟨gx, 0, none⟩)) := by rw [ha]; exact putSel_on (e := (2, 35, .pointer (some ⟨gx, 0, none⟩))) 1 rfl rfl (hon 2 (by kernel_rfl)) rfl
   replace ha := Aside0.mk ha
   have HZ := Aside0.mk Q_HZ
   have KP := Aside0.mk Q_KP
   have HX := Aside0.mk Q_HX
   have HQ := Aside0.mk Q_HQ
   refine value_ (w1 := w') (v := .pointer (some ⟨gx, 0, none⟩)) (by rfl) rfl ?_ ?_
   ·go_simp
    (try simp only [i64_w])
    try rfl
   refine hK.out _ _ ⟨(by rw [ha.out]; exact putSel_upk 2 hb_ rfl rfl rfl), Q_HZ, Q_KP, Q_HX, Q_HQ⟩
  refine steps_cons ?_ ?_
  ·rintro b a w' ⟨ha, Q_HZ, Q_KP, Q_HX, Q_HQ⟩ hb_ hon hoff
   refine ⟨_, rfl, fun K hK => ?_⟩
   have e36 : a.tmps[36]? = some (.pointer (some ⟨gx, 0, none⟩)) := by rw [ha]; exact putSel_on (e := (3, 36, .pointer (some ⟨gx, 0, none⟩))) 2 rfl rfl (hon 3 (by kernel_rfl)) rfl
   replace ha := Aside0.mk ha
   have HZ := Aside0.mk Q_HZ
   have KP := Aside0.mk Q_KP
   have HX := Aside0.mk Q_HX
   have HQ := Aside0.mk Q_HQ
   have hc0_ : w'.cell? ⟨gx, 0, none⟩ = some (.int .i64 x0) := (blk_cell HX.out 0).trans rfl
   refine value_ (w1 := w') (v := .int .i64 x0) (by rfl) rfl ?_ ?_
   ·go_simp
    (try simp only [i64_w])
    try rfl
   refine hK.out _ _ ⟨(by rw [ha.out]; exact putSel_upk 3 hb_ rfl rfl rfl), Q_HZ, Q_KP, Q_HX, Q_HQ⟩
  refine steps_cons ?_ ?_
  ·rintro b a w' ⟨ha, Q_HZ, Q_KP, Q_HX, Q_HQ⟩ hb_ hon hoff
   refine ⟨_, rfl, fun K hK => ?_⟩
   have e33 : a.tmps[33]? = some (.agg #[.int .i64 d, .int .i64 g]) := by rw [ha]; exact putSel_on (e := (0, 33, .agg #[.int .i64 d, .int .i64 g])) 0 rfl rfl (hon 0 (by kernel_rfl)) rfl
   have e37 : a.tmps[37]? = some (.int .i64 x0) := by rw [ha]; exact putSel_on (e := (4, 37, .int .i64 x0)) 3 rfl rfl (hon 4 (by kernel_rfl)) rfl
   replace ha := Aside0.mk ha
   have HZ := Aside0.mk Q_HZ
   have KP := Aside0.mk Q_KP
   have HX := Aside0.mk Q_HX
   have HQ := Aside0.mk Q_HQ
   refine goes_ Tryd.func35 (by kernel_rfl) rfl #[.agg #[.int .i64 d, .int .i64 g], .int .i64 x0] (by rfl) rfl rfl (by first | (simp only [List.map_toArray, List.map_cons, List.map_nil, Act.eval, Array.getD_eq_getD_getElem?, Option.getD_some, e33, e37]; done) | (simp only [List.map_toArray, List.map_cons, List.map_nil, Act.eval, Array.getD_eq_getD_getElem?, Option.getD_some, e33, e37]; rfl)) ?_
   refine (impl_Queue_code.calls d g (x0) cb w' HB0.out).mono ?_
   rintro e w5 ⟨rfl, hb⟩
   refine ⟨_, rfl, ?_⟩
   refine hK.out _ _ ⟨(by rw [ha.out]; exact putSel_upk 4 hb_ rfl rfl rfl), Below.trans HZ.out (Below.mono hb (Nat.zero_le _)), Kept.then_ KP.out (Kept.of_below hb (fun b => b = gx)) (fun b hb => .inl hb), blk_below HX.out hb, blk_below HQ.out hb⟩
  refine steps_cons ?_ ?_
  ·rintro b a w' ⟨ha, Q_HZ, Q_KP, Q_HX, Q_HQ⟩ hb_ hon hoff
   refine ⟨_, rfl, fun K hK => ?_⟩
   have e38 : a.tmps[38]? = some (.int .i64 cb) := by rw [ha]; exact putSel_on (e := (5, 38, .int .i64 cb)) 4 rfl rfl (hon 5 (by kernel_rfl)) rfl
   replace ha := Aside0.mk ha
   have HZ := Aside0.mk Q_HZ
   have KP := Aside0.mk Q_KP
   have HX := Aside0.mk Q_HX
   have HQ := Aside0.mk Q_HQ
   refine value_ (w1 := w') (v := .int .i64 cb) (by rfl) rfl ?_ ?_
   ·go_simp
    (try simp only [i64_w])
    try rfl
   refine hK.out _ _ ⟨(by rw [ha.out]; exact putSel_upk 5 hb_ rfl rfl rfl), Q_HZ, Q_KP, Q_HX, Q_HQ⟩
  exact steps_nil
 rintro b a w22 hall ⟨ha, Q_HZ, Q_KP, Q_HX, Q_HQ⟩
 clear HQ HX HZ KP
 have hb0_ := hall 0 (by kernel_rfl)
 have hb2_ := hall 2 (by kernel_rfl)
 have hb3_ := hall 3 (by kernel_rfl)
 have hb4_ := hall 4 (by kernel_rfl)
 have hb5_ := hall 5 (by kernel_rfl)
 have hb6_ := hall 6 (by kernel_rfl)
 subst ha
 simp only [putSel, hb0_, hb2_, hb3_, hb4_, hb5_, hb6_, if_true, Act.put, List.setIfInBounds_toArray, List.set_cons_zero, List.set_cons_succ]
 have HZ := Aside0.mk Q_HZ
 clear Q_HZ
 have KP := Aside0.mk Q_KP
 clear Q_KP
 have HX := Aside0.mk Q_HX
 clear Q_HX
 have HQ := Aside0.mk Q_HQ
 clear Q_HQ
 clear hall hb0_ hb2_ hb3_ hb4_ hb5_ hb6_
 have b0 := blk_cell HX.out 0; have b1 := blk_frozen HX.out 0; have r0 := HR0.out; have r1 := beq_eq_false_iff_ne.mpr r0; have r2 := decide_eq_false r0; have r3 := eq_false r0
 go_wp2_with (fail)
 clear b0 b1 r0 r1 r2 r3
 replace KP := Aside0.mk (Kept.setCell KP.out (p := ⟨gx, 0, none⟩) (.inl rfl) (.int .i64 (Int.tmod (wrap64 (x0 + 1)) (wrap64 (2 * d)))))
 replace HQ := Aside0.mk (blk_far HQ.out (p := ⟨gx, 0, none⟩) HNE.out (.int .i64 (Int.tmod (wrap64 (x0 + 1)) (wrap64 (2 * d)))))
 replace HX := Aside0.mk (blk_put HX.out 0 (.int .i64 (Int.tmod (wrap64 (x0 + 1)) (wrap64 (2 * d)))) rfl)
 replace HZ := Aside0.mk (Below.setCell HZ.out (p := ⟨gx, 0, none⟩) (Nat.zero_le _) (.int .i64 (Int.tmod (wrap64 (x0 + 1)) (wrap64 (2 * d)))))
 generalize w22.setCell ⟨gx, 0, none⟩ (.int .i64 (Int.tmod (wrap64 (x0 + 1)) (wrap64 (2 * d)))) = w23 at KP HX HQ HZ ⊢
 have hb : Below w23.heap.size w23 w23.drew := below_drew1 (Below.refl _ _)
 replace KP := Aside0.mk (Kept.then_ KP.out (Kept.of_below hb (fun b => b = gx)) (fun b hb => .inl hb)); replace HX := Aside0.mk (blk_below HX.out hb); replace HQ := Aside0.mk (blk_below HQ.out hb); replace HZ := Aside0.mk (Below.trans HZ.out (Below.mono hb (Nat.zero_le _))); clear hb
 refine start_ (n := 12) (S := fun w' => True) (ds := []) #[false, false, false, false, false, false, false, false, false, false, false, false] (by kernel_rfl) rfl rfl trivial (fun hHeld => ?_)
 refine with_tabW impl_queueState_step.tab6 impl_queueState_step.bits6 (fun HT_ HW_ => ?_)
 generalize w23.drew = wk4 at KP HX HQ HZ hHeld ⊢
 refine pure_ (i := 0) (N := some 49) (v := ?_) (a' := ?_) #[true, false, false, false, false, false, false, false, false, false, false, false] rfl rfl (any_of HT_.out (by kernel_rfl)) (fun _ _ _ h => h) (Or.inl ⟨by rfl, ?_⟩) ?_ ?_
 rotate_left
 ·intro w'
  go_simp
  with_reducible rfl
 rotate_left
 ·simp only [Act.put, List.setIfInBounds_toArray, List.set_cons_zero, List.set_cons_succ, i64_w, i32_w]
  rfl
 refine pure_ (i := 1) (N := some 50) (v := ?_) (a' := ?_) #[true, true, false, false, false, false, false, false, false, false, false, false] rfl rfl (any_of HT_.out (by kernel_rfl)) (fun _ _ _ h => h) (Or.inl ⟨by rfl, ?_⟩) ?_ ?_
 rotate_left
 ·intro w'
  go_simp
  with_reducible rfl
 rotate_left
 ·simp only [Act.put, List.setIfInBounds_toArray, List.set_cons_zero, List.set_cons_succ, i64_w, i32_w]
  rfl
 refine pure_ (i := 3) (N := some 52) (v := ?_) (a' := ?_) #[true, true, false, true, false, false, false, false, false, false, false, false] rfl rfl (any_of HT_.out (by kernel_rfl)) (fun _ _ _ h => h) (Or.inl ⟨by rfl, ?_⟩) ?_ ?_
 rotate_left
 ·intro w'
  go_simp
  with_reducible rfl
 rotate_left
 ·simp only [Act.put, List.setIfInBounds_toArray, List.set_cons_zero, List.set_cons_succ, i64_w, i32_w]
  rfl
 refine inv_at [2, 4, 5, 6, 7, 8, 9, 10, 11] (fun a0_ b a w' => a = putSel a0_ b [(2, 51, .agg #[.int .i64 d, .int .i64 g]), (4, 53, .pointer (some ⟨gx, 0, none⟩)), (5, 54, .pointer (some ⟨gx, 0, none⟩)), (6, 55, .int .i64 (Int.tmod (wrap64 (x0 + 1)) (wrap64 (2 * d)))), (7, 56, .int .i64 ce), (8, 57, .int .i64 (Go.bits .xor .i64 (cb) (ce))), (9, 58, .pointer (some ⟨gx, 0, none⟩)), (10, 59, .pointer (some ⟨gx, 4, none⟩))] ∧ (Below 0 w w') ∧ (Kept w w' (fun b => b = gx)) ∧ (b 11 = false → w'.heap[gx]? = some (.cells #[.int .i64 (Int.tmod (wrap64 (x0 + 1)) (wrap64 (2 * d))), .int .i64 x1, .int .i64 x2, .int .i64 x3, .int .i64 x4, .int .i64 x5, .int .i64 x6] 48 (0, 0))) ∧ (w'.heap[gq]? = some (.cells #[.int .i64 d, .int .i64 g] 27 (0, 0))) ∧ (b 11 = true → w'.heap[gx]? = some (.cells #[.int .i64 (Int.tmod (wrap64 (x0 + 1)) (wrap64 (2 * d))), .int .i64 x1, .int .i64 x2, .int .i64 x3, .int .i64 (Go.bits .xor .i64 (cb) (ce)), .int .i64 x5, .int .i64 x6] 48 (0, 0)))) HT_.out HW_.out (by kernel_rfl) (by kernel_rfl) ?_ ?_ ?_
 ·exact ⟨by simp only [putSel, Bool.false_eq_true, if_false], HZ.out, KP.out, fun _ => HX.out, HQ.out, fun h_ => absurd h_ (by decide)⟩
 ·skip
  clear HQ HX HZ KP
  refine steps_cons ?_ ?_
  ·rintro b a w' ⟨ha, Q_HZ, Q_KP, Q_HX, Q_HQ, Q_HXn⟩ hb_ hon hoff
   refine ⟨_, rfl, fun K hK => ?_⟩
   have e4 : a.tmps[4]? = some (.pointer (some ⟨gq, 0, none⟩)) := by rw [ha]; exact (putSel_off rfl).trans rfl
   replace ha := Aside0.mk ha
   have HZ := Aside0.mk Q_HZ
   have KP := Aside0.mk Q_KP
   have HX := Aside0.mk (Q_HX (hoff 11 (by kernel_rfl)))
   have HQ := Aside0.mk Q_HQ
   have hc0_ : w'.cell? ⟨gq, 0, none⟩ = some (.int .i64 d) := (blk_cell HQ.out 0).trans rfl
   have hc1_ : w'.cell? ⟨gq, 1, none⟩ = some (.int .i64 g) := (blk_cell HQ.out 1).trans rfl
   refine value_ (w1 := w') (v := .agg #[.int .i64 d, .int .i64 g]) (by rfl) rfl ?_ ?_
   ·go_simp
    (try simp only [i64_w])
    try rfl
   refine hK.out _ _ ⟨(by rw [ha.out]; exact putSel_upk 0 hb_ rfl rfl rfl), Q_HZ, Q_KP, Q_HX, Q_HQ, fun h0_ => absurd ((hoff 11 (by kernel_rfl)).symm.trans h0_) (by decide)⟩
  refine steps_cons ?_ ?_
  ·rintro b a w' ⟨ha, Q_HZ, Q_KP, Q_HX, Q_HQ, Q_HXn⟩ hb_ hon hoff
   refine ⟨_, rfl, fun K hK => ?_⟩
   have e52 : a.tmps[52]? = some (.pointer (some ⟨gx, 0, none⟩)) := by rw [ha]; exact (putSel_off rfl).trans rfl
   replace ha := Aside0.mk ha
   have HZ := Aside0.mk Q_HZ
   have KP := Aside0.mk Q_KP
   have HX := Aside0.mk (Q_HX (hoff 11 (by kernel_rfl)))
   have HQ := Aside0.mk Q_HQ
   refine value_ (w1 := w') (v := .pointer (some ⟨gx, 0, none⟩)) (by rfl) rfl ?_ ?_
   ·go_simp
    (try simp only [i64_w])
    try rfl
   refine hK.out _ _ ⟨(by rw [ha.out]; exact putSel_upk 1 hb_ rfl rfl rfl), Q_HZ, Q_KP, Q_HX, Q_HQ, fun h0_ => absurd ((hoff 11 (by kernel_rfl)).symm.trans h0_) (by decide)⟩
  refine steps_cons ?_ ?_
  ·rintro b a w' ⟨ha, Q_HZ, Q_KP, Q_HX, Q_HQ, Q_HXn⟩ hb_ hon hoff
   refine ⟨_, rfl, fun K hK => ?_⟩
   have e53 : a.tmps[53]? = some (.pointer (some ⟨gx, 0, none⟩)) := by rw [ha]; exact putSel_on (e := (4, 53, .pointer (some ⟨gx, 0, none⟩))) 1 rfl rfl (hon 4 (by kernel_rfl)) rfl
   replace ha := Aside0.mk ha
   have HZ := Aside0.mk Q_HZ
   have KP := Aside0.mk Q_KP
   have HX := Aside0.mk (Q_HX (hoff 11 (by kernel_rfl)))
   have HQ := Aside0.mk Q_HQ
   refine value_ (w1 := w') (v := .pointer (some ⟨gx, 0, none⟩)) (by rfl) rfl ?_ ?_
   ·go_simp
    (try simp only [i64_w])
    try rfl
   refine hK.out _ _ ⟨(by rw [ha.out]; exact putSel_upk 2 hb_ rfl rfl rfl), Q_HZ, Q_KP, Q_HX, Q_HQ, fun h0_ => absurd ((hoff 11 (by kernel_rfl)).symm.trans h0_) (by decide)⟩
  refine steps_cons ?_ ?_
  ·rintro b a w' ⟨ha, Q_HZ, Q_KP, Q_HX, Q_HQ, Q_HXn⟩ hb_ hon hoff
   refine ⟨_, rfl, fun K hK => ?_⟩
   have e54 : a.tmps[54]? = some (.pointer (some ⟨gx, 0, none⟩)) := by rw [ha]; exact putSel_on (e := (5, 54, .pointer (some ⟨gx, 0, none⟩))) 2 rfl rfl (hon 5 (by kernel_rfl)) rfl
   replace ha := Aside0.mk ha
   have HZ := Aside0.mk Q_HZ
   have KP := Aside0.mk Q_KP
   have HX := Aside0.mk (Q_HX (hoff 11 (by kernel_rfl)))
   have HQ := Aside0.mk Q_HQ
   have hc0_ : w'.cell? ⟨gx, 0, none⟩ = some (.int .i64 (Int.tmod (wrap64 (x0 + 1)) (wrap64 (2 * d)))) := (blk_cell HX.out 0).trans rfl
   refine value_ (w1 := w') (v := .int .i64 (Int.tmod (wrap64 (x0 + 1)) (wrap64 (2 * d)))) (by rfl) rfl ?_ ?_
   ·go_simp
    (try simp only [i64_w])
    try rfl
   refine hK.out _ _ ⟨(by rw [ha.out]; exact putSel_upk 3 hb_ rfl rfl rfl), Q_HZ, Q_KP, Q_HX, Q_HQ, fun h0_ => absurd ((hoff 11 (by kernel_rfl)).symm.trans h0_) (by decide)⟩
  refine steps_cons ?_ ?_
  ·rintro b a w' ⟨ha, Q_HZ, Q_KP, Q_HX, Q_HQ, Q_HXn⟩ hb_ hon hoff
   refine ⟨_, rfl, fun K hK => ?_⟩
   have e51 : a.tmps[51]? = some (.agg #[.int .i64 d, .int .i64 g]) := by rw [ha]; exact putSel_on (e := (2, 51, .agg #[.int .i64 d, .int .i64 g])) 0 rfl rfl (hon 2 (by kernel_rfl)) rfl
   have e55 : a.tmps[55]? = some (.int .i64 (Int.tmod (wrap64 (x0 + 1)) (wrap64 (2 * d)))) := by rw [ha]; exact putSel_on (e := (6, 55, .int .i64 (Int.tmod (wrap64 (x0 + 1)) (wrap64 (2 * d))))) 3 rfl rfl (hon 6 (by kernel_rfl)) rfl
   replace ha := Aside0.mk ha
   have HZ := Aside0.mk Q_HZ
   have KP := Aside0.mk Q_KP
   have HX := Aside0.mk (Q_HX (hoff 11 (by kernel_rfl)))
   have HQ := Aside0.mk Q_HQ
   refine goes_ Tryd.func35 (by kernel_rfl) rfl #[.agg #[.int .i64 d, .int .i64 g], .int .i64 (Int.tmod (wrap64 (x0 + 1)) (wrap64 (2 * d)))] (by rfl) rfl rfl (by first | (simp only [List.map_toArray, List.map_cons, List.map_nil, Act.eval, Array.getD_eq_getD_getElem?, Option.getD_some, e51, e55]; done) | (simp only [List.map_toArray, List.map_cons, List.map_nil, Act.eval, Array.getD_eq_getD_getElem?, Option.getD_some, e51, e55]; rfl)) ?_
   refine (impl_Queue_code.calls d g (Int.tmod (wrap64 (x0 + 1)) (wrap64 (2 * d))) ce w' HB1.out).mono ?_
   rintro e w5 ⟨rfl, hb⟩
   refine ⟨_, rfl, ?_⟩
   refine hK.out _ _ ⟨(by rw [ha.out]; exact putSel_upk 4 hb_ rfl rfl rfl), Below.trans HZ.out (Below.mono hb (Nat.zero_le _)), Kept.then_ KP.out (Kept.of_below hb (fun b => b = gx)) (fun b hb => .inl hb), fun _ => blk_below HX.out hb, blk_below HQ.out hb, fun h0_ => absurd ((hoff 11 (by kernel_rfl)).symm.trans h0_) (by decide)⟩
  refine steps_cons ?_ ?_
  ·rintro b a w' ⟨ha, Q_HZ, Q_KP, Q_HX, Q_HQ, Q_HXn⟩ hb_ hon hoff
   refine ⟨_, rfl, fun K hK => ?_⟩
   have e50 : a.tmps[50]? = some (.int .i64 cb) := by rw [ha]; exact (putSel_off rfl).trans rfl
   have e56 : a.tmps[56]? = some (.int .i64 ce) := by rw [ha]; exact putSel_on (e := (7, 56, .int .i64 ce)) 4 rfl rfl (hon 7 (by kernel_rfl)) rfl
   replace ha := Aside0.mk ha
   have HZ := Aside0.mk Q_HZ
   have KP := Aside0.mk Q_KP
   have HX := Aside0.mk (Q_HX (hoff 11 (by kernel_rfl)))
   have HQ := Aside0.mk Q_HQ
   refine value_ (w1 := w') (v := .int .i64 (Go.bits .xor .i64 (cb) (ce))) (by rfl) rfl ?_ ?_
   ·go_simp
    (try simp only [i64_w])
    try rfl
   refine hK.out _ _ ⟨(by rw [ha.out]; exact putSel_upk 5 hb_ rfl rfl rfl), Q_HZ, Q_KP, Q_HX, Q_HQ, fun h0_ => absurd ((hoff 11 (by kernel_rfl)).symm.trans h0_) (by decide)⟩
  refine steps_cons ?_ ?_
  ·rintro b a w' ⟨ha, Q_HZ, Q_KP, Q_HX, Q_HQ, Q_HXn⟩ hb_ hon hoff
   refine ⟨_, rfl, fun K hK => ?_⟩
   have e49 : a.tmps[49]? = some (.pointer (some ⟨gx, 0, none⟩)) := by rw [ha]; exact (putSel_off rfl).trans rfl
   replace ha := Aside0.mk ha
   have HZ := Aside0.mk Q_HZ
   have KP := Aside0.mk Q_KP
   have HX := Aside0.mk (Q_HX (hoff 11 (by kernel_rfl)))
   have HQ := Aside0.mk Q_HQ
   refine value_ (w1 := w') (v := .pointer (some ⟨gx, 0, none⟩)) (by rfl) rfl ?_ ?_
   ·go_simp
    (try simp only [i64_w])
    try rfl
   refine hK.out _ _ ⟨(by rw [ha.out]; exact putSel_upk 6 hb_ rfl rfl rfl), Q_HZ, Q_KP, Q_HX, Q_HQ, fun h0_ => absurd ((hoff 11 (by kernel_rfl)).symm.trans h0_) (by decide)⟩
  refine steps_cons ?_ ?_
  ·rintro b a w' ⟨ha, Q_HZ, Q_KP, Q_HX, Q_HQ, Q_HXn⟩ hb_ hon hoff
   refine ⟨_, rfl, fun K hK => ?_⟩
   have e58 : a.tmps[58]? = some (.pointer (some ⟨gx, 0, none⟩)) := by rw [ha]; exact putSel_on (e := (9, 58, .pointer (some ⟨gx, 0, none⟩))) 6 rfl rfl (hon 9 (by kernel_rfl)) rfl
   replace ha := Aside0.mk ha
   have HZ := Aside0.mk Q_HZ
   have KP := Aside0.mk Q_KP
   have HX := Aside0.mk (Q_HX (hoff 11 (by kernel_rfl)))
   have HQ := Aside0.mk Q_HQ
   refine value_ (w1 := w') (v := .pointer (some ⟨gx, 4, none⟩)) (by rfl) rfl ?_ ?_
   ·go_simp
    (try simp only [i64_w])
    try rfl
   refine hK.out _ _ ⟨(by rw [ha.out]; exact putSel_upk 7 hb_ rfl rfl rfl), Q_HZ, Q_KP, Q_HX, Q_HQ, fun h0_ => absurd ((hoff 11 (by kernel_rfl)).symm.trans h0_) (by decide)⟩
  refine steps_cons ?_ ?_
  ·rintro b a w' ⟨ha, Q_HZ, Q_KP, Q_HX, Q_HQ, Q_HXn⟩ hb_ hon hoff
   refine ⟨_, rfl, fun K hK => ?_⟩
   have e59 : a.tmps[59]? = some (.pointer (some ⟨gx, 4, none⟩)) := by rw [ha]; exact putSel_on (e := (10, 59, .pointer (some ⟨gx, 4, none⟩))) 7 rfl rfl (hon 10 (by kernel_rfl)) rfl
   have e57 : a.tmps[57]? = some (.int .i64 (Go.bits .xor .i64 (cb) (ce))) := by rw [ha]; exact putSel_on (e := (8, 57, .int .i64 (Go.bits .xor .i64 (cb) (ce)))) 5 rfl rfl (hon 8 (by kernel_rfl)) rfl
   replace ha := Aside0.mk ha
   have HZ := Aside0.mk Q_HZ
   have KP := Aside0.mk Q_KP
   have HX := Aside0.mk (Q_HX hb_)
   have HQ := Aside0.mk Q_HQ
   have hz_ := blk_cell HX.out 4
   have hf_ := blk_frozen HX.out 4
   refine skip_ (w1 := w'.setCell ⟨gx, 4, none⟩ (.int .i64 (Go.bits .xor .i64 (cb) (ce)))) (by rfl) rfl ?_ ?_
   ·go_simp
   refine hK.out _ _ ⟨(by rw [ha.out]; exact putSel_none (v := undef) rfl), Below.setCell HZ.out (p := ⟨gx, 4, none⟩) (Nat.zero_le _) (.int .i64 (Go.bits .xor .i64 (cb) (ce))), Kept.setCell KP.out (p := ⟨gx, 4, none⟩) (.inl rfl) (.int .i64 (Go.bits .xor .i64 (cb) (ce))), fun h0_ => absurd ((up_self b 11).symm.trans h0_) (by decide), blk_far HQ.out (p := ⟨gx, 4, none⟩) HNE.out (.int .i64 (Go.bits .xor .i64 (cb) (ce))), fun _ => blk_put HX.out 4 (.int .i64 (Go.bits .xor .i64 (cb) (ce))) rfl⟩
  exact steps_nil
 rintro b a w24 hall ⟨ha, Q_HZ, Q_KP, Q_HX, Q_HQ, Q_HXn⟩
 clear HQ HX HZ KP
 have hb2_ := hall 2 (by kernel_rfl)
 have hb4_ := hall 4 (by kernel_rfl)
 have hb5_ := hall 5 (by kernel_rfl)
 have hb6_ := hall 6 (by kernel_rfl)
 have hb7_ := hall 7 (by kernel_rfl)
 have hb8_ := hall 8 (by kernel_rfl)
 have hb9_ := hall 9 (by kernel_rfl)
 have hb10_ := hall 10 (by kernel_rfl)
 have hb11_ := hall 11 (by kernel_rfl)
 subst ha
 simp only [putSel, hb2_, hb4_, hb5_, hb6_, hb7_, hb8_, hb9_, hb10_, hb11_, if_true, Act.put, List.setIfInBounds_toArray, List.set_cons_zero, List.set_cons_succ]
 have HZ := Aside0.mk Q_HZ
 clear Q_HZ
 have KP := Aside0.mk Q_KP
 clear Q_KP
 clear Q_HX
 have HQ := Aside0.mk Q_HQ
 clear Q_HQ
 have HXn := Aside0.mk (Q_HXn hb11_)
 clear Q_HXn
 clear hall hb2_ hb4_ hb5_ hb6_ hb7_ hb8_ hb9_ hb10_ hb11_
 have HX := HXn
 clear HXn
 have b0 := blk_cell HX.out 6; have b1 := blk_frozen HX.out 6; have r0 := HR0.out; have r1 := beq_eq_false_iff_ne.mpr r0; have r2 := decide_eq_false r0; have r3 := eq_false r0
 go_wp2_with (fail)
 clear b0 b1 r0 r1 r2 r3
 replace KP := Aside0.mk (Kept.setCell KP.out (p := ⟨gx, 6, none⟩) (.inl rfl) (.int .i64 (wrap64 (x6 + 1))))
 replace HQ := Aside0.mk (blk_far HQ.out (p := ⟨gx, 6, none⟩) HNE.out (.int .i64 (wrap64 (x6 + 1))))
 replace HX := Aside0.mk (blk_put HX.out 6 (.int .i64 (wrap64 (x6 + 1))) rfl)
 replace HZ := Aside0.mk (Below.setCell HZ.out (p := ⟨gx, 6, none⟩) (Nat.zero_le _) (.int .i64 (wrap64 (x6 + 1))))
 generalize w24.setCell ⟨gx, 6, none⟩ (.int .i64 (wrap64 (x6 + 1))) = w25 at KP HX HQ HZ ⊢
 have hb : Below w25.heap.size w25 w25.drew := below_drew1 (Below.refl _ _)
 replace KP := Aside0.mk (Kept.then_ KP.out (Kept.of_below hb (fun b => b = gx)) (fun b hb => .inl hb)); replace HX := Aside0.mk (blk_below HX.out hb); replace HQ := Aside0.mk (blk_below HQ.out hb); replace HZ := Aside0.mk (Below.trans HZ.out (Below.mono hb (Nat.zero_le _))); clear hb
 refine start_ (n := 10) (S := fun w' => True) (ds := []) #[false, false, false, false, false, false, false, false, false, false] (by kernel_rfl) rfl rfl trivial (fun hHeld => ?_)
 refine with_tabW impl_queueState_step.tab8 impl_queueState_step.bits8 (fun HT_ HW_ => ?_)
 generalize w25.drew = wk6 at KP HX HQ HZ hHeld ⊢
 refine pure_ (i := 0) (N := some 67) (v := ?_) (a' := ?_) #[true, false, false, false, false, false, false, false, false, false] rfl rfl (any_of HT_.out (by kernel_rfl)) (fun _ _ _ h => h) (Or.inl ⟨by rfl, ?_⟩) ?_ ?_
 rotate_left
 ·intro w'
  go_simp
  with_reducible rfl
 rotate_left
 ·simp only [Act.put, List.setIfInBounds_toArray, List.set_cons_zero, List.set_cons_succ, i64_w, i32_w]
  rfl
 refine pure_ (i := 2) (N := some 69) (v := ?_) (a' := ?_) #[true, false, true, false, false, false, false, false, false, false] rfl rfl (any_of HT_.out (by kernel_rfl)) (fun _ _ _ h => h) (Or.inl ⟨by rfl, ?_⟩) ?_ ?_
 rotate_left
 ·intro w'
  go_simp
  with_reducible rfl
 rotate_left
 ·simp only [Act.put, List.setIfInBounds_toArray, List.set_cons_zero, List.set_cons_succ, i64_w, i32_w]
  rfl
 refine inv_at [1, 3, 4, 5, 6, 7, 8, 9] (fun a0_ b a w' => a = putSel a0_ b [(1, 68, .agg #[.int .i64 d, .int .i64 g]), (3, 70, .pointer (some ⟨gx, 0, none⟩)), (4, 71, .pointer (some ⟨gx, 1, none⟩)), (5, 72, .int .i64 x1), (6, 73, .int .i64 cf), (7, 74, .pointer (some ⟨gx, 0, none⟩)), (8, 75, .pointer (some ⟨gx, 2, none⟩))] ∧ (Below 0 w w') ∧ (Kept w w' (fun b => b = gx)) ∧ (b 9 = false → w'.heap[gx]? = some (.cells #[.int .i64 (Int.tmod (wrap64 (x0 + 1)) (wrap64 (2 * d))), .int .i64 x1, .int .i64 x2, .int .i64 x3, .int .i64 (Go.bits .xor .i64 (cb) (ce)), .int .i64 x5, .int .i64 (wrap64 (x6 + 1))] 48 (0, 0))) ∧ (w'.heap[gq]? = some (.cells #[.int .i64 d, .int .i64 g] 27 (0, 0))) ∧ (b 9 = true → w'.heap[gx]? = some (.cells #[.int .i64 (Int.tmod (wrap64 (x0 + 1)) (wrap64 (2 * d))), .int .i64 x1, .int .i64 cf, .int .i64 x3, .int .i64 (Go.bits .xor .i64 (cb) (ce)), .int .i64 x5, .int .i64 (wrap64 (x6 + 1))] 48 (0, 0)))) HT_.out HW_.out (by kernel_rfl) (by kernel_rfl) ?_ ?_ ?_
 ·exact ⟨by simp only [putSel, Bool.false_eq_true, if_false], HZ.out, KP.out, fun _ => HX.out, HQ.out, fun h_ => absurd h_ (by decide)⟩
 ·skip
  clear HQ HX HZ KP
  refine steps_cons ?_ ?_
  ·rintro b a w' ⟨ha, Q_HZ, Q_KP, Q_HX, Q_HQ, Q_HXn⟩ hb_ hon hoff
   refine ⟨_, rfl, fun K hK => ?_⟩
   have e4 : a.tmps[4]? = some (.pointer (some ⟨gq, 0, none⟩)) := by rw [ha]; exact (putSel_off rfl).trans rfl
   replace ha := Aside0.mk ha
   have HZ := Aside0.mk Q_HZ
   have KP := Aside0.mk Q_KP
   have HX := Aside0.mk (Q_HX (hoff 9 (by kernel_rfl)))
   have HQ := Aside0.mk Q_HQ
   have hc0_ : w'.cell? ⟨gq, 0, none⟩ = some (.int .i64 d) := (blk_cell HQ.out 0).trans rfl
   have hc1_ : w'.cell? ⟨gq, 1, none⟩ = some (.int .i64 g) := (blk_cell HQ.out 1).trans rfl
   refine value_ (w1 := w') (v := .agg #[.int .i64 d, .int .i64 g]) (by rfl) rfl ?_ ?_
   ·go_simp
    (try simp only [i64_w])
    try rfl
   refine hK.out _ _ ⟨(by rw [ha.out]; exact putSel_upk 0 hb_ rfl rfl rfl), Q_HZ, Q_KP, Q_HX, Q_HQ, fun h0_ => absurd ((hoff 9 (by kernel_rfl)).symm.trans h0_) (by decide)⟩
  refine steps_cons ?_ ?_
  ·rintro b a w' ⟨ha, Q_HZ, Q_KP, Q_HX, Q_HQ, Q_HXn⟩ hb_ hon hoff
   refine ⟨_, rfl, fun K hK => ?_⟩
   have e69 : a.tmps[69]? = some (.pointer (some ⟨gx, 0, none⟩)) := by rw [ha]; exact (putSel_off rfl).trans rfl
   replace ha := Aside0.mk ha
   have HZ := Aside0.mk Q_HZ
   have KP := Aside0.mk Q_KP
   have HX := Aside0.mk (Q_HX (hoff 9 (by kernel_rfl)))
   have HQ := Aside0.mk Q_HQ
   refine value_ (w1 := w') (v := .pointer (some ⟨gx, 0, none⟩)) (by rfl) rfl ?_ ?_
   ·go_simp
    (try simp only [i64_w])
    try rfl
   refine hK.out _ _ ⟨(by rw [ha.out]; exact putSel_upk 1 hb_ rfl rfl rfl), Q_HZ, Q_KP, Q_HX, Q_HQ, fun h0_ => absurd ((hoff 9 (by kernel_rfl)).symm.trans h0_) (by decide)⟩
  refine steps_cons ?_ ?_
  ·rintro b a w' ⟨ha, Q_HZ, Q_KP, Q_HX, Q_HQ, Q_HXn⟩ hb_ hon hoff
   refine ⟨_, rfl, fun K hK => ?_⟩
   have e70 : a.tmps[70]? = some (.pointer (some ⟨gx, 0, none⟩)) := by rw [ha]; exact putSel_on (e := (3, 70, .pointer (some ⟨gx, 0, none⟩))) 1 rfl rfl (hon 3 (by kernel_rfl)) rfl
   replace ha := Aside0.mk ha
   have HZ := Aside0.mk Q_HZ
   have KP := Aside0.mk Q_KP
   have HX := Aside0.mk (Q_HX (hoff 9 (by kernel_rfl)))
   have HQ := Aside0.mk Q_HQ
   refine value_ (w1 := w') (v := .pointer (some ⟨gx, 1, none⟩)) (by rfl) rfl ?_ ?_
   ·go_simp
    (try simp only [i64_w])
    try rfl
   refine hK.out _ _ ⟨(by rw [ha.out]; exact putSel_upk 2 hb_ rfl rfl rfl), Q_HZ, Q_KP, Q_HX, Q_HQ, fun h0_ => absurd ((hoff 9 (by kernel_rfl)).symm.trans h0_) (by decide)⟩
  refine steps_cons ?_ ?_
  ·rintro b a w' ⟨ha, Q_HZ, Q_KP, Q_HX, Q_HQ, Q_HXn⟩ hb_ hon hoff
   refine ⟨_, rfl, fun K hK => ?_⟩
   have e71 : a.tmps[71]? = some (.pointer (some ⟨gx, 1, none⟩)) := by rw [ha]; exact putSel_on (e := (4, 71, .pointer (some ⟨gx, 1, none⟩))) 2 rfl rfl (hon 4 (by kernel_rfl)) rfl
   replace ha := Aside0.mk ha
   have HZ := Aside0.mk Q_HZ
   have KP := Aside0.mk Q_KP
   have HX := Aside0.mk (Q_HX (hoff 9 (by kernel_rfl)))
   have HQ := Aside0.mk Q_HQ
   have hc1_ : w'.cell? ⟨gx, 1, none⟩ = some (.int .i64 x1) := (blk_cell HX.out 1).trans rfl
   refine value_ (w1 := w') (v := .int .i64 x1) (by rfl) rfl ?_ ?_
   ·go_simp
    (try simp only [i64_w])
    try rfl
   refine hK.out _ _ ⟨(by rw [ha.out]; exact putSel_upk 3 hb_ rfl rfl rfl), Q_HZ, Q_KP, Q_HX, Q_HQ, fun h0_ => absurd ((hoff 9 (by kernel_rfl)).symm.trans h0_) (by decide)⟩
  refine steps_cons ?_ ?_
  ·rintro b a w' ⟨ha, Q_HZ, Q_KP, Q_HX, Q_HQ, Q_HXn⟩ hb_ hon hoff
   refine ⟨_, rfl, fun K hK => ?_⟩
   have e68 : a.tmps[68]? = some (.agg #[.int .i64 d, .int .i64 g]) := by rw [ha]; exact putSel_on (e := (1, 68, .agg #[.int .i64 d, .int .i64 g])) 0 rfl rfl (hon 1 (by kernel_rfl)) rfl
   have e72 : a.tmps[72]? = some (.int .i64 x1) := by rw [ha]; exact putSel_on (e := (5, 72, .int .i64 x1)) 3 rfl rfl (hon 5 (by kernel_rfl)) rfl
   replace ha := Aside0.mk ha
   have HZ := Aside0.mk Q_HZ
   have KP := Aside0.mk Q_KP
   have HX := Aside0.mk (Q_HX (hoff 9 (by kernel_rfl)))
   have HQ := Aside0.mk Q_HQ
   refine goes_ Tryd.func35 (by kernel_rfl) rfl #[.agg #[.int .i64 d, .int .i64 g], .int .i64 x1] (by rfl) rfl rfl (by first | (simp only [List.map_toArray, List.map_cons, List.map_nil, Act.eval, Array.getD_eq_getD_getElem?, Option.getD_some, e68, e72]; done) | (simp only [List.map_toArray, List.map_cons, List.map_nil, Act.eval, Array.getD_eq_getD_getElem?, Option.getD_some, e68, e72]; rfl)) ?_
   refine (impl_Queue_code.calls d g (x1) cf w' HB2.out).mono ?_
   rintro e w5 ⟨rfl, hb⟩
   refine ⟨_, rfl, ?_⟩
   refine hK.out _ _ ⟨(by rw [ha.out]; exact putSel_upk 4 hb_ rfl rfl rfl), Below.trans HZ.out (Below.mono hb (Nat.zero_le _)), Kept.then_ KP.out (Kept.of_below hb (fun b => b = gx)) (fun b hb => .inl hb), fun _ => blk_below HX.out hb, blk_below HQ.out hb, fun h0_ => absurd ((hoff 9 (by kernel_rfl)).symm.trans h0_) (by decide)⟩
  refine steps_cons ?_ ?_
  ·rintro b a w' ⟨ha, Q_HZ, Q_KP, Q_HX, Q_HQ, Q_HXn⟩ hb_ hon hoff
   refine ⟨_, rfl, fun K hK => ?_⟩
   have e67 : a.tmps[67]? = some (.pointer (some ⟨gx, 0, none⟩)) := by rw [ha]; exact (putSel_off rfl).trans rfl
   replace ha := Aside0.mk ha
   have HZ := Aside0.mk Q_HZ
   have KP := Aside0.mk Q_KP
   have HX := Aside0.mk (Q_HX (hoff 9 (by kernel_rfl)))
   have HQ := Aside0.mk Q_HQ
   refine value_ (w1 := w') (v := .pointer (some ⟨gx, 0, none⟩)) (by rfl) rfl ?_ ?_
   ·go_simp
    (try simp only [i64_w])
    try rfl
   refine hK.out _ _ ⟨(by rw [ha.out]; exact putSel_upk 5 hb_ rfl rfl rfl), Q_HZ, Q_KP, Q_HX, Q_HQ, fun h0_ => absurd ((hoff 9 (by kernel_rfl)).symm.trans h0_) (by decide)⟩
  refine steps_cons ?_ ?_
  ·rintro b a w' ⟨ha, Q_HZ, Q_KP, Q_HX, Q_HQ, Q_HXn⟩ hb_ hon hoff
   refine ⟨_, rfl, fun K hK => ?_⟩
   have e74 : a.tmps[74]? = some (.pointer (some ⟨gx, 0, none⟩)) := by rw [ha]; exact putSel_on (e := (7, 74, .pointer (some ⟨gx, 0, none⟩))) 5 rfl rfl (hon 7 (by kernel_rfl)) rfl
   replace ha := Aside0.mk ha
   have HZ := Aside0.mk Q_HZ
   have KP := Aside0.mk Q_KP
   have HX := Aside0.mk (Q_HX (hoff 9 (by kernel_rfl)))
   have HQ := Aside0.mk Q_HQ
   refine value_ (w1 := w') (v := .pointer (some ⟨gx, 2, none⟩)) (by rfl) rfl ?_ ?_
   ·go_simp
    (try simp only [i64_w])
    try rfl
   refine hK.out _ _ ⟨(by rw [ha.out]; exact putSel_upk 6 hb_ rfl rfl rfl), Q_HZ, Q_KP, Q_HX, Q_HQ, fun h0_ => absurd ((hoff 9 (by kernel_rfl)).symm.trans h0_) (by decide)⟩
  refine steps_cons ?_ ?_
  ·rintro b a w' ⟨ha, Q_HZ, Q_KP, Q_HX, Q_HQ, Q_HXn⟩ hb_ hon hoff
   refine ⟨_, rfl, fun K hK => ?_⟩
   have e75 : a.tmps[75]? = some (.pointer (some ⟨gx, 2, none⟩)) := by rw [ha]; exact putSel_on (e := (8, 75, .pointer (some ⟨gx, 2, none⟩))) 6 rfl rfl (hon 8 (by kernel_rfl)) rfl
   have e73 : a.tmps[73]? = some (.int .i64 cf) := by rw [ha]; exact putSel_on (e := (6, 73, .int .i64 cf)) 4 rfl rfl (hon 6 (by kernel_rfl)) rfl
   replace ha := Aside0.mk ha
   have HZ := Aside0.mk Q_HZ
   have KP := Aside0.mk Q_KP
   have HX := Aside0.mk (Q_HX hb_)
   have HQ := Aside0.mk Q_HQ
   have hz_ := blk_cell HX.out 2
   have hf_ := blk_frozen HX.out 2
   refine skip_ (w1 := w'.setCell ⟨gx, 2, none⟩ (.int .i64 cf)) (by rfl) rfl ?_ ?_
   ·go_simp
   refine hK.out _ _ ⟨(by rw [ha.out]; exact putSel_none (v := undef) rfl), Below.setCell HZ.out (p := ⟨gx, 2, none⟩) (Nat.zero_le _) (.int .i64 cf), Kept.setCell KP.out (p := ⟨gx, 2, none⟩) (.inl rfl) (.int .i64 cf), fun h0_ => absurd ((up_self b 9).symm.trans h0_) (by decide), blk_far HQ.out (p := ⟨gx, 2, none⟩) HNE.out (.int .i64 cf), fun _ => blk_put HX.out 2 (.int .i64 cf) rfl⟩
  exact steps_nil
 rintro b a w26 hall ⟨ha, Q_HZ, Q_KP, Q_HX, Q_HQ, Q_HXn⟩
 clear HQ HX HZ KP
 have hb1_ := hall 1 (by kernel_rfl)
 have hb3_ := hall 3 (by kernel_rfl)
 have hb4_ := hall 4 (by kernel_rfl)
 have hb5_ := hall 5 (by kernel_rfl)
 have hb6_ := hall 6 (by kernel_rfl)
 have hb7_ := hall 7 (by kernel_rfl)
 have hb8_ := hall 8 (by kernel_rfl)
 have hb9_ := hall 9 (by kernel_rfl)
 subst ha
 simp only [putSel, hb1_, hb3_, hb4_, hb5_, hb6_, hb7_, hb8_, hb9_, if_true, Act.put, List.setIfInBounds_toArray, List.set_cons_zero, List.set_cons_succ]
 have HZ := Aside0.mk Q_HZ
 clear Q_HZ
 have KP := Aside0.mk Q_KP
 clear Q_KP
 clear Q_HX
 have HQ := Aside0.mk Q_HQ
 clear Q_HQ
 have HXn := Aside0.mk (Q_HXn hb9_)
 clear Q_HXn
 clear hall hb1_ hb3_ hb4_ hb5_ hb6_ hb7_ hb8_ hb9_
 have HX := HXn
 clear HXn
 go_wp2
 ((try simp only [Exit.inBlock, Exit.then]); refine bodyPost_ret (results_none rfl _ _ _) rfl ?_)
 exact ⟨rfl, HX.out, KP.out, HZ.out⟩
set_option maxHeartbeats 8000000 in
set_option maxRecDepth 100000 in
theorem qstepB (k : Nat) (gx : Nat) (x0 x1 x2 x3 x4 x5 x6 d g lt cn cf : Int) (w : World) (hx : w.heap[gx]? = some (.cells #[.int .i64 x0, .int .i64 x1, .int .i64 x2, .int .i64 x3, .int .i64 x4, .int .i64 x5, .int .i64 x6] 48 (0, 0))) (hR : ¬ wrap64 (2 * d) = 0) (hl : lt = 115) (hc : impl_Queue_count.f k d g x2 = some cn) (ht : ¬ Int.tmod (wrap64 (wrap64 (x0 - cn) + wrap64 (2 * d))) (wrap64 (2 * d)) < d) (h2 : impl_Queue_code.f d g x1 = some cf) :
  Calls Tryd.prog 20 #[.pointer (some ⟨gx, 0, none⟩), .agg #[.int .i64 d, .int .i64 g], .int .u8 lt] w fun e w' => e = .returned (.tuple #[]) ∧ w'.heap[gx]? = some (.cells #[.int .i64 x0, .int .i64 x1, .int .i64 cf, .int .i64 x3, .int .i64 x4, .int .i64 x5, .int .i64 x6] 48 (0, 0)) ∧ Kept w w' (fun b => b = gx) ∧ Below 0 w w' := by
 have hu := Tryd.underlying27
 have hu2 := Tryd.underlying48
 have HX := Aside0.mk hx
 have HR0 := Aside0.mk hR
 clear hx hR
 have HC := Aside0.mk hc; have HB2 := Aside0.mk h2
 clear hc h2
 subst hl
 have t1 : decide (Int.tmod (wrap64 (wrap64 (x0 - cn) + wrap64 (2 * d))) (wrap64 (2 * d)) < d) = false := decide_eq_false ht
 go_enter Tryd.func20, Tryd.ntmps20
 go_wp2_with (fail)
 obtain ⟨wr, hwr⟩ : ∃ z, z = w.alloc (.cells #[.int .i64 d, .int .i64 g] 27) := ⟨_, rfl⟩
 rw [← hwr]
 have hb : Below w.heap.size w wr := by rw [hwr]; exact below_alloc (Below.refl _ _) _
 have HQ : Aside0 (wr.heap[w.heap.size]? = some (.cells #[.int .i64 d, .int .i64 g] 27 (0, 0))) := ⟨by rw [hwr]; simpa using heap_alloc_new w _⟩
 have HNE : Aside0 (w.heap.size ≠ gx) := ⟨by have := blk_lt HX.out; omega⟩
 have KP : Aside0 (Kept w wr (fun b => b = gx)) := ⟨Kept.of_below hb _⟩
 have HZ : Aside0 (Below 0 w wr) := ⟨Below.mono hb (Nat.zero_le _)⟩
 replace HX := Aside0.mk (blk_below HX.out hb)
 clear hwr hb
 obtain ⟨gq, hgq⟩ : ∃ z, z = w.heap.size := ⟨_, rfl⟩
 rw [← hgq] at HQ HNE ⊢
 clear hgq
 have hb : Below wr.heap.size wr wr.drew := below_drew1 (Below.refl _ _)
 replace KP := Aside0.mk (Kept.then_ KP.out (Kept.of_below hb (fun b => b = gx)) (fun b hb => .inl hb)); replace HX := Aside0.mk (blk_below HX.out hb); replace HQ := Aside0.mk (blk_below HQ.out hb); replace HZ := Aside0.mk (Below.trans HZ.out (Below.mono hb (Nat.zero_le _))); clear hb
 refine start_ (n := 18) (S := fun w' => True) (ds := []) #[false, false, false, false, false, false, false, false, false, false, false, false, false, false, false, false, false, false] (by kernel_rfl) rfl rfl trivial (fun hHeld => ?_)
 refine with_tabW impl_queueState_step.tab3 impl_queueState_step.bits3 (fun HT_ HW_ => ?_)
 generalize wr.drew = wk7 at KP HX HQ HZ hHeld ⊢
 refine pure_ (i := 0) (N := some 15) (v := ?_) (a' := ?_) #[true, false, false, false, false, false, false, false, false, false, false, false, false, false, false, false, false, false] rfl rfl (any_of HT_.out (by kernel_rfl)) (fun _ _ _ h => h) (Or.inl ⟨by rfl, ?_⟩) ?_ ?_
 rotate_left
 ·intro w'
  go_simp
  with_reducible rfl
 rotate_left
 ·simp only [Act.put, List.setIfInBounds_toArray, List.set_cons_zero, List.set_cons_succ, i64_w, i32_w]
  rfl
 refine pure_ (i := 5) (N := some 20) (v := ?_) (a' := ?_) #[true, false, false, false, false, true, false, false, false, false, false, false, false, false, false, false, false, false] rfl rfl (any_of HT_.out (by kernel_rfl)) (fun _ _ _ h => h) (Or.inl ⟨by rfl, ?_⟩) ?_ ?_
 rotate_left
 ·intro w'
  go_simp
  with_reducible rfl
 rotate_left
 ·simp only [Act.put, List.setIfInBounds_toArray, List.set_cons_zero, List.set_cons_succ, i64_w, i32_w]
  rfl
 refine pure_ (i := 11) (N := some 26) (v := ?_) (a' := ?_) #[true, false, false, false, false, true, false, false, false, false, false, true, false, false, false, false, false, false] rfl rfl (any_of HT_.out (by kernel_rfl)) (fun _ _ _ h => h) (Or.inl ⟨by rfl, ?_⟩) ?_ ?_
 rotate_left
 ·intro w'
  go_simp
  with_reducible rfl
 rotate_left
 ·simp only [Act.put, List.setIfInBounds_toArray, List.set_cons_zero, List.set_cons_succ, i64_w, i32_w]
  rfl
 refine pure_ (i := 13) (N := some 28) (v := ?_) (a' := ?_) #[true, false, false, false, false, true, false, false, false, false, false, true, false, true, false, false, false, false] rfl rfl (any_of HT_.out (by kernel_rfl)) (fun _ _ _ h => h) (Or.inl ⟨by rfl, ?_⟩) ?_ ?_
 rotate_left
 ·intro w'
  go_simp
  with_reducible rfl
 rotate_left
 ·simp only [Act.put, List.setIfInBounds_toArray, List.set_cons_zero, List.set_cons_succ, i64_w, i32_w]
  rfl
 refine pure_ (i := 15) (N := some 30) (v := ?_) (a' := ?_) #[true, false, false, false, false, true, false, false, false, false, false, true, false, true, false, true, false, false] rfl rfl (any_of HT_.out (by kernel_rfl)) (fun _ _ _ h => h) (Or.inl ⟨by rfl, ?_⟩) ?_ ?_
 rotate_left
 ·intro w'
  go_simp
  with_reducible rfl
 rotate_left
 ·simp only [Act.put, List.setIfInBounds_toArray, List.set_cons_zero, List.set_cons_succ, i64_w, i32_w]
  rfl
 refine inv_at [1, 2, 3, 4, 6, 7, 8, 9, 10, 12, 14, 16, 17] (fun a0_ b a w' => a = putSel a0_ b [(1, 16, .pointer (some ⟨gx, 0, none⟩)), (2, 17, .pointer (some ⟨gx, 0, none⟩)), (3, 18, .int .i64 x0), (4, 19, .agg #[.int .i64 d, .int .i64 g]), (6, 21, .pointer (some ⟨gx, 0, none⟩)), (7, 22, .pointer (some ⟨gx, 2, none⟩)), (8, 23, .int .i64 x2), (9, 24, .int .i64 cn), (10, 25, .int .i64 (wrap64 (x0 - cn))), (12, 27, .int .i64 (wrap64 (((wrap64 (x0 - cn))) + ((wrap64 (2 * d)))))), (14, 29, .int .i64 (Int.tmod ((wrap64 (((wrap64 (x0 - cn))) + ((wrap64 (2 * d)))))) ((wrap64 (2 * d))))), (16, 31, .int .i64 d), (17, 32, .bool (decide (((Int.tmod ((wrap64 (((wrap64 (x0 - cn))) + ((wrap64 (2 * d)))))) ((wrap64 (2 * d))))) < (d))))] ∧ (Below 0 w w') ∧ (Kept w w' (fun b => b = gx)) ∧ (w'.heap[gx]? = some (.cells #[.int .i64 x0, .int .i64 x1, .int .i64 x2, .int .i64 x3, .int .i64 x4, .int .i64 x5, .int .i64 x6] 48 (0, 0))) ∧ (w'.heap[gq]? = some (.cells #[.int .i64 d, .int .i64 g] 27 (0, 0)))) HT_.out HW_.out (by kernel_rfl) (by kernel_rfl) ?_ ?_ ?_
 ·exact ⟨by simp only [putSel, Bool.false_eq_true, if_false], HZ.out, KP.out, HX.out, HQ.out⟩
 ·skip
  clear HQ HX HZ KP
  refine steps_cons ?_ ?_
  ·rintro b a w' ⟨ha, Q_HZ, Q_KP, Q_HX, Q_HQ⟩ hb_ hon hoff
   refine ⟨_, rfl, fun K hK => ?_⟩
   have e15 : a.tmps[15]? = some (.pointer (some ⟨gx, 0, none⟩)) := by rw [ha]; exact (putSel_off rfl).trans rfl
   replace ha := Aside0.mk ha
   have HZ := Aside0.mk Q_HZ
   have KP := Aside0.mk Q_KP
   have HX := Aside0.mk Q_HX
   have HQ := Aside0.mk Q_HQ
   refine value_ (w1 := w') (v := .pointer (some ⟨gx, 0, none⟩)) (by rfl) rfl ?_ ?_
   ·go_simp
    (try simp only [i64_w])
    try rfl
   refine hK.out _ _ ⟨(by rw [ha.out]; exact putSel_upk 0 hb_ rfl rfl rfl), Q_HZ, Q_KP, Q_HX, Q_HQ⟩
  refine steps_cons ?_ ?_
  ·rintro b a w' ⟨ha, Q_HZ, Q_KP, Q_HX, Q_HQ⟩ hb_ hon hoff
   refine ⟨_, rfl, fun K hK => ?_⟩
   have e16 : a.tmps[16]? = some (.pointer (some ⟨gx, 0, none⟩)) := by rw [ha]; exact putSel_on (e := (1, 16, .pointer (some ⟨gx, 0, none⟩))) 0 rfl rfl (hon 1 (by kernel_rfl)) rfl
   replace ha := Aside0.mk ha
   have HZ := Aside0.mk Q_HZ
   have KP := Aside0.mk Q_KP
   have HX := Aside0.mk Q_HX
   have HQ := Aside0.mk Q_HQ
   refine value_ (w1 := w') (v := .pointer (some ⟨gx, 0, none⟩)) (by rfl) rfl ?_ ?_
   ·go_simp
    (try simp only [i64_w])
    try rfl
   refine hK.out _ _ ⟨(by rw [ha.out]; exact putSel_upk 1 hb_ rfl rfl rfl), Q_HZ, Q_KP, Q_HX, Q_HQ⟩
  refine steps_cons ?_ ?_
  ·rintro b a w' ⟨ha, Q_HZ, Q_KP, Q_HX, Q_HQ⟩ hb_ hon hoff
   refine ⟨_, rfl, fun K hK => ?_⟩
   have e17 : a.tmps[17]? = some (.pointer (some ⟨gx, 0, none⟩)) := by rw [ha]; exact putSel_on (e := (2, 17, .pointer (some ⟨gx, 0, none⟩))) 1 rfl rfl (hon 2 (by kernel_rfl)) rfl
   replace ha := Aside0.mk ha
   have HZ := Aside0.mk Q_HZ
   have KP := Aside0.mk Q_KP
   have HX := Aside0.mk Q_HX
   have HQ := Aside0.mk Q_HQ
   have hc0_ : w'.cell? ⟨gx, 0, none⟩ = some (.int .i64 x0) := (blk_cell HX.out 0).trans rfl
   refine value_ (w1 := w') (v := .int .i64 x0) (by rfl) rfl ?_ ?_
   ·go_simp
    (try simp only [i64_w])
    try rfl
   refine hK.out _ _ ⟨(by rw [ha.out]; exact putSel_upk 2 hb_ rfl rfl rfl), Q_HZ, Q_KP, Q_HX, Q_HQ⟩
  refine steps_cons ?_ ?_
  ·rintro b a w' ⟨ha, Q_HZ, Q_KP, Q_HX, Q_HQ⟩ hb_ hon hoff
   refine ⟨_, rfl, fun K hK => ?_⟩
   have e4 : a.tmps[4]? = some (.pointer (some ⟨gq, 0, none⟩)) := by rw [ha]; exact (putSel_off rfl).trans rfl
   replace ha := Aside0.mk ha
   have HZ := Aside0.mk Q_HZ
   have KP := Aside0.mk Q_KP
   have HX := Aside0.mk Q_HX
   have HQ := Aside0.mk Q_HQ
   have hc0_ : w'.cell? ⟨gq, 0, none⟩ = some (.int .i64 d) := (blk_cell HQ.out 0).trans rfl
   have hc1_ : w'.cell? ⟨gq, 1, none⟩ = some (.int .i64 g) := (blk_cell HQ.out 1).trans rfl
   refine value_ (w1 := w') (v := .agg #[.int .i64 d, .int .i64 g]) (by rfl) rfl ?_ ?_
   ·go_simp
    (try simp only [i64_w])
    try rfl
   refine hK.out _ _ ⟨(by rw [ha.out]; exact putSel_upk 3 hb_ rfl rfl rfl), Q_HZ, Q_KP, Q_HX, Q_HQ⟩
  refine steps_cons ?_ ?_
  ·rintro b a w' ⟨ha, Q_HZ, Q_KP, Q_HX, Q_HQ⟩ hb_ hon hoff
   refine ⟨_, rfl, fun K hK => ?_⟩
   have e20 : a.tmps[20]? = some (.pointer (some ⟨gx, 0, none⟩)) := by rw [ha]; exact (putSel_off rfl).trans rfl
   replace ha := Aside0.mk ha
   have HZ := Aside0.mk Q_HZ
   have KP := Aside0.mk Q_KP
   have HX := Aside0.mk Q_HX
   have HQ := Aside0.mk Q_HQ
   refine value_ (w1 := w') (v := .pointer (some ⟨gx, 0, none⟩)) (by rfl) rfl ?_ ?_
   ·go_simp
    (try simp only [i64_w])
    try rfl
   refine hK.out _ _ ⟨(by rw [ha.out]; exact putSel_upk 4 hb_ rfl rfl rfl), Q_HZ, Q_KP, Q_HX, Q_HQ⟩
  refine steps_cons ?_ ?_
  ·rintro b a w' ⟨ha, Q_HZ, Q_KP, Q_HX, Q_HQ⟩ hb_ hon hoff
   refine ⟨_, rfl, fun K hK => ?_⟩
   have e21 : a.tmps[21]? = some (.pointer (some ⟨gx, 0, none⟩)) := by rw [ha]; exact putSel_on (e := (6, 21, .pointer (some ⟨gx, 0, none⟩))) 4 rfl rfl (hon 6 (by kernel_rfl)) rfl
   replace ha := Aside0.mk ha
   have HZ := Aside0.mk Q_HZ
   have KP := Aside0.mk Q_KP
   have HX := Aside0.mk Q_HX
   have HQ := Aside0.mk Q_HQ
   refine value_ (w1 := w') (v := .pointer (some ⟨gx, 2, none⟩)) (by rfl) rfl ?_ ?_
   ·go_simp
    (try simp only [i64_w])
    try rfl
   refine hK.out _ _ ⟨(by rw [ha.out]; exact putSel_upk 5 hb_ rfl rfl rfl), Q_HZ, Q_KP, Q_HX, Q_HQ⟩
  refine steps_cons ?_ ?_
  ·rintro b a w' ⟨ha, Q_HZ, Q_KP, Q_HX, Q_HQ⟩ hb_ hon hoff
   refine ⟨_, rfl, fun K hK => ?_⟩
   have e22 : a.tmps[22]? = some (.pointer (some ⟨gx, 2, none⟩)) := by rw [ha]; exact putSel_on (e := (7, 22, .pointer (some ⟨gx, 2, none⟩))) 5 rfl rfl (hon 7 (by kernel_rfl)) rfl
   replace ha := Aside0.mk ha
   have HZ := Aside0.mk Q_HZ
   have KP := Aside0.mk Q_KP
   have HX := Aside0.mk Q_HX
   have HQ := Aside0.mk Q_HQ
   have hc2_ : w'.cell? ⟨gx, 2, none⟩ = some (.int .i64 x2) := (blk_cell HX.out 2).trans rfl
   refine value_ (w1 := w') (v := .int .i64 x2) (by rfl) rfl ?_ ?_
   ·go_simp
    (try simp only [i64_w])
    try rfl
   refine hK.out _ _ ⟨(by rw [ha.out]; exact putSel_upk 6 hb_ rfl rfl rfl), Q_HZ, Q_KP, Q_HX, Q_HQ⟩
  refine steps_cons ?_ ?_
  ·rintro b a w' ⟨ha, Q_HZ, Q_KP, Q_HX, Q_HQ⟩ hb_ hon hoff
   refine ⟨_, rfl, fun K hK => ?_⟩
   have e19 : a.tmps[19]? = some (.agg #[.int .i64 d, .int .i64 g]) := by rw [ha]; exact putSel_on (e := (4, 19, .agg #[.int .i64 d, .int .i64 g])) 3 rfl rfl (hon 4 (by kernel_rfl)) rfl
   have e23 : a.tmps[23]? = some (.int .i64 x2) := by rw [ha]; exact putSel_on (e := (8, 23, .int .i64 x2)) 6 rfl rfl (hon 8 (by kernel_rfl)) rfl
   replace ha := Aside0.mk ha
   have HZ := Aside0.mk Q_HZ
   have KP := Aside0.mk Q_KP
   have HX := Aside0.mk Q_HX
   have HQ := Aside0.mk Q_HQ
   refine goes_ Tryd.func34 (by kernel_rfl) rfl #[.agg #[.int .i64 d, .int .i64 g], .int .i64 x2] (by rfl) rfl rfl (by first | (simp only [List.map_toArray, List.map_cons, List.map_nil, Act.eval, Array.getD_eq_getD_getElem?, Option.getD_some, e19, e23]; done) | (simp only [List.map_toArray, List.map_cons, List.map_nil, Act.eval, Array.getD_eq_getD_getElem?, Option.getD_some, e19, e23]; rfl)) ?_
   refine (impl_Queue_count.calls k d g x2 cn w' HC.out).mono ?_
   rintro e w5 ⟨rfl, hb⟩
   refine ⟨_, rfl, ?_⟩
   refine hK.out _ _ ⟨(by rw [ha.out]; exact putSel_upk 7 hb_ rfl rfl rfl), Below.trans HZ.out (Below.mono hb (Nat.zero_le _)), Kept.then_ KP.out (Kept.of_below hb (fun b => b = gx)) (fun b hb => .inl hb), blk_below HX.out hb, blk_below HQ.out hb⟩
  refine steps_cons ?_ ?_
  ·rintro b a w' ⟨ha, Q_HZ, Q_KP, Q_HX, Q_HQ⟩ hb_ hon hoff
   refine ⟨_, rfl, fun K hK => ?_⟩
   have e18 : a.tmps[18]? = some (.int .i64 x0) := by rw [ha]; exact putSel_on (e := (3, 18, .int .i64 x0)) 2 rfl rfl (hon 3 (by kernel_rfl)) rfl
   have e24 : a.tmps[24]? = some (.int .i64 cn) := by rw [ha]; exact putSel_on (e := (9, 24, .int .i64 cn)) 7 rfl rfl (hon 9 (by kernel_rfl)) rfl
   replace ha := Aside0.mk ha
   have HZ := Aside0.mk Q_HZ
   have KP := Aside0.mk Q_KP
   have HX := Aside0.mk Q_HX
   have HQ := Aside0.mk Q_HQ
   refine value_ (w1 := w') (v := .int .i64 (wrap64 (x0 - cn))) (by rfl) rfl ?_ ?_
   ·go_simp
    (try simp only [i64_w])
    try rfl
   refine hK.out _ _ ⟨(by rw [ha.out]; exact putSel_upk 8 hb_ rfl rfl rfl), Q_HZ, Q_KP, Q_HX, Q_HQ⟩
  refine steps_cons ?_ ?_
  ·rintro b a w' ⟨ha, Q_HZ, Q_KP, Q_HX, Q_HQ⟩ hb_ hon hoff
   refine ⟨_, rfl, fun K hK => ?_⟩
   have e25 : a.tmps[25]? = some (.int .i64 (wrap64 (x0 - cn))) := by rw [ha]; exact putSel_on (e := (10, 25, .int .i64 (wrap64 (x0 - cn)))) 8 rfl rfl (hon 10 (by kernel_rfl)) rfl
   have e26 : a.tmps[26]? = some (.int .i64 (wrap64 (2 * d))) := by rw [ha]; exact (putSel_off rfl).trans rfl
   replace ha := Aside0.mk ha
   have HZ := Aside0.mk Q_HZ
   have KP := Aside0.mk Q_KP
   have HX := Aside0.mk Q_HX
   have HQ := Aside0.mk Q_HQ
   refine value_ (w1 := w') (v := .int .i64 (wrap64 (((wrap64 (x0 - cn))) + ((wrap64 (2 * d)))))) (by rfl) rfl ?_ ?_
   ·go_simp
    (try simp only [i64_w])
    try rfl
   refine hK.out _ _ ⟨(by rw [ha.out]; exact putSel_upk 9 hb_ rfl rfl rfl), Q_HZ, Q_KP, Q_HX, Q_HQ⟩
  refine steps_cons ?_ ?_
  ·rintro b a w' ⟨ha, Q_HZ, Q_KP, Q_HX, Q_HQ⟩ hb_ hon hoff
   refine ⟨_, rfl, fun K hK => ?_⟩
   have e27 : a.tmps[27]? = some (.int .i64 (wrap64 (((wrap64 (x0 - cn))) + ((wrap64 (2 * d)))))) := by rw [ha]; exact putSel_on (e := (12, 27, .int .i64 (wrap64 (((wrap64 (x0 - cn))) + ((wrap64 (2 * d))))))) 9 rfl rfl (hon 12 (by kernel_rfl)) rfl
   have e28 : a.tmps[28]? = some (.int .i64 (wrap64 (2 * d))) := by rw [ha]; exact (putSel_off rfl).trans rfl
   replace ha := Aside0.mk ha
   have HZ := Aside0.mk Q_HZ
   have KP := Aside0.mk Q_KP
   have HX := Aside0.mk Q_HX
   have HQ := Aside0.mk Q_HQ
   have hr_ := HR0.out
   refine value_ (w1 := w') (v := .int .i64 (Int.tmod ((wrap64 (((wrap64 (x0 - cn))) + ((wrap64 (2 * d)))))) ((wrap64 (2 * d))))) (by rfl) rfl ?_ ?_
   ·go_simp
    (try simp only [i64_w])
    try rfl
   refine hK.out _ _ ⟨(by rw [ha.out]; exact putSel_upk 10 hb_ rfl rfl rfl), Q_HZ, Q_KP, Q_HX, Q_HQ⟩
  refine steps_cons ?_ ?_
  ·rintro b a w' ⟨ha, Q_HZ, Q_KP, Q_HX, Q_HQ⟩ hb_ hon hoff
   refine ⟨_, rfl, fun K hK => ?_⟩
   have e30 : a.tmps[30]? = some (.pointer (some ⟨gq, 0, none⟩)) := by rw [ha]; exact (putSel_off rfl).trans rfl
   replace ha := Aside0.mk ha
   have HZ := Aside0.mk Q_HZ
   have KP := Aside0.mk Q_KP
   have HX := Aside0.mk Q_HX
   have HQ := Aside0.mk Q_HQ
   have hc0_ : w'.cell? ⟨gq, 0, none⟩ = some (.int .i64 d) := (blk_cell HQ.out 0).trans rfl
   refine value_ (w1 := w') (v := .int .i64 d) (by rfl) rfl ?_ ?_
   ·go_simp
    (try simp only [i64_w])
    try rfl
   refine hK.out _ _ ⟨(by rw [ha.out]; exact putSel_upk 11 hb_ rfl rfl rfl), Q_HZ, Q_KP, Q_HX, Q_HQ⟩
  refine steps_cons ?_ ?_
  ·rintro b a w' ⟨ha, Q_HZ, Q_KP, Q_HX, Q_HQ⟩ hb_ hon hoff
   refine ⟨_, rfl, fun K hK => ?_⟩
   have e29 : a.tmps[29]? = some (.int .i64 (Int.tmod ((wrap64 (((wrap64 (x0 - cn))) + ((wrap64 (2 * d)))))) ((wrap64 (2 * d))))) := by rw [ha]; exact putSel_on (e := (14, 29, .int .i64 (Int.tmod ((wrap64 (((wrap64 (x0 - cn))) + ((wrap64 (2 * d)))))) ((wrap64 (2 * d)))))) 10 rfl rfl (hon 14 (by kernel_rfl)) rfl
   have e31 : a.tmps[31]? = some (.int .i64 d) := by rw [ha]; exact putSel_on (e := (16, 31, .int .i64 d)) 11 rfl rfl (hon 16 (by kernel_rfl)) rfl
   replace ha := Aside0.mk ha
   have HZ := Aside0.mk Q_HZ
   have KP := Aside0.mk Q_KP
   have HX := Aside0.mk Q_HX
   have HQ := Aside0.mk Q_HQ
   refine value_ (w1 := w') (v := .bool (decide (((Int.tmod ((wrap64 (((wrap64 (x0 - cn))) + ((wrap64 (2 * d)))))) ((wrap64 (2 * d))))) < (d)))) (by rfl) rfl ?_ ?_
   ·go_simp
    (try simp only [i64_w])
    try rfl
   refine hK.out _ _ ⟨(by rw [ha.out]; exact putSel_upk 12 hb_ rfl rfl rfl), Q_HZ, Q_KP, Q_HX, Q_HQ⟩
  exact steps_nil
 rintro b a w27 hall ⟨ha, Q_HZ, Q_KP, Q_HX, Q_HQ⟩
 clear HQ HX HZ KP
 have hb1_ := hall 1 (by kernel_rfl)
 have hb2_ := hall 2 (by kernel_rfl)
 have hb3_ := hall 3 (by kernel_rfl)
 have hb4_ := hall 4 (by kernel_rfl)
 have hb6_ := hall 6 (by kernel_rfl)
 have hb7_ := hall 7 (by kernel_rfl)
 have hb8_ := hall 8 (by kernel_rfl)
 have hb9_ := hall 9 (by kernel_rfl)
 have hb10_ := hall 10 (by kernel_rfl)
 have hb12_ := hall 12 (by kernel_rfl)
 have hb14_ := hall 14 (by kernel_rfl)
 have hb16_ := hall 16 (by kernel_rfl)
 have hb17_ := hall 17 (by kernel_rfl)
 subst ha
 simp only [putSel, hb1_, hb2_, hb3_, hb4_, hb6_, hb7_, hb8_, hb9_, hb10_, hb12_, hb14_, hb16_, hb17_, if_true, Act.put, List.setIfInBounds_toArray, List.set_cons_zero, List.set_cons_succ]
 have HZ := Aside0.mk Q_HZ
 clear Q_HZ
 have KP := Aside0.mk Q_KP
 clear Q_KP
 have HX := Aside0.mk Q_HX
 clear Q_HX
 have HQ := Aside0.mk Q_HQ
 clear Q_HQ
 clear hall hb1_ hb2_ hb3_ hb4_ hb6_ hb7_ hb8_ hb9_ hb10_ hb12_ hb14_ hb16_ hb17_
 go_wp2_with (fail)
 have hb : Below w27.heap.size w27 w27.drew := below_drew1 (Below.refl _ _)
 replace KP := Aside0.mk (Kept.then_ KP.out (Kept.of_below hb (fun b => b = gx)) (fun b hb => .inl hb)); replace HX := Aside0.mk (blk_below HX.out hb); replace HQ := Aside0.mk (blk_below HQ.out hb); replace HZ := Aside0.mk (Below.trans HZ.out (Below.mono hb (Nat.zero_le _))); clear hb
 refine start_ (n := 10) (S := fun w' => True) (ds := []) #[false, false, false, false, false, false, false, false, false, false] (by kernel_rfl) rfl rfl trivial (fun hHeld => ?_)
 refine with_tabW impl_queueState_step.tab8 impl_queueState_step.bits8 (fun HT_ HW_ => ?_)
 generalize w27.drew = wk8 at KP HX HQ HZ hHeld ⊢
 refine pure_ (i := 0) (N := some 67) (v := ?_) (a' := ?_) #[true, false, false, false, false, false, false, false, false, false] rfl rfl (any_of HT_.out (by kernel_rfl)) (fun _ _ _ h => h) (Or.inl ⟨by rfl, ?_⟩) ?_ ?_
 rotate_left
 ·intro w'
  go_simp
  with_reducible rfl
 rotate_left
 ·simp only [Act.put, List.setIfInBounds_toArray, List.set_cons_zero, List.set_cons_succ, i64_w, i32_w]
  rfl
 refine pure_ (i := 2) (N := some 69) (v := ?_) (a' := ?_) #[true, false, true, false, false, false, false, false, false, false] rfl rfl (any_of HT_.out (by kernel_rfl)) (fun _ _ _ h => h) (Or.inl ⟨by rfl, ?_⟩) ?_ ?_
 rotate_left
 ·intro w'
  go_simp
  with_reducible rfl
 rotate_left
 ·simp only [Act.put, List.setIfInBounds_toArray, List.set_cons_zero, List.set_cons_succ, i64_w, i32_w]
  rfl
 refine inv_at [1, 3, 4, 5, 6, 7, 8, 9] (fun a0_ b a w' => a = putSel a0_ b [(1, 68, .agg #[.int .i64 d, .int .i64 g]), (3, 70, .pointer (some ⟨gx, 0, none⟩)), (4, 71, .pointer (some ⟨gx, 1, none⟩)), (5, 72, .int .i64 x1), (6, 73, .int .i64 cf), (7, 74, .pointer (some ⟨gx, 0, none⟩)), (8, 75, .pointer (some ⟨gx, 2, none⟩))] ∧ (Below 0 w w') ∧ (Kept w w' (fun b => b = gx)) ∧ (b 9 = false → w'.heap[gx]? = some (.cells #[.int .i64 x0, .int .i64 x1, .int .i64 x2, .int .i64 x3, .int .i64 x4, .int .i64 x5, .int .i64 x6] 48 (0, 0))) ∧ (w'.heap[gq]? = some (.cells #[.int .i64 d, .int .i64 g] 27 (0, 0))) ∧ (b 9 = true → w'.heap[gx]? = some (.cells #[.int .i64 x0, .int .i64 x1, .int .i64 cf, .int .i64 x3, .int .i64 x4, .int .i64 x5, .int .i64 x6] 48 (0, 0)))) HT_.out HW_.out (by kernel_rfl) (by kernel_rfl) ?_ ?_ ?_
 ·exact ⟨by simp only [putSel, Bool.false_eq_true, if_false], HZ.out, KP.out, fun _ => HX.out, HQ.out, fun h_ => absurd h_ (by decide)⟩
 ·skip
  clear HQ HX HZ KP
  refine steps_cons ?_ ?_
  ·rintro b a w' ⟨ha, Q_HZ, Q_KP, Q_HX, Q_HQ, Q_HXn⟩ hb_ hon hoff
   refine ⟨_, rfl, fun K hK => ?_⟩
   have e4 : a.tmps[4]? = some (.pointer (some ⟨gq, 0, none⟩)) := by rw [ha]; exact (putSel_off rfl).trans rfl
   replace ha := Aside0.mk ha
   have HZ := Aside0.mk Q_HZ
   have KP := Aside0.mk Q_KP
   have HX := Aside0.mk (Q_HX (hoff 9 (by kernel_rfl)))
   have HQ := Aside0.mk Q_HQ
   have hc0_ : w'.cell? ⟨gq, 0, none⟩ = some (.int .i64 d) := (blk_cell HQ.out 0).trans rfl
   have hc1_ : w'.cell? ⟨gq, 1, none⟩ = some (.int .i64 g) := (blk_cell HQ.out 1).trans rfl
   refine value_ (w1 := w') (v := .agg #[.int .i64 d, .int .i64 g]) (by rfl) rfl ?_ ?_
   ·go_simp
    (try simp only [i64_w])
    try rfl
   refine hK.out _ _ ⟨(by rw [ha.out]; exact putSel_upk 0 hb_ rfl rfl rfl), Q_HZ, Q_KP, Q_HX, Q_HQ, fun h0_ => absurd ((hoff 9 (by kernel_rfl)).symm.trans h0_) (by decide)⟩
  refine steps_cons ?_ ?_
  ·rintro b a w' ⟨ha, Q_HZ, Q_KP, Q_HX, Q_HQ, Q_HXn⟩ hb_ hon hoff
   refine ⟨_, rfl, fun K hK => ?_⟩
   have e69 : a.tmps[69]? = some (.pointer (some ⟨gx, 0, none⟩)) := by rw [ha]; exact (putSel_off rfl).trans rfl
   replace ha := Aside0.mk ha
   have HZ := Aside0.mk Q_HZ
   have KP := Aside0.mk Q_KP
   have HX := Aside0.mk (Q_HX (hoff 9 (by kernel_rfl)))
   have HQ := Aside0.mk Q_HQ
   refine value_ (w1 := w') (v := .pointer (some ⟨gx, 0, none⟩)) (by rfl) rfl ?_ ?_
   ·go_simp
    (try simp only [i64_w])
    try rfl
   refine hK.out _ _ ⟨(by rw [ha.out]; exact putSel_upk 1 hb_ rfl rfl rfl), Q_HZ, Q_KP, Q_HX, Q_HQ, fun h0_ => absurd ((hoff 9 (by kernel_rfl)).symm.trans h0_) (by decide)⟩
  refine steps_cons ?_ ?_
  ·rintro b a w' ⟨ha, Q_HZ, Q_KP, Q_HX, Q_HQ, Q_HXn⟩ hb_ hon hoff
   refine ⟨_, rfl, fun K hK => ?_⟩
   have e70 : a.tmps[70]? = some (.pointer (some ⟨gx, 0, none⟩)) := by rw [ha]; exact putSel_on (e := (3, 70, .pointer (some ⟨gx, 0, none⟩))) 1 rfl rfl (hon 3 (by kernel_rfl)) rfl
   replace ha := Aside0.mk ha
   have HZ := Aside0.mk Q_HZ
   have KP := Aside0.mk Q_KP
   have HX := Aside0.mk (Q_HX (hoff 9 (by kernel_rfl)))
   have HQ := Aside0.mk Q_HQ
   refine value_ (w1 := w') (v := .pointer (some ⟨gx, 1, none⟩)) (by rfl) rfl ?_ ?_
   ·go_simp
    (try simp only [i64_w])
    try rfl
   refine hK.out _ _ ⟨(by rw [ha.out]; exact putSel_upk 2 hb_ rfl rfl rfl), Q_HZ, Q_KP, Q_HX, Q_HQ, fun h0_ => absurd ((hoff 9 (by kernel_rfl)).symm.trans h0_) (by decide)⟩
  refine steps_cons ?_ ?_
  ·rintro b a w' ⟨ha, Q_HZ, Q_KP, Q_HX, Q_HQ, Q_HXn⟩ hb_ hon hoff
   refine ⟨_, rfl, fun K hK => ?_⟩
   have e71 : a.tmps[71]? = some (.pointer (some ⟨gx, 1, none⟩)) := by rw [ha]; exact putSel_on (e := (4, 71, .pointer (some ⟨gx, 1, none⟩))) 2 rfl rfl (hon 4 (by kernel_rfl)) rfl
   replace ha := Aside0.mk ha
   have HZ := Aside0.mk Q_HZ
   have KP := Aside0.mk Q_KP
   have HX := Aside0.mk (Q_HX (hoff 9 (by kernel_rfl)))
   have HQ := Aside0.mk Q_HQ
   have hc1_ : w'.cell? ⟨gx, 1, none⟩ = some (.int .i64 x1) := (blk_cell HX.out 1).trans rfl
   refine value_ (w1 := w') (v := .int .i64 x1) (by rfl) rfl ?_ ?_
   ·go_simp
    (try simp only [i64_w])
    try rfl
   refine hK.out _ _ ⟨(by rw [ha.out]; exact putSel_upk 3 hb_ rfl rfl rfl), Q_HZ, Q_KP, Q_HX, Q_HQ, fun h0_ => absurd ((hoff 9 (by kernel_rfl)).symm.trans h0_) (by decide)⟩
  refine steps_cons ?_ ?_
  ·rintro b a w' ⟨ha, Q_HZ, Q_KP, Q_HX, Q_HQ, Q_HXn⟩ hb_ hon hoff
   refine ⟨_, rfl, fun K hK => ?_⟩
   have e68 : a.tmps[68]? = some (.agg #[.int .i64 d, .int .i64 g]) := by rw [ha]; exact putSel_on (e := (1, 68, .agg #[.int .i64 d, .int .i64 g])) 0 rfl rfl (hon 1 (by kernel_rfl)) rfl
   have e72 : a.tmps[72]? = some (.int .i64 x1) := by rw [ha]; exact putSel_on (e := (5, 72, .int .i64 x1)) 3 rfl rfl (hon 5 (by kernel_rfl)) rfl
   replace ha := Aside0.mk ha
   have HZ := Aside0.mk Q_HZ
   have KP := Aside0.mk Q_KP
   have HX := Aside0.mk (Q_HX (hoff 9 (by kernel_rfl)))
   have HQ := Aside0.mk Q_HQ
   refine goes_ Tryd.func35 (by kernel_rfl) rfl #[.agg #[.int .i64 d, .int .i64 g], .int .i64 x1] (by rfl) rfl rfl (by first | (simp only [List.map_toArray, List.map_cons, List.map_nil, Act.eval, Array.getD_eq_getD_getElem?, Option.getD_some, e68, e72]; done) | (simp only [List.map_toArray, List.map_cons, List.map_nil, Act.eval, Array.getD_eq_getD_getElem?, Option.getD_some, e68, e72]; rfl)) ?_
   refine (impl_Queue_code.calls d g (x1) cf w' HB2.out).mono ?_
   rintro e w5 ⟨rfl, hb⟩
   refine ⟨_, rfl, ?_⟩
   refine hK.out _ _ ⟨(by rw [ha.out]; exact putSel_upk 4 hb_ rfl rfl rfl), Below.trans HZ.out (Below.mono hb (Nat.zero_le _)), Kept.then_ KP.out (Kept.of_below hb (fun b => b = gx)) (fun b hb => .inl hb), fun _ => blk_below HX.out hb, blk_below HQ.out hb, fun h0_ => absurd ((hoff 9 (by kernel_rfl)).symm.trans h0_) (by decide)⟩
  refine steps_cons ?_ ?_
  ·rintro b a w' ⟨ha, Q_HZ, Q_KP, Q_HX, Q_HQ, Q_HXn⟩ hb_ hon hoff
   refine ⟨_, rfl, fun K hK => ?_⟩
   have e67 : a.tmps[67]? = some (.pointer (some ⟨gx, 0, none⟩)) := by rw [ha]; exact (putSel_off rfl).trans rfl
   replace ha := Aside0.mk ha
   have HZ := Aside0.mk Q_HZ
   have KP := Aside0.mk Q_KP
   have HX := Aside0.mk (Q_HX (hoff 9 (by kernel_rfl)))
   have HQ := Aside0.mk Q_HQ
   refine value_ (w1 := w') (v := .pointer (some ⟨gx, 0, none⟩)) (by rfl) rfl ?_ ?_
   ·go_simp
    (try simp only [i64_w])
    try rfl
   refine hK.out _ _ ⟨(by rw [ha.out]; exact putSel_upk 5 hb_ rfl rfl rfl), Q_HZ, Q_KP, Q_HX, Q_HQ, fun h0_ => absurd ((hoff 9 (by kernel_rfl)).symm.trans h0_) (by decide)⟩
  refine steps_cons ?_ ?_
  ·rintro b a w' ⟨ha, Q_HZ, Q_KP, Q_HX, Q_HQ, Q_HXn⟩ hb_ hon hoff
   refine ⟨_, rfl, fun K hK => ?_⟩
   have e74 : a.tmps[74]? = some (.pointer (some ⟨gx, 0, none⟩)) := by rw [ha]; exact putSel_on (e := (7, 74, .pointer (some ⟨gx, 0, none⟩))) 5 rfl rfl (hon 7 (by kernel_rfl)) rfl
   replace ha := Aside0.mk ha
   have HZ := Aside0.mk Q_HZ
   have KP := Aside0.mk Q_KP
   have HX := Aside0.mk (Q_HX (hoff 9 (by kernel_rfl)))
   have HQ := Aside0.mk Q_HQ
   refine value_ (w1 := w') (v := .pointer (some ⟨gx, 2, none⟩)) (by rfl) rfl ?_ ?_
   ·go_simp
    (try simp only [i64_w])
    try rfl
   refine hK.out _ _ ⟨(by rw [ha.out]; exact putSel_upk 6 hb_ rfl rfl rfl), Q_HZ, Q_KP, Q_HX, Q_HQ, fun h0_ => absurd ((hoff 9 (by kernel_rfl)).symm.trans h0_) (by decide)⟩
  refine steps_cons ?_ ?_
  ·rintro b a w' ⟨ha, Q_HZ, Q_KP, Q_HX, Q_HQ, Q_HXn⟩ hb_ hon hoff
   refine ⟨_, rfl, fun K hK => ?_⟩
   have e75 : a.tmps[75]? = some (.pointer (some ⟨gx, 2, none⟩)) := by rw [ha]; exact putSel_on (e := (8, 75, .pointer (some ⟨gx, 2, none⟩))) 6 rfl rfl (hon 8 (by kernel_rfl)) rfl
   have e73 : a.tmps[73]? = some (.int .i64 cf) := by rw [ha]; exact putSel_on (e := (6, 73, .int .i64 cf)) 4 rfl rfl (hon 6 (by kernel_rfl)) rfl
   replace ha := Aside0.mk ha
   have HZ := Aside0.mk Q_HZ
   have KP := Aside0.mk Q_KP
   have HX := Aside0.mk (Q_HX hb_)
   have HQ := Aside0.mk Q_HQ
   have hz_ := blk_cell HX.out 2
   have hf_ := blk_frozen HX.out 2
   refine skip_ (w1 := w'.setCell ⟨gx, 2, none⟩ (.int .i64 cf)) (by rfl) rfl ?_ ?_
   ·go_simp
   refine hK.out _ _ ⟨(by rw [ha.out]; exact putSel_none (v := undef) rfl), Below.setCell HZ.out (p := ⟨gx, 2, none⟩) (Nat.zero_le _) (.int .i64 cf), Kept.setCell KP.out (p := ⟨gx, 2, none⟩) (.inl rfl) (.int .i64 cf), fun h0_ => absurd ((up_self b 9).symm.trans h0_) (by decide), blk_far HQ.out (p := ⟨gx, 2, none⟩) HNE.out (.int .i64 cf), fun _ => blk_put HX.out 2 (.int .i64 cf) rfl⟩
  exact steps_nil
 rintro b a w28 hall ⟨ha, Q_HZ, Q_KP, Q_HX, Q_HQ, Q_HXn⟩
 clear HQ HX HZ KP
 have hb1_ := hall 1 (by kernel_rfl)
 have hb3_ := hall 3 (by kernel_rfl)
 have hb4_ := hall 4 (by kernel_rfl)
 have hb5_ := hall 5 (by kernel_rfl)
 have hb6_ := hall 6 (by kernel_rfl)
 have hb7_ := hall 7 (by kernel_rfl)
 have hb8_ := hall 8 (by kernel_rfl)
 have hb9_ := hall 9 (by kernel_rfl)
 subst ha
 simp only [putSel, hb1_, hb3_, hb4_, hb5_, hb6_, hb7_, hb8_, hb9_, if_true, Act.put, List.setIfInBounds_toArray, List.set_cons_zero, List.set_cons_succ]
 have HZ := Aside0.mk Q_HZ
 clear Q_HZ
 have KP := Aside0.mk Q_KP
 clear Q_KP
 clear Q_HX
 have HQ := Aside0.mk Q_HQ
 clear Q_HQ
 have HXn := Aside0.mk (Q_HXn hb9_)
 clear Q_HXn
 clear hall hb1_ hb3_ hb4_ hb5_ hb6_ hb7_ hb8_ hb9_
 have HX := HXn
 clear HXn
 go_wp2
 ((try simp only [Exit.inBlock, Exit.then]); refine bodyPost_ret (results_none rfl _ _ _) rfl ?_)
 exact ⟨rfl, HX.out, KP.out, HZ.out⟩
set_option maxHeartbeats 8000000 in
set_option maxRecDepth 100000 in
theorem qstepC (k : Nat) (gx : Nat) (x0 x1 x2 x3 x4 x5 x6 d g lt cn cb ce cf : Int) (w : World) (hx : w.heap[gx]? = some (.cells #[.int .i64 x0, .int .i64 x1, .int .i64 x2, .int .i64 x3, .int .i64 x4, .int .i64 x5, .int .i64 x6] 48 (0, 0))) (hR : ¬ wrap64 (2 * d) = 0) (hl : ¬ lt = 115) (hc : impl_Queue_count.f k d g x3 = some cn) (ht : impl_within.f (Int.tmod (wrap64 (wrap64 (cn - x1) + wrap64 (2 * d))) (wrap64 (2 * d))) 1 d = some true) (h0 : impl_Queue_code.f d g x1 = some cb) (h1 : impl_Queue_code.f d g (Int.tmod (wrap64 (x1 + 1)) (wrap64 (2 * d))) = some ce) (h2 : impl_Queue_code.f d g x0 = some cf) :
  Calls Tryd.prog 20 #[.pointer (some ⟨gx, 0, none⟩), .agg #[.int .i64 d, .int .i64 g], .int .u8 lt] w fun e w' => e = .returned (.tuple #[]) ∧ w'.heap[gx]? = some (.cells #[.int .i64 x0, .int .i64 (Int.tmod (wrap64 (x1 + 1)) (wrap64 (2 * d))), .int .i64 x2, .int .i64 cf, .int .i64 x4, .int .i64 (Go.bits .xor .i64 (cb) (ce)), .int .i64 (wrap64 (x6 - 1))] 48 (0, 0)) ∧ Kept w w' (fun b => b = gx) ∧ Below 0 w w' := by
 have hu := Tryd.underlying27
 have hu2 := Tryd.underlying48
 have HX := Aside0.mk hx
 have HR0 := Aside0.mk hR
 clear hx hR
 have HC := Aside0.mk hc; have HB0 := Aside0.mk h0; have HB1 := Aside0.mk h1; have HB2 := Aside0.mk h2; have HW := Aside0.mk ht
 clear hc h0 h1 h2 ht
 have t1 : (lt == 115) = false := beq_eq_false_iff_ne.mpr hl
 have t2 : decide (lt = 115) = false := decide_eq_false hl
 go_enter Tryd.func20, Tryd.ntmps20
 go_wp2_with (fail)
 obtain ⟨wr, hwr⟩ : ∃ z, z = w.alloc (.cells #[.int .i64 d, .int .i64 g] 27) := ⟨_, rfl⟩
 rw [← hwr]
 have hb : Below w.heap.size w wr := by rw [hwr]; exact below_alloc (Below.refl _ _) _
 have HQ : Aside0 (wr.heap[w.heap.size]? = some (.cells #[.int .i64 d, .int .i64 g] 27 (0, 0))) := ⟨by rw [hwr]; simpa using heap_alloc_new w _⟩
 have HNE : Aside0 (w.heap.size ≠ gx) := ⟨by have := blk_lt HX.out; omega⟩
 have KP : Aside0 (Kept w wr (fun b => b = gx)) := ⟨Kept.of_below hb _⟩
 have HZ : Aside0 (Below 0 w wr) := ⟨Below.mono hb (Nat.zero_le _)⟩
 replace HX := Aside0.mk (blk_below HX.out hb)
 clear hwr hb
 obtain ⟨gq, hgq⟩ : ∃ z, z = w.heap.size := ⟨_, rfl⟩
 rw [← hgq] at HQ HNE ⊢
 clear hgq
 have hb : Below wr.heap.size wr wr.drew := below_drew1 (Below.refl _ _)
 replace KP := Aside0.mk (Kept.then_ KP.out (Kept.of_below hb (fun b => b = gx)) (fun b hb => .inl hb)); replace HX := Aside0.mk (blk_below HX.out hb); replace HQ := Aside0.mk (blk_below HQ.out hb); replace HZ := Aside0.mk (Below.trans HZ.out (Below.mono hb (Nat.zero_le _))); clear hb
 refine start_ (n := 16) (S := fun w' => True) (ds := []) #[false, false, false, false, false, false, false, false, false, false, false, false, false, false, false, false] (by kernel_rfl) rfl rfl trivial (fun hHeld => ?_)
 refine with_tabW impl_queueState_step.tab9 impl_queueState_step.bits9 (fun HT_ HW_ => ?_)
 generalize wr.drew = wk9 at KP HX HQ HZ hHeld ⊢
 refine pure_ (i := 1) (N := some 77) (v := ?_) (a' := ?_) #[false, true, false, false, false, false, false, false, false, false, false, false, false, false, false, false] rfl rfl (any_of HT_.out (by kernel_rfl)) (fun _ _ _ h => h) (Or.inl ⟨by rfl, ?_⟩) ?_ ?_
 rotate_left
 ·intro w'
  go_simp
  with_reducible rfl
 rotate_left
 ·simp only [Act.put, List.setIfInBounds_toArray, List.set_cons_zero, List.set_cons_succ, i64_w, i32_w]
  rfl
 refine pure_ (i := 6) (N := some 82) (v := ?_) (a' := ?_) #[false, true, false, false, false, false, true, false, false, false, false, false, false, false, false, false] rfl rfl (any_of HT_.out (by kernel_rfl)) (fun _ _ _ h => h) (Or.inl ⟨by rfl, ?_⟩) ?_ ?_
 rotate_left
 ·intro w'
  go_simp
  with_reducible rfl
 rotate_left
 ·simp only [Act.put, List.setIfInBounds_toArray, List.set_cons_zero, List.set_cons_succ, i64_w, i32_w]
  rfl
 refine pure_ (i := 11) (N := some 87) (v := ?_) (a' := ?_) #[false, true, false, false, false, false, true, false, false, false, false, true, false, false, false, false] rfl rfl (any_of HT_.out (by kernel_rfl)) (fun _ _ _ h => h) (Or.inl ⟨by rfl, ?_⟩) ?_ ?_
 rotate_left
 ·intro w'
  go_simp
  with_reducible rfl
 rotate_left
 ·simp only [Act.put, List.setIfInBounds_toArray, List.set_cons_zero, List.set_cons_succ, i64_w, i32_w]
  rfl
 refine pure_ (i := 13) (N := some 89) (v := ?_) (a' := ?_) #[false, true, false, false, false, false, true, false, false, false, false, true, false, true, false, false] rfl rfl (any_of HT_.out (by kernel_rfl)) (fun _ _ _ h => h) (Or.inl ⟨by rfl, ?_⟩) ?_ ?_
 rotate_left
 ·intro w'
  go_simp
  with_reducible rfl
 rotate_left
 ·simp only [Act.put, List.setIfInBounds_toArray, List.set_cons_zero, List.set_cons_succ, i64_w, i32_w]
  rfl
 refine inv_at [0, 2, 3, 4, 5, 7, 8, 9, 10, 12, 14, 15] (fun a0_ b a w' => a = putSel a0_ b [(0, 76, .agg #[.int .i64 d, .int .i64 g]), (2, 78, .pointer (some ⟨gx, 0, none⟩)), (3, 79, .pointer (some ⟨gx, 3, none⟩)), (4, 80, .int .i64 x3), (5, 81, .int .i64 cn), (7, 83, .pointer (some ⟨gx, 0, none⟩)), (8, 84, .pointer (some ⟨gx, 1, none⟩)), (9, 85, .int .i64 x1), (10, 86, .int .i64 (wrap64 (cn - x1))), (12, 88, .int .i64 (wrap64 (((wrap64 (cn - x1))) + ((wrap64 (2 * d)))))), (14, 90, .int .i64 (Int.tmod ((wrap64 (((wrap64 (cn - x1))) + ((wrap64 (2 * d)))))) ((wrap64 (2 * d))))), (15, 8, .int .i64 (Int.tmod ((wrap64 (((wrap64 (cn - x1))) + ((wrap64 (2 * d)))))) ((wrap64 (2 * d)))))] ∧ (Below 0 w w') ∧ (Kept w w' (fun b => b = gx)) ∧ (w'.heap[gx]? = some (.cells #[.int .i64 x0, .int .i64 x1, .int .i64 x2, .int .i64 x3, .int .i64 x4, .int .i64 x5, .int .i64 x6] 48 (0, 0))) ∧ (w'.heap[gq]? = some (.cells #[.int .i64 d, .int .i64 g] 27 (0, 0)))) HT_.out HW_.out (by kernel_rfl) (by kernel_rfl) ?_ ?_ ?_
 ·exact ⟨by simp only [putSel, Bool.false_eq_true, if_false], HZ.out, KP.out, HX.out, HQ.out⟩
 ·skip
  clear HQ HX HZ KP
  refine steps_cons ?_ ?_
  ·rintro b a w' ⟨ha, Q_HZ, Q_KP, Q_HX, Q_HQ⟩ hb_ hon hoff
   refine ⟨_, rfl, fun K hK => ?_⟩
   have e4 : a.tmps[4]? = some (.pointer (some ⟨gq, 0, none⟩)) := by rw [ha]; exact (putSel_off rfl).trans rfl
   replace ha := Aside0.mk ha
   have HZ := Aside0.mk Q_HZ
   have KP := Aside0.mk Q_KP
   have HX := Aside0.mk Q_HX
   have HQ := Aside0.mk Q_HQ
   have hc0_ : w'.cell? ⟨gq, 0, none⟩ = some (.int .i64 d) := (blk_cell HQ.out 0).trans rfl
   have hc1_ : w'.cell? ⟨gq, 1, none⟩ = some (.int .i64 g) := (blk_cell HQ.out 1).trans rfl
   refine value_ (w1 := w') (v := .agg #[.int .i64 d, .int .i64 g]) (by rfl) rfl ?_ ?_
   ·go_simp
    (try simp only [i64_w])
    try rfl
   refine hK.out _ _ ⟨(by rw [ha.out]; exact putSel_upk 0 hb_ rfl rfl rfl), Q_HZ, Q_KP, Q_HX, Q_HQ⟩
  refine steps_cons ?_ ?_
  ·rintro b a w' ⟨ha, Q_HZ, Q_KP, Q_HX, Q_HQ⟩ hb_ hon hoff
   refine ⟨_, rfl, fun K hK => ?_⟩
   have e77 : a.tmps[77]? = some (.pointer (some ⟨gx, 0, none⟩)) := by rw [ha]; exact (putSel_off rfl).trans rfl
   replace ha := Aside0.mk ha
   have HZ := Aside0.mk Q_HZ
   have KP := Aside0.mk Q_KP
   have HX := Aside0.mk Q_HX
   have HQ := Aside0.mk Q_HQ
   refine value_ (w1 := w') (v := .pointer (some ⟨gx, 0, none⟩)) (by rfl) rfl ?_ ?_
   ·go_simp
    (try simp only [i64_w])
    try rfl
   refine hK.out _ _ ⟨(by rw [ha.out]; exact putSel_upk 1 hb_ rfl rfl rfl), Q_HZ, Q_KP, Q_HX, Q_HQ⟩
  refine steps_cons ?_ ?_
  ·rintro b a w' ⟨ha, Q_HZ, Q_KP, Q_HX, Q_HQ⟩ hb_ hon hoff
   refine ⟨_, rfl, fun K hK => ?_⟩
   have e78 : a.tmps[78]? = some (.pointer (some ⟨gx, 0, none⟩)) := by rw [ha]; exact putSel_on (e := (2, 78, .pointer (some ⟨gx, 0, none⟩))) 1 rfl rfl (hon 2 (by kernel_rfl)) rfl
   replace ha := Aside0.mk ha
   have HZ := Aside0.mk Q_HZ
   have KP := Aside0.mk Q_KP
   have HX := Aside0.mk Q_HX
   have HQ := Aside0.mk Q_HQ
   refine value_ (w1 := w') (v := .pointer (some ⟨gx, 3, none⟩)) (by rfl) rfl ?_ ?_
   ·go_simp
    (try simp only [i64_w])
    try rfl
   refine hK.out _ _ ⟨(by rw [ha.out]; exact putSel_upk 2 hb_ rfl rfl rfl), Q_HZ, Q_KP, Q_HX, Q_HQ⟩
  refine steps_cons ?_ ?_
  ·rintro b a w' ⟨ha, Q_HZ, Q_KP, Q_HX, Q_HQ⟩ hb_ hon hoff
   refine ⟨_, rfl, fun K hK => ?_⟩
   have e79 : a.tmps[79]? = some (.pointer (some ⟨gx, 3, none⟩)) := by rw [ha]; exact putSel_on (e := (3, 79, .pointer (some ⟨gx, 3, none⟩))) 2 rfl rfl (hon 3 (by kernel_rfl)) rfl
   replace ha := Aside0.mk ha
   have HZ := Aside0.mk Q_HZ
   have KP := Aside0.mk Q_KP
   have HX := Aside0.mk Q_HX
   have HQ := Aside0.mk Q_HQ
   have hc3_ : w'.cell? ⟨gx, 3, none⟩ = some (.int .i64 x3) := (blk_cell HX.out 3).trans rfl
   refine value_ (w1 := w') (v := .int .i64 x3) (by rfl) rfl ?_ ?_
   ·go_simp
    (try simp only [i64_w])
    try rfl
   refine hK.out _ _ ⟨(by rw [ha.out]; exact putSel_upk 3 hb_ rfl rfl rfl), Q_HZ, Q_KP, Q_HX, Q_HQ⟩
  refine steps_cons ?_ ?_
  ·rintro b a w' ⟨ha, Q_HZ, Q_KP, Q_HX, Q_HQ⟩ hb_ hon hoff
   refine ⟨_, rfl, fun K hK => ?_⟩
   have e76 : a.tmps[76]? = some (.agg #[.int .i64 d, .int .i64 g]) := by rw [ha]; exact putSel_on (e := (0, 76, .agg #[.int .i64 d, .int .i64 g])) 0 rfl rfl (hon 0 (by kernel_rfl)) rfl
   have e80 : a.tmps[80]? = some (.int .i64 x3) := by rw [ha]; exact putSel_on (e := (4, 80, .int .i64 x3)) 3 rfl rfl (hon 4 (by kernel_rfl)) rfl
   replace ha := Aside0.mk ha
   have HZ := Aside0.mk Q_HZ
   have KP := Aside0.mk Q_KP
   have HX := Aside0.mk Q_HX
   have HQ := Aside0.mk Q_HQ
   refine goes_ Tryd.func34 (by kernel_rfl) rfl #[.agg #[.int .i64 d, .int .i64 g], .int .i64 x3] (by rfl) rfl rfl (by first | (simp only [List.map_toArray, List.map_cons, List.map_nil, Act.eval, Array.getD_eq_getD_getElem?, Option.getD_some, e76, e80]; done) | (simp only [List.map_toArray, List.map_cons, List.map_nil, Act.eval, Array.getD_eq_getD_getElem?, Option.getD_some, e76, e80]; rfl)) ?_
   refine (impl_Queue_count.calls k d g x3 cn w' HC.out).mono ?_
   rintro e w5 ⟨rfl, hb⟩
   refine ⟨_, rfl, ?_⟩
   refine hK.out _ _ ⟨(by rw [ha.out]; exact putSel_upk 4 hb_ rfl rfl rfl), Below.trans HZ.out (Below.mono hb (Nat.zero_le _)), Kept.then_ KP.out (Kept.of_below hb (fun b => b = gx)) (fun b hb => .inl hb), blk_below HX.out hb, blk_below HQ.out hb⟩
  refine steps_cons ?_ ?_
  ·rintro b a w' ⟨ha, Q_HZ, Q_KP, Q_HX, Q_HQ⟩ hb_ hon hoff
   refine ⟨_, rfl, fun K hK => ?_⟩
   have e82 : a.tmps[82]? = some (.pointer (some ⟨gx, 0, none⟩)) := by rw [ha]; exact (putSel_off rfl).trans rfl
   replace ha := Aside0.mk ha
   have HZ := Aside0.mk Q_HZ
   have KP := Aside0.mk Q_KP
   have HX := Aside0.mk Q_HX
   have HQ := Aside0.mk Q_HQ
   refine value_ (w1 := w') (v := .pointer (some ⟨gx, 0, none⟩)) (by rfl) rfl ?_ ?_
   ·go_simp
    (try simp only [i64_w])
    try rfl
   refine hK.out _ _ ⟨(by rw [ha.out]; exact putSel_upk 5 hb_ rfl rfl rfl), Q_HZ, Q_KP, Q_HX, Q_HQ⟩
  refine steps_cons ?_ ?_
  ·rintro b a w' ⟨ha, Q_HZ, Q_KP, Q_HX, Q_HQ⟩ hb_ hon hoff
   refine ⟨_, rfl, fun K hK => ?_⟩
   have e83 : a.tmps[83]? = some (.pointer (some ⟨gx, 0, none⟩)) := by rw [ha]; exact putSel_on (e := (7, 83, .pointer (some ⟨gx, 0, none⟩))) 5 rfl rfl (hon 7 (by kernel_rfl)) rfl
   replace ha := Aside0.mk ha
   have HZ := Aside0.mk Q_HZ
   have KP := Aside0.mk Q_KP
   have HX := Aside0.mk Q_HX
   have HQ := Aside0.mk Q_HQ
   refine value_ (w1 := w') (v := .pointer (some ⟨gx, 1, none⟩)) (by rfl) rfl ?_ ?_
   ·go_simp
    (try simp only [i64_w])
    try rfl
   refine hK.out _ _ ⟨(by rw [ha.out]; exact putSel_upk 6 hb_ rfl rfl rfl), Q_HZ, Q_KP, Q_HX, Q_HQ⟩
  refine steps_cons ?_ ?_
  ·rintro b a w' ⟨ha, Q_HZ, Q_KP, Q_HX, Q_HQ⟩ hb_ hon hoff
   refine ⟨_, rfl, fun K hK => ?_⟩
   have e84 : a.tmps[84]? = some (.pointer (some ⟨gx, 1, none⟩)) := by rw [ha]; exact putSel_on (e := (8, 84, .pointer (some ⟨gx, 1, none⟩))) 6 rfl rfl (hon 8 (by kernel_rfl)) rfl
   replace ha := Aside0.mk ha
   have HZ := Aside0.mk Q_HZ
   have KP := Aside0.mk Q_KP
   have HX := Aside0.mk Q_HX
   have HQ := Aside0.mk Q_HQ
   have hc1_ : w'.cell? ⟨gx, 1, none⟩ = some (.int .i64 x1) := (blk_cell HX.out 1).trans rfl
   refine value_ (w1 := w') (v := .int .i64 x1) (by rfl) rfl ?_ ?_
   ·go_simp
    (try simp only [i64_w])
    try rfl
   refine hK.out _ _ ⟨(by rw [ha.out]; exact putSel_upk 7 hb_ rfl rfl rfl), Q_HZ, Q_KP, Q_HX, Q_HQ⟩
  refine steps_cons ?_ ?_
  ·rintro b a w' ⟨ha, Q_HZ, Q_KP, Q_HX, Q_HQ⟩ hb_ hon hoff
   refine ⟨_, rfl, fun K hK => ?_⟩
   have e81 : a.tmps[81]? = some (.int .i64 cn) := by rw [ha]; exact putSel_on (e := (5, 81, .int .i64 cn)) 4 rfl rfl (hon 5 (by kernel_rfl)) rfl
   have e85 : a.tmps[85]? = some (.int .i64 x1) := by rw [ha]; exact putSel_on (e := (9, 85, .int .i64 x1)) 7 rfl rfl (hon 9 (by kernel_rfl)) rfl
   replace ha := Aside0.mk ha
   have HZ := Aside0.mk Q_HZ
   have KP := Aside0.mk Q_KP
   have HX := Aside0.mk Q_HX
   have HQ := Aside0.mk Q_HQ
   refine value_ (w1 := w') (v := .int .i64 (wrap64 (cn - x1))) (by rfl) rfl ?_ ?_
   ·go_simp
    (try simp only [i64_w])
    try rfl
   refine hK.out _ _ ⟨(by rw [ha.out]; exact putSel_upk 8 hb_ rfl rfl rfl), Q_HZ, Q_KP, Q_HX, Q_HQ⟩
  refine steps_cons ?_ ?_
  ·rintro b a w' ⟨ha, Q_HZ, Q_KP, Q_HX, Q_HQ⟩ hb_ hon hoff
   refine ⟨_, rfl, fun K hK => ?_⟩
   have e86 : a.tmps[86]? = some (.int .i64 (wrap64 (cn - x1))) := by rw [ha]; exact putSel_on (e := (10, 86, .int .i64 (wrap64 (cn - x1)))) 8 rfl rfl (hon 10 (by kernel_rfl)) rfl
   have e87 : a.tmps[87]? = some (.int .i64 (wrap64 (2 * d))) := by rw [ha]; exact (putSel_off rfl).trans rfl
   replace ha := Aside0.mk ha
   have HZ := Aside0.mk Q_HZ
   have KP := Aside0.mk Q_KP
   have HX := Aside0.mk Q_HX
   have HQ := Aside0.mk Q_HQ
   refine value_ (w1 := w') (v := .int .i64 (wrap64 (((wrap64 (cn - x1))) + ((wrap64 (2 * d)))))) (by rfl) rfl ?_ ?_
   ·go_simp
    (try simp only [i64_w])
    try rfl
   refine hK.out _ _ ⟨(by rw [ha.out]; exact putSel_upk 9 hb_ rfl rfl rfl), Q_HZ, Q_KP, Q_HX, Q_HQ⟩
  refine steps_cons ?_ ?_
  ·rintro b a w' ⟨ha, Q_HZ, Q_KP, Q_HX, Q_HQ⟩ hb_ hon hoff
   refine ⟨_, rfl, fun K hK => ?_⟩
   have e88 : a.tmps[88]? = some (.int .i64 (wrap64 (((wrap64 (cn - x1))) + ((wrap64 (2 * d)))))) := by rw [ha]; exact putSel_on (e := (12, 88, .int .i64 (wrap64 (((wrap64 (cn - x1))) + ((wrap64 (2 * d))))))) 9 rfl rfl (hon 12 (by kernel_rfl)) rfl
   have e89 : a.tmps[89]? = some (.int .i64 (wrap64 (2 * d))) := by rw [ha]; exact (putSel_off rfl).trans rfl
   replace ha := Aside0.mk ha
   have HZ := Aside0.mk Q_HZ
   have KP := Aside0.mk Q_KP
   have HX := Aside0.mk Q_HX
   have HQ := Aside0.mk Q_HQ
   have hr_ := HR0.out
   refine value_ (w1 := w') (v := .int .i64 (Int.tmod ((wrap64 (((wrap64 (cn - x1))) + ((wrap64 (2 * d)))))) ((wrap64 (2 * d))))) (by rfl) rfl ?_ ?_
   ·go_simp
    (try simp only [i64_w])
    try rfl
   refine hK.out _ _ ⟨(by rw [ha.out]; exact putSel_upk 10 hb_ rfl rfl rfl), Q_HZ, Q_KP, Q_HX, Q_HQ⟩
  refine steps_cons ?_ ?_
  ·rintro b a w' ⟨ha, Q_HZ, Q_KP, Q_HX, Q_HQ⟩ hb_ hon hoff
   refine ⟨_, rfl, fun K hK => ?_⟩
   have e90 : a.tmps[90]? = some (.int .i64 (Int.tmod ((wrap64 (((wrap64 (cn - x1))) + ((wrap64 (2 * d)))))) ((wrap64 (2 * d))))) := by rw [ha]; exact putSel_on (e := (14, 90, .int .i64 (Int.tmod ((wrap64 (((wrap64 (cn - x1))) + ((wrap64 (2 * d)))))) ((wrap64 (2 * d)))))) 10 rfl rfl (hon 14 (by kernel_rfl)) rfl
   replace ha := Aside0.mk ha
   have HZ := Aside0.mk Q_HZ
   have KP := Aside0.mk Q_KP
   have HX := Aside0.mk Q_HX
   have HQ := Aside0.mk Q_HQ
   refine value_ (w1 := w') (v := .int .i64 (Int.tmod ((wrap64 (((wrap64 (cn - x1))) + ((wrap64 (2 * d)))))) ((wrap64 (2 * d))))) (by rfl) rfl ?_ ?_
   ·go_simp
    (try simp only [i64_w])
    try rfl
   refine hK.out _ _ ⟨(by rw [ha.out]; exact putSel_upk 11 hb_ rfl rfl rfl), Q_HZ, Q_KP, Q_HX, Q_HQ⟩
  exact steps_nil
 rintro b a w29 hall ⟨ha, Q_HZ, Q_KP, Q_HX, Q_HQ⟩
 clear HQ HX HZ KP
 have hb0_ := hall 0 (by kernel_rfl)
 have hb2_ := hall 2 (by kernel_rfl)
 have hb3_ := hall 3 (by kernel_rfl)
 have hb4_ := hall 4 (by kernel_rfl)
 have hb5_ := hall 5 (by kernel_rfl)
 have hb7_ := hall 7 (by kernel_rfl)
 have hb8_ := hall 8 (by kernel_rfl)
 have hb9_ := hall 9 (by kernel_rfl)
 have hb10_ := hall 10 (by kernel_rfl)
 have hb12_ := hall 12 (by kernel_rfl)
 have hb14_ := hall 14 (by kernel_rfl)
 have hb15_ := hall 15 (by kernel_rfl)
 subst ha
 simp only [putSel, hb0_, hb2_, hb3_, hb4_, hb5_, hb7_, hb8_, hb9_, hb10_, hb12_, hb14_, hb15_, if_true, Act.put, List.setIfInBounds_toArray, List.set_cons_zero, List.set_cons_succ]
 have HZ := Aside0.mk Q_HZ
 clear Q_HZ
 have KP := Aside0.mk Q_KP
 clear Q_KP
 have HX := Aside0.mk Q_HX
 clear Q_HX
 have HQ := Aside0.mk Q_HQ
 clear Q_HQ
 clear hall hb0_ hb2_ hb3_ hb4_ hb5_ hb7_ hb8_ hb9_ hb10_ hb12_ hb14_ hb15_
 obtain ⟨b0, b1⟩ : w29.cell? ⟨gq, 0, none⟩ = some (.int .i64 d) ∧ True := ⟨(blk_cell HQ.out 0).trans rfl, trivial⟩
 go_wp2_with (fail)
 refine (impl_within.calls (w := _) (h := HW.out)).mono ?_
 rintro e wq ⟨rfl, hd⟩
 obtain ⟨nq, rfl⟩ := hd
 have hb := pw_below_drewN (Below.refl w29.heap.size w29) nq
 replace KP := Aside0.mk (Kept.then_ KP.out (Kept.of_below hb (fun b => b = gx)) (fun b hb => .inl hb)); replace HX := Aside0.mk (blk_below HX.out hb); replace HQ := Aside0.mk (blk_below HQ.out hb); replace HZ := Aside0.mk (Below.trans HZ.out (Below.mono hb (Nat.zero_le _))); clear hb
 generalize w29.drewN nq = wn at KP HX HQ HZ ⊢
 clear b0 b1
 go_wp2_with (fail)
 have hb : Below wn.heap.size wn wn.drew := below_drew1 (Below.refl _ _)
 replace KP := Aside0.mk (Kept.then_ KP.out (Kept.of_below hb (fun b => b = gx)) (fun b hb => .inl hb)); replace HX := Aside0.mk (blk_below HX.out hb); replace HQ := Aside0.mk (blk_below HQ.out hb); replace HZ := Aside0.mk (Below.trans HZ.out (Below.mono hb (Nat.zero_le _))); clear hb
 refine start_ (n := 7) (S := fun w' => True) (ds := []) #[false, false, false, false, false, false, false] (by kernel_rfl) rfl rfl trivial (fun hHeld => ?_)
 refine with_tabW impl_queueState_step.tab11 impl_queueState_step.bits11 (fun HT_ HW_ => ?_)
 generalize wn.drew = wk10 at KP HX HQ HZ hHeld ⊢
 refine pure_ (i := 1) (N := some 96) (v := ?_) (a' := ?_) #[false, true, false, false, false, false, false] rfl rfl (any_of HT_.out (by kernel_rfl)) (fun _ _ _ h => h) (Or.inl ⟨by rfl, ?_⟩) ?_ ?_
 rotate_left
 ·intro w'
  go_simp
  with_reducible rfl
 rotate_left
 ·simp only [Act.put, List.setIfInBounds_toArray, List.set_cons_zero, List.set_cons_succ, i64_w, i32_w]
  rfl
 refine inv_at [0, 2, 3, 4, 5, 6] (fun a0_ b a w' => a = putSel a0_ b [(0, 95, .agg #[.int .i64 d, .int .i64 g]), (2, 97, .pointer (some ⟨gx, 0, none⟩)), (3, 98, .pointer (some ⟨gx, 1, none⟩)), (4, 99, .int .i64 x1), (5, 100, .int .i64 cb), (6, 9, .int .i64 cb)] ∧ (Below 0 w w') ∧ (Kept w w' (fun b => b = gx)) ∧ (w'.heap[gx]? = some (.cells #[.int .i64 x0, .int .i64 x1, .int .i64 x2, .int .i64 x3, .int .i64 x4, .int .i64 x5, .int .i64 x6] 48 (0, 0))) ∧ (w'.heap[gq]? = some (.cells #[.int .i64 d, .int .i64 g] 27 (0, 0)))) HT_.out HW_.out (by kernel_rfl) (by kernel_rfl) ?_ ?_ ?_
 ·exact ⟨by simp only [putSel, Bool.false_eq_true, if_false], HZ.out, KP.out, HX.out, HQ.out⟩
 ·skip
  clear HQ HX HZ KP
  refine steps_cons ?_ ?_
  ·rintro b a w' ⟨ha, Q_HZ, Q_KP, Q_HX, Q_HQ⟩ hb_ hon hoff
   refine ⟨_, rfl, fun K hK => ?_⟩
   have e4 : a.tmps[4]? = some (.pointer (some ⟨gq, 0, none⟩)) := by rw [ha]; exact (putSel_off rfl).trans rfl
   replace ha := Aside0.mk ha
   have HZ := Aside0.mk Q_HZ
   have KP := Aside0.mk Q_KP
   have HX := Aside0.mk Q_HX
   have HQ := Aside0.mk Q_HQ
   have hc0_ : w'.cell? ⟨gq, 0, none⟩ = some (.int .i64 d) := (blk_cell HQ.out 0).trans rfl
   have hc1_ : w'.cell? ⟨gq, 1, none⟩ = some (.int .i64 g) := (blk_cell HQ.out 1).trans rfl
   refine value_ (w1 := w') (v := .agg #[.int .i64 d, .int .i64 g]) (by rfl) rfl ?_ ?_
   ·go_simp
    (try simp only [i64_w])
    try rfl
   refine hK.out _ _ ⟨(by rw [ha.out]; exact putSel_upk 0 hb_ rfl rfl rfl), Q_HZ, Q_KP, Q_HX, Q_HQ⟩
  refine steps_cons ?_ ?_
  ·rintro b a w' ⟨ha, Q_HZ, Q_KP, Q_HX, Q_HQ⟩ hb_ hon hoff
   refine ⟨_, rfl, fun K hK => ?_⟩
   have e96 : a.tmps[96]? = some (.pointer (some ⟨gx, 0, none⟩)) := by rw [ha]; exact (putSel_off rfl).trans rfl
   replace ha := Aside0.mk ha
   have HZ := Aside0.mk Q_HZ
   have KP := Aside0.mk Q_KP
   have HX := Aside0.mk Q_HX
   have HQ := Aside0.mk Q_HQ
   refine value_ (w1 := w') (v := .pointer (some ⟨gx, 0, none⟩)) (by rfl) rfl ?_ ?_
   ·go_simp
    (try simp only [i64_w])
    try rfl
   refine hK.out _ _ ⟨(by rw [ha.out]; exact putSel_upk 1 hb_ rfl rfl rfl), Q_HZ, Q_KP, Q_HX, Q_HQ⟩
  refine steps_cons ?_ ?_
  ·rintro b a w' ⟨ha, Q_HZ, Q_KP, Q_HX, Q_HQ⟩ hb_ hon hoff
   refine ⟨_, rfl, fun K hK => ?_⟩
   have e97 : a.tmps[97]? = some (.pointer (some ⟨gx, 0, none⟩)) := by rw [ha]; exact putSel_on (e := (2, 97, .pointer (some ⟨gx, 0, none⟩))) 1 rfl rfl (hon 2 (by kernel_rfl)) rfl
   replace ha := Aside0.mk ha
   have HZ := Aside0.mk Q_HZ
   have KP := Aside0.mk Q_KP
   have HX := Aside0.mk Q_HX
   have HQ := Aside0.mk Q_HQ
   refine value_ (w1 := w') (v := .pointer (some ⟨gx, 1, none⟩)) (by rfl) rfl ?_ ?_
   ·go_simp
    (try simp only [i64_w])
    try rfl
   refine hK.out _ _ ⟨(by rw [ha.out]; exact putSel_upk 2 hb_ rfl rfl rfl), Q_HZ, Q_KP, Q_HX, Q_HQ⟩
  refine steps_cons ?_ ?_
  ·rintro b a w' ⟨ha, Q_HZ, Q_KP, Q_HX, Q_HQ⟩ hb_ hon hoff
   refine ⟨_, rfl, fun K hK => ?_⟩
   have e98 : a.tmps[98]? = some (.pointer (some ⟨gx, 1, none⟩)) := by rw [ha]; exact putSel_on (e := (3, 98, .pointer (some ⟨gx, 1, none⟩))) 2 rfl rfl (hon 3 (by kernel_rfl)) rfl
   replace ha := Aside0.mk ha
   have HZ := Aside0.mk Q_HZ
   have KP := Aside0.mk Q_KP
   have HX := Aside0.mk Q_HX
   have HQ := Aside0.mk Q_HQ
   have hc1_ : w'.cell? ⟨gx, 1, none⟩ = some (.int .i64 x1) := (blk_cell HX.out 1).trans rfl
   refine value_ (w1 := w') (v := .int .i64 x1) (by rfl) rfl ?_ ?_
   ·go_simp
    (try simp only [i64_w])
    try rfl
   refine hK.out _ _ ⟨(by rw [ha.out]; exact putSel_upk 3 hb_ rfl rfl rfl), Q_HZ, Q_KP, Q_HX, Q_HQ⟩
  refine steps_cons ?_ ?_
  ·rintro b a w' ⟨ha, Q_HZ, Q_KP, Q_HX, Q_HQ⟩ hb_ hon hoff
   refine ⟨_, rfl, fun K hK => ?_⟩
   have e95 : a.tmps[95]? = some (.agg #[.int .i64 d, .int .i64 g]) := by rw [ha]; exact putSel_on (e := (0, 95, .agg #[.int .i64 d, .int .i64 g])) 0 rfl rfl (hon 0 (by kernel_rfl)) rfl
   have e99 : a.tmps[99]? = some (.int .i64 x1) := by rw [ha]; exact putSel_on (e := (4, 99, .int .i64 x1)) 3 rfl rfl (hon 4 (by kernel_rfl)) rfl
   replace ha := Aside0.mk ha
   have HZ := Aside0.mk Q_HZ
   have KP := Aside0.mk Q_KP
   have HX := Aside0.mk Q_HX
   have HQ := Aside0.mk Q_HQ
   refine goes_ Tryd.func35 (by kernel_rfl) rfl #[.agg #[.int .i64 d, .int .i64 g], .int .i64 x1] (by rfl) rfl rfl (by first | (simp only [List.map_toArray, List.map_cons, List.map_nil, Act.eval, Array.getD_eq_getD_getElem?, Option.getD_some, e95, e99]; done) | (simp only [List.map_toArray, List.map_cons, List.map_nil, Act.eval, Array.getD_eq_getD_getElem?, Option.getD_some, e95, e99]; rfl)) ?_
   refine (impl_Queue_code.calls d g (x1) cb w' HB0.out).mono ?_
   rintro e w5 ⟨rfl, hb⟩
   refine ⟨_, rfl, ?_⟩
   refine hK.out _ _ ⟨(by rw [ha.out]; exact putSel_upk 4 hb_ rfl rfl rfl), Below.trans HZ.out (Below.mono hb (Nat.zero_le _)), Kept.then_ KP.out (Kept.of_below hb (fun b => b = gx)) (fun b hb => .inl hb), blk_below HX.out hb, blk_below HQ.out hb⟩
  refine steps_cons ?_ ?_
  ·rintro b a w' ⟨ha, Q_HZ, Q_KP, Q_HX, Q_HQ⟩ hb_ hon hoff
   refine ⟨_, rfl, fun K hK => ?_⟩
   have e100 : a.tmps[100]? = some (.int .i64 cb) := by rw [ha]; exact putSel_on (e := (5, 100, .int .i64 cb)) 4 rfl rfl (hon 5 (by kernel_rfl)) rfl
   replace ha := Aside0.mk ha
   have HZ := Aside0.mk Q_HZ
   have KP := Aside0.mk Q_KP
   have HX := Aside0.mk Q_HX
   have HQ := Aside0.mk Q_HQ
   refine value_ (w1 := w') (v := .int .i64 cb) (by rfl) rfl ?_ ?_
   ·go_simp
    (try simp only [i64_w])
    try rfl
   refine hK.out _ _ ⟨(by rw [ha.out]; exact putSel_upk 5 hb_ rfl rfl rfl), Q_HZ, Q_KP, Q_HX, Q_HQ⟩
  exact steps_nil
 rintro b a w30 hall ⟨ha, Q_HZ, Q_KP, Q_HX, Q_HQ⟩
 clear HQ HX HZ KP
 have hb0_ := hall 0 (by kernel_rfl)
 have hb2_ := hall 2 (by kernel_rfl)
 have hb3_ := hall 3 (by kernel_rfl)
 have hb4_ := hall 4 (by kernel_rfl)
 have hb5_ := hall 5 (by kernel_rfl)
 have hb6_ := hall 6 (by kernel_rfl)
 subst ha
 simp only [putSel, hb0_, hb2_, hb3_, hb4_, hb5_, hb6_, if_true, Act.put, List.setIfInBounds_toArray, List.set_cons_zero, List.set_cons_succ]
 have HZ := Aside0.mk Q_HZ
 clear Q_HZ
 have KP := Aside0.mk Q_KP
 clear Q_KP
 have HX := Aside0.mk Q_HX
 clear Q_HX
 have HQ := Aside0.mk Q_HQ
 clear Q_HQ
 clear hall hb0_ hb2_ hb3_ hb4_ hb5_ hb6_
 have b0 := blk_cell HX.out 1; have b1 := blk_frozen HX.out 1; have r0 := HR0.out; have r1 := beq_eq_false_iff_ne.mpr r0; have r2 := decide_eq_false r0; have r3 := eq_false r0
 go_wp2_with (fail)
 clear b0 b1 r0 r1 r2 r3
 replace KP := Aside0.mk (Kept.setCell KP.out (p := ⟨gx, 1, none⟩) (.inl rfl) (.int .i64 (Int.tmod (wrap64 (x1 + 1)) (wrap64 (2 * d)))))
 replace HQ := Aside0.mk (blk_far HQ.out (p := ⟨gx, 1, none⟩) HNE.out (.int .i64 (Int.tmod (wrap64 (x1 + 1)) (wrap64 (2 * d)))))
 replace HX := Aside0.mk (blk_put HX.out 1 (.int .i64 (Int.tmod (wrap64 (x1 + 1)) (wrap64 (2 * d)))) rfl)
 replace HZ := Aside0.mk (Below.setCell HZ.out (p := ⟨gx, 1, none⟩) (Nat.zero_le _) (.int .i64 (Int.tmod (wrap64 (x1 + 1)) (wrap64 (2 * d)))))
 generalize w30.setCell ⟨gx, 1, none⟩ (.int .i64 (Int.tmod (wrap64 (x1 + 1)) (wrap64 (2 * d)))) = w31 at KP HX HQ HZ ⊢
 have hb : Below w31.heap.size w31 w31.drew := below_drew1 (Below.refl _ _)
 replace KP := Aside0.mk (Kept.then_ KP.out (Kept.of_below hb (fun b => b = gx)) (fun b hb => .inl hb)); replace HX := Aside0.mk (blk_below HX.out hb); replace HQ := Aside0.mk (blk_below HQ.out hb); replace HZ := Aside0.mk (Below.trans HZ.out (Below.mono hb (Nat.zero_le _))); clear hb
 refine start_ (n := 12) (S := fun w' => True) (ds := []) #[false, false, false, false, false, false, false, false, false, false, false, false] (by kernel_rfl) rfl rfl trivial (fun hHeld => ?_)
 refine with_tabW impl_queueState_step.tab13 impl_queueState_step.bits13 (fun HT_ HW_ => ?_)
 generalize w31.drew = wk12 at KP HX HQ HZ hHeld ⊢
 refine pure_ (i := 0) (N := some 111) (v := ?_) (a' := ?_) #[true, false, false, false, false, false, false, false, false, false, false, false] rfl rfl (any_of HT_.out (by kernel_rfl)) (fun _ _ _ h => h) (Or.inl ⟨by rfl, ?_⟩) ?_ ?_
 rotate_left
 ·intro w'
  go_simp
  with_reducible rfl
 rotate_left
 ·simp only [Act.put, List.setIfInBounds_toArray, List.set_cons_zero, List.set_cons_succ, i64_w, i32_w]
  rfl
 refine pure_ (i := 1) (N := some 112) (v := ?_) (a' := ?_) #[true, true, false, false, false, false, false, false, false, false, false, false] rfl rfl (any_of HT_.out (by kernel_rfl)) (fun _ _ _ h => h) (Or.inl ⟨by rfl, ?_⟩) ?_ ?_
 rotate_left
 ·intro w'
  go_simp
  with_reducible rfl
 rotate_left
 ·simp only [Act.put, List.setIfInBounds_toArray, List.set_cons_zero, List.set_cons_succ, i64_w, i32_w]
  rfl
 refine pure_ (i := 3) (N := some 114) (v := ?_) (a' := ?_) #[true, true, false, true, false, false, false, false, false, false, false, false] rfl rfl (any_of HT_.out (by kernel_rfl)) (fun _ _ _ h => h) (Or.inl ⟨by rfl, ?_⟩) ?_ ?_
 rotate_left
 ·intro w'
  go_simp
  with_reducible rfl
 rotate_left
 ·simp only [Act.put, List.setIfInBounds_toArray, List.set_cons_zero, List.set_cons_succ, i64_w, i32_w]
  rfl
 refine inv_at [2, 4, 5, 6, 7, 8, 9, 10, 11] (fun a0_ b a w' => a = putSel a0_ b [(2, 113, .agg #[.int .i64 d, .int .i64 g]), (4, 115, .pointer (some ⟨gx, 0, none⟩)), (5, 116, .pointer (some ⟨gx, 1, none⟩)), (6, 117, .int .i64 (Int.tmod (wrap64 (x1 + 1)) (wrap64 (2 * d)))), (7, 118, .int .i64 ce), (8, 119, .int .i64 (Go.bits .xor .i64 (cb) (ce))), (9, 120, .pointer (some ⟨gx, 0, none⟩)), (10, 121, .pointer (some ⟨gx, 5, none⟩))] ∧ (Below 0 w w') ∧ (Kept w w' (fun b => b = gx)) ∧ (b 11 = false → w'.heap[gx]? = some (.cells #[.int .i64 x0, .int .i64 (Int.tmod (wrap64 (x1 + 1)) (wrap64 (2 * d))), .int .i64 x2, .int .i64 x3, .int .i64 x4, .int .i64 x5, .int .i64 x6] 48 (0, 0))) ∧ (w'.heap[gq]? = some (.cells #[.int .i64 d, .int .i64 g] 27 (0, 0))) ∧ (b 11 = true → w'.heap[gx]? = some (.cells #[.int .i64 x0, .int .i64 (Int.tmod (wrap64 (x1 + 1)) (wrap64 (2 * d))), .int .i64 x2, .int .i64 x3, .int .i64 x4, .int .i64 (Go.bits .xor .i64 (cb) (ce)), .int .i64 x6] 48 (0, 0)))) HT_.out HW_.out (by kernel_rfl) (by kernel_rfl) ?_ ?_ ?_
 ·exact ⟨by simp only [putSel, Bool.false_eq_true, if_false], HZ.out, KP.out, fun _ => HX.out, HQ.out, fun h_ => absurd h_ (by decide)⟩
 ·skip
  clear HQ HX HZ KP
  refine steps_cons ?_ ?_
  ·rintro b a w' ⟨ha, Q_HZ, Q_KP, Q_HX, Q_HQ, Q_HXn⟩ hb_ hon hoff
   refine ⟨_, rfl, fun K hK => ?_⟩
   have e4 : a.tmps[4]? = some (.pointer (some ⟨gq, 0, none⟩)) := by rw [ha]; exact (putSel_off rfl).trans rfl
   replace ha := Aside0.mk ha
   have HZ := Aside0.mk Q_HZ
   have KP := Aside0.mk Q_KP
   have HX := Aside0.mk (Q_HX (hoff 11 (by kernel_rfl)))
   have HQ := Aside0.mk Q_HQ
   have hc0_ : w'.cell? ⟨gq, 0, none⟩ = some (.int .i64 d) := (blk_cell HQ.out 0).trans rfl
   have hc1_ : w'.cell? ⟨gq, 1, none⟩ = some (.int .i64 g) := (blk_cell HQ.out 1).trans rfl
   refine value_ (w1 := w') (v := .agg #[.int .i64 d, .int .i64 g]) (by rfl) rfl ?_ ?_
   ·go_simp
    (try simp only [i64_w])
    try rfl
   refine hK.out _ _ ⟨(by rw [ha.out]; exact putSel_upk 0 hb_ rfl rfl rfl), Q_HZ, Q_KP, Q_HX, Q_HQ, fun h0_ => absurd ((hoff 11 (by kernel_rfl)).symm.trans h0_) (by decide)⟩
  refine steps_cons ?_ ?_
  ·rintro b a w' ⟨ha, Q_HZ, Q_KP, Q_HX, Q_HQ, Q_HXn⟩ hb_ hon hoff
   refine ⟨_, rfl, fun K hK => ?_⟩
   have e114 : a.tmps[114]? = some (.pointer (some ⟨gx, 0, none⟩)) := by rw [ha]; exact (putSel_off rfl).trans rfl
   replace ha := Aside0.mk ha
   have HZ := Aside0.mk Q_HZ
   have KP := Aside0.mk Q_KP
   have HX := Aside0.mk (Q_HX (hoff 11 (by kernel_rfl)))
   have HQ := Aside0.mk Q_HQ
   refine value_ (w1 := w') (v := .pointer (some ⟨gx, 0, none⟩)) (by rfl) rfl ?_ ?_
   ·go_simp
    (try simp only [i64_w])
    try rfl
   refine hK.out _ _ ⟨(by rw [ha.out]; exact putSel_upk 1 hb_ rfl rfl rfl), Q_HZ, Q_KP, Q_HX, Q_HQ, fun h0_ => absurd ((hoff 11 (by kernel_rfl)).symm.trans h0_) (by decide)⟩
  refine steps_cons ?_ ?_
  ·rintro b a w' ⟨ha, Q_HZ, Q_KP, Q_HX, Q_HQ, Q_HXn⟩ hb_ hon hoff
   refine ⟨_, rfl, fun K hK => ?_⟩
   have e115 : a.tmps[115]? = some (.pointer (some ⟨gx, 0, none⟩)) := by rw [ha]; exact putSel_on (e := (4, 115, .pointer (some ⟨gx, 0, none⟩))) 1 rfl rfl (hon 4 (by kernel_rfl)) rfl
   replace ha := Aside0.mk ha
   have HZ := Aside0.mk Q_HZ
   have KP := Aside0.mk Q_KP
   have HX := Aside0.mk (Q_HX (hoff 11 (by kernel_rfl)))
   have HQ := Aside0.mk Q_HQ
   refine value_ (w1 := w') (v := .pointer (some ⟨gx, 1, none⟩)) (by rfl) rfl ?_ ?_
   ·go_simp
    (try simp only [i64_w])
    try rfl
   refine hK.out _ _ ⟨(by rw [ha.out]; exact putSel_upk 2 hb_ rfl rfl rfl), Q_HZ, Q_KP, Q_HX, Q_HQ, fun h0_ => absurd ((hoff 11 (by kernel_rfl)).symm.trans h0_) (by decide)⟩
  refine steps_cons ?_ ?_
  ·rintro b a w' ⟨ha, Q_HZ, Q_KP, Q_HX, Q_HQ, Q_HXn⟩ hb_ hon hoff
   refine ⟨_, rfl, fun K hK => ?_⟩
   have e116 : a.tmps[116]? = some (.pointer (some ⟨gx, 1, none⟩)) := by rw [ha]; exact putSel_on (e := (5, 116, .pointer (some ⟨gx, 1, none⟩))) 2 rfl rfl (hon 5 (by kernel_rfl)) rfl
   replace ha := Aside0.mk ha
   have HZ := Aside0.mk Q_HZ
   have KP := Aside0.mk Q_KP
   have HX := Aside0.mk (Q_HX (hoff 11 (by kernel_rfl)))
   have HQ := Aside0.mk Q_HQ
   have hc1_ : w'.cell? ⟨gx, 1, none⟩ = some (.int .i64 (Int.tmod (wrap64 (x1 + 1)) (wrap64 (2 * d)))) := (blk_cell HX.out 1).trans rfl
   refine value_ (w1 := w') (v := .int .i64 (Int.tmod (wrap64 (x1 + 1)) (wrap64 (2 * d)))) (by rfl) rfl ?_ ?_
   ·go_simp
    (try simp only [i64_w])
    try rfl
   refine hK.out _ _ ⟨(by rw [ha.out]; exact putSel_upk 3 hb_ rfl rfl rfl), Q_HZ, Q_KP, Q_HX, Q_HQ, fun h0_ => absurd ((hoff 11 (by kernel_rfl)).symm.trans h0_) (by decide)⟩
  refine steps_cons ?_ ?_
  ·rintro b a w' ⟨ha, Q_HZ, Q_KP, Q_HX, Q_HQ, Q_HXn⟩ hb_ hon hoff
   refine ⟨_, rfl, fun K hK => ?_⟩
   have e113 : a.tmps[113]? = some (.agg #[.int .i64 d, .int .i64 g]) := by rw [ha]; exact putSel_on (e := (2, 113, .agg #[.int .i64 d, .int .i64 g])) 0 rfl rfl (hon 2 (by kernel_rfl)) rfl
   have e117 : a.tmps[117]? = some (.int .i64 (Int.tmod (wrap64 (x1 + 1)) (wrap64 (2 * d)))) := by rw [ha]; exact putSel_on (e := (6, 117, .int .i64 (Int.tmod (wrap64 (x1 + 1)) (wrap64 (2 * d))))) 3 rfl rfl (hon 6 (by kernel_rfl)) rfl
   replace ha := Aside0.mk ha
   have HZ := Aside0.mk Q_HZ
   have KP := Aside0.mk Q_KP
   have HX := Aside0.mk (Q_HX (hoff 11 (by kernel_rfl)))
   have HQ := Aside0.mk Q_HQ
   refine goes_ Tryd.func35 (by kernel_rfl) rfl #[.agg #[.int .i64 d, .int .i64 g], .int .i64 (Int.tmod (wrap64 (x1 + 1)) (wrap64 (2 * d)))] (by rfl) rfl rfl (by first | (simp only [List.map_toArray, List.map_cons, List.map_nil, Act.eval, Array.getD_eq_getD_getElem?, Option.getD_some, e113, e117]; done) | (simp only [List.map_toArray, List.map_cons, List.map_nil, Act.eval, Array.getD_eq_getD_getElem?, Option.getD_some, e113, e117]; rfl)) ?_
   refine (impl_Queue_code.calls d g (Int.tmod (wrap64 (x1 + 1)) (wrap64 (2 * d))) ce w' HB1.out).mono ?_
   rintro e w5 ⟨rfl, hb⟩
   refine ⟨_, rfl, ?_⟩
   refine hK.out _ _ ⟨(by rw [ha.out]; exact putSel_upk 4 hb_ rfl rfl rfl), Below.trans HZ.out (Below.mono hb (Nat.zero_le _)), Kept.then_ KP.out (Kept.of_below hb (fun b => b = gx)) (fun b hb => .inl hb), fun _ => blk_below HX.out hb, blk_below HQ.out hb, fun h0_ => absurd ((hoff 11 (by kernel_rfl)).symm.trans h0_) (by decide)⟩
  refine steps_cons ?_ ?_
  ·rintro b a w' ⟨ha, Q_HZ, Q_KP, Q_HX, Q_HQ, Q_HXn⟩ hb_ hon hoff
   refine ⟨_, rfl, fun K hK => ?_⟩
   have e112 : a.tmps[112]? = some (.int .i64 cb) := by rw [ha]; exact (putSel_off rfl).trans rfl
   have e118 : a.tmps[118]? = some (.int .i64 ce) := by rw [ha]; exact putSel_on (e := (7, 118, .int .i64 ce)) 4 rfl rfl (hon 7 (by kernel_rfl)) rfl
   replace ha := Aside0.mk ha
   have HZ := Aside0.mk Q_HZ
   have KP := Aside0.mk Q_KP
   have HX := Aside0.mk (Q_HX (hoff 11 (by kernel_rfl)))
   have HQ := Aside0.mk Q_HQ
   refine value_ (w1 := w') (v := .int .i64 (Go.bits .xor .i64 (cb) (ce))) (by rfl) rfl ?_ ?_
   ·go_simp
    (try simp only [i64_w])
    try rfl
   refine hK.out _ _ ⟨(by rw [ha.out]; exact putSel_upk 5 hb_ rfl rfl rfl), Q_HZ, Q_KP, Q_HX, Q_HQ, fun h0_ => absurd ((hoff 11 (by kernel_rfl)).symm.trans h0_) (by decide)⟩
  refine steps_cons ?_ ?_
  ·rintro b a w' ⟨ha, Q_HZ, Q_KP, Q_HX, Q_HQ, Q_HXn⟩ hb_ hon hoff
   refine ⟨_, rfl, fun K hK => ?_⟩
   have e111 : a.tmps[111]? = some (.pointer (some ⟨gx, 0, none⟩)) := by rw [ha]; exact (putSel_off rfl).trans rfl
   replace ha := Aside0.mk ha
   have HZ := Aside0.mk Q_HZ
   have KP := Aside0.mk Q_KP
   have HX := Aside0.mk (Q_HX (hoff 11 (by kernel_rfl)))
   have HQ := Aside0.mk Q_HQ
   refine value_ (w1 := w') (v := .pointer (some ⟨gx, 0, none⟩)) (by rfl) rfl ?_ ?_
   ·go_simp
    (try simp only [i64_w])
    try rfl
   refine hK.out _ _ ⟨(by rw [ha.out]; exact putSel_upk 6 hb_ rfl rfl rfl), Q_HZ, Q_KP, Q_HX, Q_HQ, fun h0_ => absurd ((hoff 11 (by kernel_rfl)).symm.trans h0_) (by decide)⟩
  refine steps_cons ?_ ?_
  ·rintro b a w' ⟨ha, Q_HZ, Q_KP, Q_HX, Q_HQ, Q_HXn⟩ hb_ hon hoff
   refine ⟨_, rfl, fun K hK => ?_⟩
   have e120 : a.tmps[120]? = some (.pointer (some ⟨gx, 0, none⟩)) := by rw [ha]; exact putSel_on (e := (9, 120, .pointer (some ⟨gx, 0, none⟩))) 6 rfl rfl (hon 9 (by kernel_rfl)) rfl
   replace ha := Aside0.mk ha
   have HZ := Aside0.mk Q_HZ
   have KP := Aside0.mk Q_KP
   have HX := Aside0.mk (Q_HX (hoff 11 (by kernel_rfl)))
   have HQ := Aside0.mk Q_HQ
   refine value_ (w1 := w') (v := .pointer (some ⟨gx, 5, none⟩)) (by rfl) rfl ?_ ?_
   ·go_simp
    (try simp only [i64_w])
    try rfl
   refine hK.out _ _ ⟨(by rw [ha.out]; exact putSel_upk 7 hb_ rfl rfl rfl), Q_HZ, Q_KP, Q_HX, Q_HQ, fun h0_ => absurd ((hoff 11 (by kernel_rfl)).symm.trans h0_) (by decide)⟩
  refine steps_cons ?_ ?_
  ·rintro b a w' ⟨ha, Q_HZ, Q_KP, Q_HX, Q_HQ, Q_HXn⟩ hb_ hon hoff
   refine ⟨_, rfl, fun K hK => ?_⟩
   have e121 : a.tmps[121]? = some (.pointer (some ⟨gx, 5, none⟩)) := by rw [ha]; exact putSel_on (e := (10, 121, .pointer (some ⟨gx, 5, none⟩))) 7 rfl rfl (hon 10 (by kernel_rfl)) rfl
   have e119 : a.tmps[119]? = some (.int .i64 (Go.bits .xor .i64 (cb) (ce))) := by rw [ha]; exact putSel_on (e := (8, 119, .int .i64 (Go.bits .xor .i64 (cb) (ce)))) 5 rfl rfl (hon 8 (by kernel_rfl)) rfl
   replace ha := Aside0.mk ha
   have HZ := Aside0.mk Q_HZ
   have KP := Aside0.mk Q_KP
   have HX := Aside0.mk (Q_HX hb_)
   have HQ := Aside0.mk Q_HQ
   have hz_ := blk_cell HX.out 5
   have hf_ := blk_frozen HX.out 5
   refine skip_ (w1 := w'.setCell ⟨gx, 5, none⟩ (.int .i64 (Go.bits .xor .i64 (cb) (ce)))) (by rfl) rfl ?_ ?_
   ·go_simp
   refine hK.out _ _ ⟨(by rw [ha.out]; exact putSel_none (v := undef) rfl), Below.setCell HZ.out (p := ⟨gx, 5, none⟩) (Nat.zero_le _) (.int .i64 (Go.bits .xor .i64 (cb) (ce))), Kept.setCell KP.out (p := ⟨gx, 5, none⟩) (.inl rfl) (.int .i64 (Go.bits .xor .i64 (cb) (ce))), fun h0_ => absurd ((up_self b 11).symm.trans h0_) (by decide), blk_far HQ.out (p := ⟨gx, 5, none⟩) HNE.out (.int .i64 (Go.bits .xor .i64 (cb) (ce))), fun _ => blk_put HX.out 5 (.int .i64 (Go.bits .xor .i64 (cb) (ce))) rfl⟩
  exact steps_nil
 rintro b a w32 hall ⟨ha, Q_HZ, Q_KP, Q_HX, Q_HQ, Q_HXn⟩
 clear HQ HX HZ KP
 have hb2_ := hall 2 (by kernel_rfl)
 have hb4_ := hall 4 (by kernel_rfl)
 have hb5_ := hall 5 (by kernel_rfl)
 have hb6_ := hall 6 (by kernel_rfl)
 have hb7_ := hall 7 (by kernel_rfl)
 have hb8_ := hall 8 (by kernel_rfl)
 have hb9_ := hall 9 (by kernel_rfl)
 have hb10_ := hall 10 (by kernel_rfl)
 have hb11_ := hall 11 (by kernel_rfl)
 subst ha
 simp only [putSel, hb2_, hb4_, hb5_, hb6_, hb7_, hb8_, hb9_, hb10_, hb11_, if_true, Act.put, List.setIfInBounds_toArray, List.set_cons_zero, List.set_cons_succ]
 have HZ := Aside0.mk Q_HZ
 clear Q_HZ
 have KP := Aside0.mk Q_KP
 clear Q_KP
 clear Q_HX
 have HQ := Aside0.mk Q_HQ
 clear Q_HQ
 have HXn := Aside0.mk (Q_HXn hb11_)
 clear Q_HXn
 clear hall hb2_ hb4_ hb5_ hb6_ hb7_ hb8_ hb9_ hb10_ hb11_
 have HX := HXn
 clear HXn
 have b0 := blk_cell HX.out 6; have b1 := blk_frozen HX.out 6; have r0 := HR0.out; have r1 := beq_eq_false_iff_ne.mpr r0; have r2 := decide_eq_false r0; have r3 := eq_false r0
 go_wp2_with (fail)
 clear b0 b1 r0 r1 r2 r3
 replace KP := Aside0.mk (Kept.setCell KP.out (p := ⟨gx, 6, none⟩) (.inl rfl) (.int .i64 (wrap64 (x6 - 1))))
 replace HQ := Aside0.mk (blk_far HQ.out (p := ⟨gx, 6, none⟩) HNE.out (.int .i64 (wrap64 (x6 - 1))))
 replace HX := Aside0.mk (blk_put HX.out 6 (.int .i64 (wrap64 (x6 - 1))) rfl)
 replace HZ := Aside0.mk (Below.setCell HZ.out (p := ⟨gx, 6, none⟩) (Nat.zero_le _) (.int .i64 (wrap64 (x6 - 1))))
 generalize w32.setCell ⟨gx, 6, none⟩ (.int .i64 (wrap64 (x6 - 1))) = w33 at KP HX HQ HZ ⊢
 have hb : Below w33.heap.size w33 w33.drew := below_drew1 (Below.refl _ _)
 replace KP := Aside0.mk (Kept.then_ KP.out (Kept.of_below hb (fun b => b = gx)) (fun b hb => .inl hb)); replace HX := Aside0.mk (blk_below HX.out hb); replace HQ := Aside0.mk (blk_below HQ.out hb); replace HZ := Aside0.mk (Below.trans HZ.out (Below.mono hb (Nat.zero_le _))); clear hb
 refine start_ (n := 10) (S := fun w' => True) (ds := []) #[false, false, false, false, false, false, false, false, false, false] (by kernel_rfl) rfl rfl trivial (fun hHeld => ?_)
 refine with_tabW impl_queueState_step.tab15 impl_queueState_step.bits15 (fun HT_ HW_ => ?_)
 generalize w33.drew = wk14 at KP HX HQ HZ hHeld ⊢
 refine pure_ (i := 0) (N := some 129) (v := ?_) (a' := ?_) #[true, false, false, false, false, false, false, false, false, false] rfl rfl (any_of HT_.out (by kernel_rfl)) (fun _ _ _ h => h) (Or.inl ⟨by rfl, ?_⟩) ?_ ?_
 rotate_left
 ·intro w'
  go_simp
  with_reducible rfl
 rotate_left
 ·simp only [Act.put, List.setIfInBounds_toArray, List.set_cons_zero, List.set_cons_succ, i64_w, i32_w]
  rfl
 refine pure_ (i := 2) (N := some 131) (v := ?_) (a' := ?_) #[true, false, true, false, false, false, false, false, false, false] rfl rfl (any_of HT_.out (by kernel_rfl)) (fun _ _ _ h => h) (Or.inl ⟨by rfl, ?_⟩) ?_ ?_
 rotate_left
 ·intro w'
  go_simp
  with_reducible rfl
 rotate_left
 ·simp only [Act.put, List.setIfInBounds_toArray, List.set_cons_zero, List.set_cons_succ, i64_w, i32_w]
  rfl
 refine inv_at [1, 3, 4, 5, 6, 7, 8, 9] (fun a0_ b a w' => a = putSel a0_ b [(1, 130, .agg #[.int .i64 d, .int .i64 g]), (3, 132, .pointer (some ⟨gx, 0, none⟩)), (4, 133, .pointer (some ⟨gx, 0, none⟩)), (5, 134, .int .i64 x0), (6, 135, .int .i64 cf), (7, 136, .pointer (some ⟨gx, 0, none⟩)), (8, 137, .pointer (some ⟨gx, 3, none⟩))] ∧ (Below 0 w w') ∧ (Kept w w' (fun b => b = gx)) ∧ (b 9 = false → w'.heap[gx]? = some (.cells #[.int .i64 x0, .int .i64 (Int.tmod (wrap64 (x1 + 1)) (wrap64 (2 * d))), .int .i64 x2, .int .i64 x3, .int .i64 x4, .int .i64 (Go.bits .xor .i64 (cb) (ce)), .int .i64 (wrap64 (x6 - 1))] 48 (0, 0))) ∧ (w'.heap[gq]? = some (.cells #[.int .i64 d, .int .i64 g] 27 (0, 0))) ∧ (b 9 = true → w'.heap[gx]? = some (.cells #[.int .i64 x0, .int .i64 (Int.tmod (wrap64 (x1 + 1)) (wrap64 (2 * d))), .int .i64 x2, .int .i64 cf, .int .i64 x4, .int .i64 (Go.bits .xor .i64 (cb) (ce)), .int .i64 (wrap64 (x6 - 1))] 48 (0, 0)))) HT_.out HW_.out (by kernel_rfl) (by kernel_rfl) ?_ ?_ ?_
 ·exact ⟨by simp only [putSel, Bool.false_eq_true, if_false], HZ.out, KP.out, fun _ => HX.out, HQ.out, fun h_ => absurd h_ (by decide)⟩
 ·skip
  clear HQ HX HZ KP
  refine steps_cons ?_ ?_
  ·rintro b a w' ⟨ha, Q_HZ, Q_KP, Q_HX, Q_HQ, Q_HXn⟩ hb_ hon hoff
   refine ⟨_, rfl, fun K hK => ?_⟩
   have e4 : a.tmps[4]? = some (.pointer (some ⟨gq, 0, none⟩)) := by rw [ha]; exact (putSel_off rfl).trans rfl
   replace ha := Aside0.mk ha
   have HZ := Aside0.mk Q_HZ
   have KP := Aside0.mk Q_KP
   have HX := Aside0.mk (Q_HX (hoff 9 (by kernel_rfl)))
   have HQ := Aside0.mk Q_HQ
   have hc0_ : w'.cell? ⟨gq, 0, none⟩ = some (.int .i64 d) := (blk_cell HQ.out 0).trans rfl
   have hc1_ : w'.cell? ⟨gq, 1, none⟩ = some (.int .i64 g) := (blk_cell HQ.out 1).trans rfl
   refine value_ (w1 := w') (v := .agg #[.int .i64 d, .int .i64 g]) (by rfl) rfl ?_ ?_
   ·go_simp
    (try simp only [i64_w])
    try rfl
   refine hK.out _ _ ⟨(by rw [ha.out]; exact putSel_upk 0 hb_ rfl rfl rfl), Q_HZ, Q_KP, Q_HX, Q_HQ, fun h0_ => absurd ((hoff 9 (by kernel_rfl)).symm.trans h0_) (by decide)⟩
  refine steps_cons ?_ ?_
  ·rintro b a w' ⟨ha, Q_HZ, Q_KP, Q_HX, Q_HQ, Q_HXn⟩ hb_ hon hoff
   refine ⟨_, rfl, fun K hK => ?_⟩
   have e131 : a.tmps[131]? = some (.pointer (some ⟨gx, 0, none⟩)) := by rw [ha]; exact (putSel_off rfl).trans rfl
   replace ha := Aside0.mk ha
   have HZ := Aside0.mk Q_HZ
   have KP := Aside0.mk Q_KP
   have HX := Aside0.mk (Q_HX (hoff 9 (by kernel_rfl)))
   have HQ := Aside0.mk Q_HQ
   refine value_ (w1 := w') (v := .pointer (some ⟨gx, 0, none⟩)) (by rfl) rfl ?_ ?_
   ·go_simp
    (try simp only [i64_w])
    try rfl
   refine hK.out _ _ ⟨(by rw [ha.out]; exact putSel_upk 1 hb_ rfl rfl rfl), Q_HZ, Q_KP, Q_HX, Q_HQ, fun h0_ => absurd ((hoff 9 (by kernel_rfl)).symm.trans h0_) (by decide)⟩
  refine steps_cons ?_ ?_
  ·rintro b a w' ⟨ha, Q_HZ, Q_KP, Q_HX, Q_HQ, Q_HXn⟩ hb_ hon hoff
   refine ⟨_, rfl, fun K hK => ?_⟩
   have e132 : a.tmps[132]? = some (.pointer (some ⟨gx, 0, none⟩)) := by rw [ha]; exact putSel_on (e := (3, 132, .pointer (some ⟨gx, 0, none⟩))) 1 rfl rfl (hon 3 (by kernel_rfl)) rfl
   replace ha := Aside0.mk ha
   have HZ := Aside0.mk Q_HZ
   have KP := Aside0.mk Q_KP
   have HX := Aside0.mk (Q_HX (hoff 9 (by kernel_rfl)))
   have HQ := Aside0.mk Q_HQ
   refine value_ (w1 := w') (v := .pointer (some ⟨gx, 0, none⟩)) (by rfl) rfl ?_ ?_
   ·go_simp
    (try simp only [i64_w])
    try rfl
   refine hK.out _ _ ⟨(by rw [ha.out]; exact putSel_upk 2 hb_ rfl rfl rfl), Q_HZ, Q_KP, Q_HX, Q_HQ, fun h0_ => absurd ((hoff 9 (by kernel_rfl)).symm.trans h0_) (by decide)⟩
  refine steps_cons ?_ ?_
  ·rintro b a w' ⟨ha, Q_HZ, Q_KP, Q_HX, Q_HQ, Q_HXn⟩ hb_ hon hoff
   refine ⟨_, rfl, fun K hK => ?_⟩
   have e133 : a.tmps[133]? = some (.pointer (some ⟨gx, 0, none⟩)) := by rw [ha]; exact putSel_on (e := (4, 133, .pointer (some ⟨gx, 0, none⟩))) 2 rfl rfl (hon 4 (by kernel_rfl)) rfl
   replace ha := Aside0.mk ha
   have HZ := Aside0.mk Q_HZ
   have KP := Aside0.mk Q_KP
   have HX := Aside0.mk (Q_HX (hoff 9 (by kernel_rfl)))
   have HQ := Aside0.mk Q_HQ
   have hc0_ : w'.cell? ⟨gx, 0, none⟩ = some (.int .i64 x0) := (blk_cell HX.out 0).trans rfl
   refine value_ (w1 := w') (v := .int .i64 x0) (by rfl) rfl ?_ ?_
   ·go_simp
    (try simp only [i64_w])
    try rfl
   refine hK.out _ _ ⟨(by rw [ha.out]; exact putSel_upk 3 hb_ rfl rfl rfl), Q_HZ, Q_KP, Q_HX, Q_HQ, fun h0_ => absurd ((hoff 9 (by kernel_rfl)).symm.trans h0_) (by decide)⟩
  refine steps_cons ?_ ?_
  ·rintro b a w' ⟨ha, Q_HZ, Q_KP, Q_HX, Q_HQ, Q_HXn⟩ hb_ hon hoff
   refine ⟨_, rfl, fun K hK => ?_⟩
   have e130 : a.tmps[130]? = some (.agg #[.int .i64 d, .int .i64 g]) := by rw [ha]; exact putSel_on (e := (1, 130, .agg #[.int .i64 d, .int .i64 g])) 0 rfl rfl (hon 1 (by kernel_rfl)) rfl
   have e134 : a.tmps[134]? = some (.int .i64 x0) := by rw [ha]; exact putSel_on (e := (5, 134, .int .i64 x0)) 3 rfl rfl (hon 5 (by kernel_rfl)) rfl
   replace ha := Aside0.mk ha
   have HZ := Aside0.mk Q_HZ
   have KP := Aside0.mk Q_KP
   have HX := Aside0.mk (Q_HX (hoff 9 (by kernel_rfl)))
   have HQ := Aside0.mk Q_HQ
   refine goes_ Tryd.func35 (by kernel_rfl) rfl #[.agg #[.int .i64 d, .int .i64 g], .int .i64 x0] (by rfl) rfl rfl (by first | (simp only [List.map_toArray, List.map_cons, List.map_nil, Act.eval, Array.getD_eq_getD_getElem?, Option.getD_some, e130, e134]; done) | (simp only [List.map_toArray, List.map_cons, List.map_nil, Act.eval, Array.getD_eq_getD_getElem?, Option.getD_some, e130, e134]; rfl)) ?_
   refine (impl_Queue_code.calls d g (x0) cf w' HB2.out).mono ?_
   rintro e w5 ⟨rfl, hb⟩
   refine ⟨_, rfl, ?_⟩
   refine hK.out _ _ ⟨(by rw [ha.out]; exact putSel_upk 4 hb_ rfl rfl rfl), Below.trans HZ.out (Below.mono hb (Nat.zero_le _)), Kept.then_ KP.out (Kept.of_below hb (fun b => b = gx)) (fun b hb => .inl hb), fun _ => blk_below HX.out hb, blk_below HQ.out hb, fun h0_ => absurd ((hoff 9 (by kernel_rfl)).symm.trans h0_) (by decide)⟩
  refine steps_cons ?_ ?_
  ·rintro b a w' ⟨ha, Q_HZ, Q_KP, Q_HX, Q_HQ, Q_HXn⟩ hb_ hon hoff
   refine ⟨_, rfl, fun K hK => ?_⟩
   have e129 : a.tmps[129]? = some (.pointer (some ⟨gx, 0, none⟩)) := by rw [ha]; exact (putSel_off rfl).trans rfl
   replace ha := Aside0.mk ha
   have HZ := Aside0.mk Q_HZ
   have KP := Aside0.mk Q_KP
   have HX := Aside0.mk (Q_HX (hoff 9 (by kernel_rfl)))
   have HQ := Aside0.mk Q_HQ
   refine value_ (w1 := w') (v := .pointer (some ⟨gx, 0, none⟩)) (by rfl) rfl ?_ ?_
   ·go_simp
    (try simp only [i64_w])
    try rfl
   refine hK.out _ _ ⟨(by rw [ha.out]; exact putSel_upk 5 hb_ rfl rfl rfl), Q_HZ, Q_KP, Q_HX, Q_HQ, fun h0_ => absurd ((hoff 9 (by kernel_rfl)).symm.trans h0_) (by decide)⟩
  refine steps_cons ?_ ?_
  ·rintro b a w' ⟨ha, Q_HZ, Q_KP, Q_HX, Q_HQ, Q_HXn⟩ hb_ hon hoff
   refine ⟨_, rfl, fun K hK => ?_⟩
   have e136 : a.tmps[136]? = some (.pointer (some ⟨gx, 0, none⟩)) := by rw [ha]; exact putSel_on (e := (7, 136, .pointer (some ⟨gx, 0, none⟩))) 5 rfl rfl (hon 7 (by kernel_rfl)) rfl
   replace ha := Aside0.mk ha
   have HZ := Aside0.mk Q_HZ
   have KP := Aside0.mk Q_KP
   have HX := Aside0.mk (Q_HX (hoff 9 (by kernel_rfl)))
   have HQ := Aside0.mk Q_HQ
   refine value_ (w1 := w') (v := .pointer (some ⟨gx, 3, none⟩)) (by rfl) rfl ?_ ?_
   ·go_simp
    (try simp only [i64_w])
    try rfl
   refine hK.out _ _ ⟨(by rw [ha.out]; exact putSel_upk 6 hb_ rfl rfl rfl), Q_HZ, Q_KP, Q_HX, Q_HQ, fun h0_ => absurd ((hoff 9 (by kernel_rfl)).symm.trans h0_) (by decide)⟩
  refine steps_cons ?_ ?_
  ·rintro b a w' ⟨ha, Q_HZ, Q_KP, Q_HX, Q_HQ, Q_HXn⟩ hb_ hon hoff
   refine ⟨_, rfl, fun K hK => ?_⟩
   have e137 : a.tmps[137]? = some (.pointer (some ⟨gx, 3, none⟩)) := by rw [ha]; exact putSel_on (e := (8, 137, .pointer (some ⟨gx, 3, none⟩))) 6 rfl rfl (hon 8 (by kernel_rfl)) rfl
   have e135 : a.tmps[135]? = some (.int .i64 cf) := by rw [ha]; exact putSel_on (e := (6, 135, .int .i64 cf)) 4 rfl rfl (hon 6 (by kernel_rfl)) rfl
   replace ha := Aside0.mk ha
   have HZ := Aside0.mk Q_HZ
   have KP := Aside0.mk Q_KP
   have HX := Aside0.mk (Q_HX hb_)
   have HQ := Aside0.mk Q_HQ
   have hz_ := blk_cell HX.out 3
   have hf_ := blk_frozen HX.out 3
   refine skip_ (w1 := w'.setCell ⟨gx, 3, none⟩ (.int .i64 cf)) (by rfl) rfl ?_ ?_
   ·go_simp
   refine hK.out _ _ ⟨(by rw [ha.out]; exact putSel_none (v := undef) rfl), Below.setCell HZ.out (p := ⟨gx, 3, none⟩) (Nat.zero_le _) (.int .i64 cf), Kept.setCell KP.out (p := ⟨gx, 3, none⟩) (.inl rfl) (.int .i64 cf), fun h0_ => absurd ((up_self b 9).symm.trans h0_) (by decide), blk_far HQ.out (p := ⟨gx, 3, none⟩) HNE.out (.int .i64 cf), fun _ => blk_put HX.out 3 (.int .i64 cf) rfl⟩
  exact steps_nil
 rintro b a w34 hall ⟨ha, Q_HZ, Q_KP, Q_HX, Q_HQ, Q_HXn⟩
 clear HQ HX HZ KP
 have hb1_ := hall 1 (by kernel_rfl)
 have hb3_ := hall 3 (by kernel_rfl)
 have hb4_ := hall 4 (by kernel_rfl)
 have hb5_ := hall 5 (by kernel_rfl)
 have hb6_ := hall 6 (by kernel_rfl)
 have hb7_ := hall 7 (by kernel_rfl)
 have hb8_ := hall 8 (by kernel_rfl)
 have hb9_ := hall 9 (by kernel_rfl)
 subst ha
 simp only [putSel, hb1_, hb3_, hb4_, hb5_, hb6_, hb7_, hb8_, hb9_, if_true, Act.put, List.setIfInBounds_toArray, List.set_cons_zero, List.set_cons_succ]
 have HZ := Aside0.mk Q_HZ
 clear Q_HZ
 have KP := Aside0.mk Q_KP
 clear Q_KP
 clear Q_HX
 have HQ := Aside0.mk Q_HQ
 clear Q_HQ
 have HXn := Aside0.mk (Q_HXn hb9_)
 clear Q_HXn
 clear hall hb1_ hb3_ hb4_ hb5_ hb6_ hb7_ hb8_ hb9_
 have HX := HXn
 clear HXn
 go_wp2
 go_end0
 exact ⟨rfl, HX.out, KP.out, HZ.out⟩
set_option maxHeartbeats 8000000 in
set_option maxRecDepth 100000 in
theorem qstepD (k : Nat) (gx : Nat) (x0 x1 x2 x3 x4 x5 x6 d g lt cn cf : Int) (w : World) (hx : w.heap[gx]? = some (.cells #[.int .i64 x0, .int .i64 x1, .int .i64 x2, .int .i64 x3, .int .i64 x4, .int .i64 x5, .int .i64 x6] 48 (0, 0))) (hR : ¬ wrap64 (2 * d) = 0) (hl : ¬ lt = 115) (hc : impl_Queue_count.f k d g x3 = some cn) (ht : impl_within.f (Int.tmod (wrap64 (wrap64 (cn - x1) + wrap64 (2 * d))) (wrap64 (2 * d))) 1 d = some false) (h2 : impl_Queue_code.f d g x0 = some cf) :
  Calls Tryd.prog 20 #[.pointer (some ⟨gx, 0, none⟩), .agg #[.int .i64 d, .int .i64 g], .int .u8 lt] w fun e w' => e = .returned (.tuple #[]) ∧ w'.heap[gx]? = some (.cells #[.int .i64 x0, .int .i64 x1, .int .i64 x2, .int .i64 cf, .int .i64 x4, .int .i64 x5, .int .i64 x6] 48 (0, 0)) ∧ Kept w w' (fun b => b = gx) ∧ Below 0 w w' := by
 have hu := Tryd.underlying27
 have hu2 := Tryd.underlying48
 have HX := Aside0.mk hx
 have HR0 := Aside0.mk hR
 clear hx hR
 have HC := Aside0.mk hc; have HB2 := Aside0.mk h2; have HW := Aside0.mk ht
 clear hc h2 ht
 have t1 : (lt == 115) = false := beq_eq_false_iff_ne.mpr hl
 have t2 : decide (lt = 115) = false := decide_eq_false hl
 go_enter Tryd.func20, Tryd.ntmps20
 go_wp2_with (fail)
 obtain ⟨wr, hwr⟩ : ∃ z, z = w.alloc (.cells #[.int .i64 d, .int .i64 g] 27) := ⟨_, rfl⟩
 rw [← hwr]
 have hb : Below w.heap.size w wr := by rw [hwr]; exact below_alloc (Below.refl _ _) _
 have HQ : Aside0 (wr.heap[w.heap.size]? = some (.cells #[.int .i64 d, .int .i64 g] 27 (0, 0))) := ⟨by rw [hwr]; simpa using heap_alloc_new w _⟩
 have HNE : Aside0 (w.heap.size ≠ gx) := ⟨by have := blk_lt HX.out; omega⟩
 have KP : Aside0 (Kept w wr (fun b => b = gx)) := ⟨Kept.of_below hb _⟩
 have HZ : Aside0 (Below 0 w wr) := ⟨Below.mono hb (Nat.zero_le _)⟩
 replace HX := Aside0.mk (blk_below HX.out hb)
 clear hwr hb
 obtain ⟨gq, hgq⟩ : ∃ z, z = w.heap.size := ⟨_, rfl⟩
 rw [← hgq] at HQ HNE ⊢
 clear hgq
 have hb : Below wr.heap.size wr wr.drew := below_drew1 (Below.refl _ _)
 replace KP := Aside0.mk (Kept.then_ KP.out (Kept.of_below hb (fun b => b = gx)) (fun b hb => .inl hb)); replace HX := Aside0.mk (blk_below HX.out hb); replace HQ := Aside0.mk (blk_below HQ.out hb); replace HZ := Aside0.mk (Below.trans HZ.out (Below.mono hb (Nat.zero_le _))); clear hb
 refine start_ (n := 16) (S := fun w' => True) (ds := []) #[false, false, false, false, false, false, false, false, false, false, false, false, false, false, false, false] (by kernel_rfl) rfl rfl trivial (fun hHeld => ?_)
 refine with_tabW impl_queueState_step.tab9 impl_queueState_step.bits9 (fun HT_ HW_ => ?_)
 generalize wr.drew = wk15 at KP HX HQ HZ hHeld ⊢
 refine pure_ (i := 1) (N := some 77) (v := ?_) (a' := ?_) #[false, true, false, false, false, false, false, false, false, false, false, false, false, false, false, false] rfl rfl (any_of HT_.out (by kernel_rfl)) (fun _ _ _ h => h) (Or.inl ⟨by rfl, ?_⟩) ?_ ?_
 rotate_left
 ·intro w'
  go_simp
  with_reducible rfl
 rotate_left
 ·simp only [Act.put, List.setIfInBounds_toArray, List.set_cons_zero, List.set_cons_succ, i64_w, i32_w]
  rfl
 refine pure_ (i := 6) (N := some 82) (v := ?_) (a' := ?_) #[false, true, false, false, false, false, true, false, false, false, false, false, false, false, false, false] rfl rfl (any_of HT_.out (by kernel_rfl)) (fun _ _ _ h => h) (Or.inl ⟨by rfl, ?_⟩) ?_ ?_
 rotate_left
 ·intro w'
  go_simp
  with_reducible rfl
 rotate_left
 ·simp only [Act.put, List.setIfInBounds_toArray, List.set_cons_zero, List.set_cons_succ, i64_w, i32_w]
  rfl
 refine pure_ (i := 11) (N := some 87) (v := ?_) (a' := ?_) #[false, true, false, false, false, false, true, false, false, false, false, true, false, false, false, false] rfl rfl (any_of HT_.out (by kernel_rfl)) (fun _ _ _ h => h) (Or.inl ⟨by rfl, ?_⟩) ?_ ?_
 rotate_left
 ·intro w'
  go_simp
  with_reducible rfl
 rotate_left
 ·simp only [Act.put, List.setIfInBounds_toArray, List.set_cons_zero, List.set_cons_succ, i64_w, i32_w]
  rfl
 refine pure_ (i := 13) (N := some 89) (v := ?_) (a' := ?_) #[false, true, false, false, false, false, true, false, false, false, false, true, false, true, false, false] rfl rfl (any_of HT_.out (by kernel_rfl)) (fun _ _ _ h => h) (Or.inl ⟨by rfl, ?_⟩) ?_ ?_
 rotate_left
 ·intro w'
  go_simp
  with_reducible rfl
 rotate_left
 ·simp only [Act.put, List.setIfInBounds_toArray, List.set_cons_zero, List.set_cons_succ, i64_w, i32_w]
  rfl
 refine inv_at [0, 2, 3, 4, 5, 7, 8, 9, 10, 12, 14, 15] (fun a0_ b a w' => a = putSel a0_ b [(0, 76, .agg #[.int .i64 d, .int .i64 g]), (2, 78, .pointer (some ⟨gx, 0, none⟩)), (3, 79, .pointer (some ⟨gx, 3, none⟩)), (4, 80, .int .i64 x3), (5, 81, .int .i64 cn), (7, 83, .pointer (some ⟨gx, 0, none⟩)), (8, 84, .pointer (some ⟨gx, 1, none⟩)), (9, 85, .int .i64 x1), (10, 86, .int .i64 (wrap64 (cn - x1))), (12, 88, .int .i64 (wrap64 (((wrap64 (cn - x1))) + ((wrap64 (2 * d)))))), (14, 90, .int .i64 (Int.tmod ((wrap64 (((wrap64 (cn - x1))) + ((wrap64 (2 * d)))))) ((wrap64 (2 * d))))), (15, 8, .int .i64 (Int.tmod ((wrap64 (((wrap64 (cn - x1))) + ((wrap64 (2 * d)))))) ((wrap64 (2 * d)))))] ∧ (Below 0 w w') ∧ (Kept w w' (fun b => b = gx)) ∧ (w'.heap[gx]? = some (.cells #[.int .i64 x0, .int .i64 x1, .int .i64 x2, .int .i64 x3, .int .i64 x4, .int .i64 x5, .int .i64 x6] 48 (0, 0))) ∧ (w'.heap[gq]? = some (.cells #[.int .i64 d, .int .i64 g] 27 (0, 0)))) HT_.out HW_.out (by kernel_rfl) (by kernel_rfl) ?_ ?_ ?_
 ·exact ⟨by simp only [putSel, Bool.false_eq_true, if_false], HZ.out, KP.out, HX.out, HQ.out⟩
 ·skip
  clear HQ HX HZ KP
  refine steps_cons ?_ ?_
  ·rintro b a w' ⟨ha, Q_HZ, Q_KP, Q_HX, Q_HQ⟩ hb_ hon hoff
   refine ⟨_, rfl, fun K hK => ?_⟩
   have e4 : a.tmps[4]? = some (.pointer (some ⟨gq, 0, none⟩)) := by rw [ha]; exact (putSel_off rfl).trans rfl
   replace ha := Aside0.mk ha
   have HZ := Aside0.mk Q_HZ
   have KP := Aside0.mk Q_KP
   have HX := Aside0.mk Q_HX
   have HQ := Aside0.mk Q_HQ
   have hc0_ : w'.cell? ⟨gq, 0, none⟩ = some (.int .i64 d) := (blk_cell HQ.out 0).trans rfl
   have hc1_ : w'.cell? ⟨gq, 1, none⟩ = some (.int .i64 g) := (blk_cell HQ.out 1).trans rfl
   refine value_ (w1 := w') (v := .agg #[.int .i64 d, .int .i64 g]) (by rfl) rfl ?_ ?_
   ·go_simp
    (try simp only [i64_w])
    try rfl
   refine hK.out _ _ ⟨(by rw [ha.out]; exact putSel_upk 0 hb_ rfl rfl rfl), Q_HZ, Q_KP, Q_HX, Q_HQ⟩
  refine steps_cons ?_ ?_
  ·rintro b a w' ⟨ha, Q_HZ, Q_KP, Q_HX, Q_HQ⟩ hb_ hon hoff
   refine ⟨_, rfl, fun K hK => ?_⟩
   have e77 : a.tmps[77]? = some (.pointer (some ⟨gx, 0, none⟩)) := by rw [ha]; exact (putSel_off rfl).trans rfl
   replace ha := Aside0.mk ha
   have HZ := Aside0.mk Q_HZ
   have KP := Aside0.mk Q_KP
   have HX := Aside0.mk Q_HX
   have HQ := Aside0.mk Q_HQ
   refine value_ (w1 := w') (v := .pointer (some ⟨gx, 0, none⟩)) (by rfl) rfl ?_ ?_
   ·go_simp
    (try simp only [i64_w])
    try rfl
   refine hK.out _ _ ⟨(by rw [ha.out]; exact putSel_upk 1 hb_ rfl rfl rfl), Q_HZ, Q_KP, Q_HX, Q_HQ⟩
  refine steps_cons ?_ ?_
  ·rintro b a w' ⟨ha, Q_HZ, Q_KP, Q_HX, Q_HQ⟩ hb_ hon hoff
   refine ⟨_, rfl, fun K hK => ?_⟩
   have e78 : a.tmps[78]? = some (.pointer (some ⟨gx, 0, none⟩)) := by rw [ha]; exact putSel_on (e := (2, 78, .pointer (some ⟨gx, 0, none⟩))) 1 rfl rfl (hon 2 (by kernel_rfl)) rfl
   replace ha := Aside0.mk ha
   have HZ := Aside0.mk Q_HZ
   have KP := Aside0.mk Q_KP
   have HX := Aside0.mk Q_HX
   have HQ := Aside0.mk Q_HQ
   refine value_ (w1 := w') (v := .pointer (some ⟨gx, 3, none⟩)) (by rfl) rfl ?_ ?_
   ·go_simp
    (try simp only [i64_w])
    try rfl
   refine hK.out _ _ ⟨(by rw [ha.out]; exact putSel_upk 2 hb_ rfl rfl rfl), Q_HZ, Q_KP, Q_HX, Q_HQ⟩
  refine steps_cons ?_ ?_
  ·rintro b a w' ⟨ha, Q_HZ, Q_KP, Q_HX, Q_HQ⟩ hb_ hon hoff
   refine ⟨_, rfl, fun K hK => ?_⟩
   have e79 : a.tmps[79]? = some (.pointer (some ⟨gx, 3, none⟩)) := by rw [ha]; exact putSel_on (e := (3, 79, .pointer (some ⟨gx, 3, none⟩))) 2 rfl rfl (hon 3 (by kernel_rfl)) rfl
   replace ha := Aside0.mk ha
   have HZ := Aside0.mk Q_HZ
   have KP := Aside0.mk Q_KP
   have HX := Aside0.mk Q_HX
   have HQ := Aside0.mk Q_HQ
   have hc3_ : w'.cell? ⟨gx, 3, none⟩ = some (.int .i64 x3) := (blk_cell HX.out 3).trans rfl
   refine value_ (w1 := w') (v := .int .i64 x3) (by rfl) rfl ?_ ?_
   ·go_simp
    (try simp only [i64_w])
    try rfl
   refine hK.out _ _ ⟨(by rw [ha.out]; exact putSel_upk 3 hb_ rfl rfl rfl), Q_HZ, Q_KP, Q_HX, Q_HQ⟩
  refine steps_cons ?_ ?_
  ·rintro b a w' ⟨ha, Q_HZ, Q_KP, Q_HX, Q_HQ⟩ hb_ hon hoff
   refine ⟨_, rfl, fun K hK => ?_⟩
   have e76 : a.tmps[76]? = some (.agg #[.int .i64 d, .int .i64 g]) := by rw [ha]; exact putSel_on (e := (0, 76, .agg #[.int .i64 d, .int .i64 g])) 0 rfl rfl (hon 0 (by kernel_rfl)) rfl
   have e80 : a.tmps[80]? = some (.int .i64 x3) := by rw [ha]; exact putSel_on (e := (4, 80, .int .i64 x3)) 3 rfl rfl (hon 4 (by kernel_rfl)) rfl
   replace ha := Aside0.mk ha
   have HZ := Aside0.mk Q_HZ
   have KP := Aside0.mk Q_KP
   have HX := Aside0.mk Q_HX
   have HQ := Aside0.mk Q_HQ
   refine goes_ Tryd.func34 (by kernel_rfl) rfl #[.agg #[.int .i64 d, .int .i64 g], .int .i64 x3] (by rfl) rfl rfl (by first | (simp only [List.map_toArray, List.map_cons, List.map_nil, Act.eval, Array.getD_eq_getD_getElem?, Option.getD_some, e76, e80]; done) | (simp only [List.map_toArray, List.map_cons, List.map_nil, Act.eval, Array.getD_eq_getD_getElem?, Option.getD_some, e76, e80]; rfl)) ?_
   refine (impl_Queue_count.calls k d g x3 cn w' HC.out).mono ?_
   rintro e w5 ⟨rfl, hb⟩
   refine ⟨_, rfl, ?_⟩
   refine hK.out _ _ ⟨(by rw [ha.out]; exact putSel_upk 4 hb_ rfl rfl rfl), Below.trans HZ.out (Below.mono hb (Nat.zero_le _)), Kept.then_ KP.out (Kept.of_below hb (fun b => b = gx)) (fun b hb => .inl hb), blk_below HX.out hb, blk_below HQ.out hb⟩
  refine steps_cons ?_ ?_
  ·rintro b a w' ⟨ha, Q_HZ, Q_KP, Q_HX, Q_HQ⟩ hb_ hon hoff
   refine ⟨_, rfl, fun K hK => ?_⟩
   have e82 : a.tmps[82]? = some (.pointer (some ⟨gx, 0, none⟩)) := by rw [ha]; exact (putSel_off rfl).trans rfl
   replace ha := Aside0.mk ha
   have HZ := Aside0.mk Q_HZ
   have KP := Aside0.mk Q_KP
   have HX := Aside0.mk Q_HX
   have HQ := Aside0.mk Q_HQ
   refine value_ (w1 := w') (v := .pointer (some ⟨gx, 0, none⟩)) (by rfl) rfl ?_ ?_
   ·go_simp
    (try simp only [i64_w])
    try rfl
   refine hK.out _ _ ⟨(by rw [ha.out]; exact putSel_upk 5 hb_ rfl rfl rfl), Q_HZ, Q_KP, Q_HX, Q_HQ⟩
  refine steps_cons ?_ ?_
  ·rintro b a w' ⟨ha, Q_HZ, Q_KP, Q_HX, Q_HQ⟩ hb_ hon hoff
   refine ⟨_, rfl, fun K hK => ?_⟩
   have e83 : a.tmps[83]? = some (.pointer (some ⟨gx, 0, none⟩)) := by rw [ha]; exact putSel_on (e := (7, 83, .pointer (some ⟨gx, 0, none⟩))) 5 rfl rfl (hon 7 (by kernel_rfl)) rfl
   replace ha := Aside0.mk ha
   have HZ := Aside0.mk Q_HZ
   have KP := Aside0.mk Q_KP
   have HX := Aside0.mk Q_HX
   have HQ := Aside0.mk Q_HQ
   refine value_ (w1 := w') (v := .pointer (some ⟨gx, 1, none⟩)) (by rfl) rfl ?_ ?_
   ·go_simp
    (try simp only [i64_w])
    try rfl
   refine hK.out _ _ ⟨(by rw [ha.out]; exact putSel_upk 6 hb_ rfl rfl rfl), Q_HZ, Q_KP, Q_HX, Q_HQ⟩
  refine steps_cons ?_ ?_
  ·rintro b a w' ⟨ha, Q_HZ, Q_KP, Q_HX, Q_HQ⟩ hb_ hon hoff
   refine ⟨_, rfl, fun K hK => ?_⟩
   have e84 : a.tmps[84]? = some (.pointer (some ⟨gx, 1, none⟩)) := by rw [ha]; exact putSel_on (e := (8, 84, .pointer (some ⟨gx, 1, none⟩))) 6 rfl rfl (hon 8 (by kernel_rfl)) rfl
   replace ha := Aside0.mk ha
   have HZ := Aside0.mk Q_HZ
   have KP := Aside0.mk Q_KP
   have HX := Aside0.mk Q_HX
   have HQ := Aside0.mk Q_HQ
   have hc1_ : w'.cell? ⟨gx, 1, none⟩ = some (.int .i64 x1) := (blk_cell HX.out 1).trans rfl
   refine value_ (w1 := w') (v := .int .i64 x1) (by rfl) rfl ?_ ?_
   ·go_simp
    (try simp only [i64_w])
    try rfl
   refine hK.out _ _ ⟨(by rw [ha.out]; exact putSel_upk 7 hb_ rfl rfl rfl), Q_HZ, Q_KP, Q_HX, Q_HQ⟩
  refine steps_cons ?_ ?_
  ·rintro b a w' ⟨ha, Q_HZ, Q_KP, Q_HX, Q_HQ⟩ hb_ hon hoff
   refine ⟨_, rfl, fun K hK => ?_⟩
   have e81 : a.tmps[81]? = some (.int .i64 cn) := by rw [ha]; exact putSel_on (e := (5, 81, .int .i64 cn)) 4 rfl rfl (hon 5 (by kernel_rfl)) rfl
   have e85 : a.tmps[85]? = some (.int .i64 x1) := by rw [ha]; exact putSel_on (e := (9, 85, .int .i64 x1)) 7 rfl rfl (hon 9 (by kernel_rfl)) rfl
   replace ha := Aside0.mk ha
   have HZ := Aside0.mk Q_HZ
   have KP := Aside0.mk Q_KP
   have HX := Aside0.mk Q_HX
   have HQ := Aside0.mk Q_HQ
   refine value_ (w1 := w') (v := .int .i64 (wrap64 (cn - x1))) (by rfl) rfl ?_ ?_
   ·go_simp
    (try simp only [i64_w])
    try rfl
   refine hK.out _ _ ⟨(by rw [ha.out]; exact putSel_upk 8 hb_ rfl rfl rfl), Q_HZ, Q_KP, Q_HX, Q_HQ⟩
  refine steps_cons ?_ ?_
  ·rintro b a w' ⟨ha, Q_HZ, Q_KP, Q_HX, Q_HQ⟩ hb_ hon hoff
   refine ⟨_, rfl, fun K hK => ?_⟩
   have e86 : a.tmps[86]? = some (.int .i64 (wrap64 (cn - x1))) := by rw [ha]; exact putSel_on (e := (10, 86, .int .i64 (wrap64 (cn - x1)))) 8 rfl rfl (hon 10 (by kernel_rfl)) rfl
   have e87 : a.tmps[87]? = some (.int .i64 (wrap64 (2 * d))) := by rw [ha]; exact (putSel_off rfl).trans rfl
   replace ha := Aside0.mk ha
   have HZ := Aside0.mk Q_HZ
   have KP := Aside0.mk Q_KP
   have HX := Aside0.mk Q_HX
   have HQ := Aside0.mk Q_HQ
   refine value_ (w1 := w') (v := .int .i64 (wrap64 (((wrap64 (cn - x1))) + ((wrap64 (2 * d)))))) (by rfl) rfl ?_ ?_
   ·go_simp
    (try simp only [i64_w])
    try rfl
   refine hK.out _ _ ⟨(by rw [ha.out]; exact putSel_upk 9 hb_ rfl rfl rfl), Q_HZ, Q_KP, Q_HX, Q_HQ⟩
  refine steps_cons ?_ ?_
  ·rintro b a w' ⟨ha, Q_HZ, Q_KP, Q_HX, Q_HQ⟩ hb_ hon hoff
   refine ⟨_, rfl, fun K hK => ?_⟩
   have e88 : a.tmps[88]? = some (.int .i64 (wrap64 (((wrap64 (cn - x1))) + ((wrap64 (2 * d)))))) := by rw [ha]; exact putSel_on (e := (12, 88, .int .i64 (wrap64 (((wrap64 (cn - x1))) + ((wrap64 (2 * d))))))) 9 rfl rfl (hon 12 (by kernel_rfl)) rfl
   have e89 : a.tmps[89]? = some (.int .i64 (wrap64 (2 * d))) := by rw [ha]; exact (putSel_off rfl).trans rfl
   replace ha := Aside0.mk ha
   have HZ := Aside0.mk Q_HZ
   have KP := Aside0.mk Q_KP
   have HX := Aside0.mk Q_HX
   have HQ := Aside0.mk Q_HQ
   have hr_ := HR0.out
   refine value_ (w1 := w') (v := .int .i64 (Int.tmod ((wrap64 (((wrap64 (cn - x1))) + ((wrap64 (2 * d)))))) ((wrap64 (2 * d))))) (by rfl) rfl ?_ ?_
   ·go_simp
    (try simp only [i64_w])
    try rfl
   refine hK.out _ _ ⟨(by rw [ha.out]; exact putSel_upk 10 hb_ rfl rfl rfl), Q_HZ, Q_KP, Q_HX, Q_HQ⟩
  refine steps_cons ?_ ?_
  ·rintro b a w' ⟨ha, Q_HZ, Q_KP, Q_HX, Q_HQ⟩ hb_ hon hoff
   refine ⟨_, rfl, fun K hK => ?_⟩
   have e90 : a.tmps[90]? = some (.int .i64 (Int.tmod ((wrap64 (((wrap64 (cn - x1))) + ((wrap64 (2 * d)))))) ((wrap64 (2 * d))))) := by rw [ha]; exact putSel_on (e := (14, 90, .int .i64 (Int.tmod ((wrap64 (((wrap64 (cn - x1))) + ((wrap64 (2 * d)))))) ((wrap64 (2 * d)))))) 10 rfl rfl (hon 14 (by kernel_rfl)) rfl
   replace ha := Aside0.mk ha
   have HZ := Aside0.mk Q_HZ
   have KP := Aside0.mk Q_KP
   have HX := Aside0.mk Q_HX
   have HQ := Aside0.mk Q_HQ
   refine value_ (w1 := w') (v := .int .i64 (Int.tmod ((wrap64 (((wrap64 (cn - x1))) + ((wrap64 (2 * d)))))) ((wrap64 (2 * d))))) (by rfl) rfl ?_ ?_
   ·go_simp
    (try simp only [i64_w])
    try rfl
   refine hK.out _ _ ⟨(by rw [ha.out]; exact putSel_upk 11 hb_ rfl rfl rfl), Q_HZ, Q_KP, Q_HX, Q_HQ⟩
  exact steps_nil
 rintro b a w35 hall ⟨ha, Q_HZ, Q_KP, Q_HX, Q_HQ⟩
 clear HQ HX HZ KP
 have hb0_ := hall 0 (by kernel_rfl)
 have hb2_ := hall 2 (by kernel_rfl)
 have hb3_ := hall 3 (by kernel_rfl)
 have hb4_ := hall 4 (by kernel_rfl)
 have hb5_ := hall 5 (by kernel_rfl)
 have hb7_ := hall 7 (by kernel_rfl)
 have hb8_ := hall 8 (by kernel_rfl)
 have hb9_ := hall 9 (by kernel_rfl)
 have hb10_ := hall 10 (by kernel_rfl)
 have hb12_ := hall 12 (by kernel_rfl)
 have hb14_ := hall 14 (by kernel_rfl)
 have hb15_ := hall 15 (by kernel_rfl)
 subst ha
 simp only [putSel, hb0_, hb2_, hb3_, hb4_, hb5_, hb7_, hb8_, hb9_, hb10_, hb12_, hb14_, hb15_, if_true, Act.put, List.setIfInBounds_toArray, List.set_cons_zero, List.set_cons_succ]
 have HZ := Aside0.mk Q_HZ
 clear Q_HZ
 have KP := Aside0.mk Q_KP
 clear Q_KP
 have HX := Aside0.mk Q_HX
 clear Q_HX
 have HQ := Aside0.mk Q_HQ
 clear Q_HQ
 clear hall hb0_ hb2_ hb3_ hb4_ hb5_ hb7_ hb8_ hb9_ hb10_ hb12_ hb14_ hb15_
 obtain ⟨b0, b1⟩ : w35.cell? ⟨gq, 0, none⟩ = some (.int .i64 d) ∧ True := ⟨(blk_cell HQ.out 0).trans rfl, trivial⟩
 go_wp2_with (fail)
 refine (impl_within.calls (w := _) (h := HW.out)).mono ?_
 rintro e wq ⟨rfl, hd⟩
 obtain ⟨nq, rfl⟩ := hd
 have hb := pw_below_drewN (Below.refl w35.heap.size w35) nq
 replace KP := Aside0.mk (Kept.then_ KP.out (Kept.of_below hb (fun b => b = gx)) (fun b hb => .inl hb)); replace HX := Aside0.mk (blk_below HX.out hb); replace HQ := Aside0.mk (blk_below HQ.out hb); replace HZ := Aside0.mk (Below.trans HZ.out (Below.mono hb (Nat.zero_le _))); clear hb
 generalize w35.drewN nq = wn at KP HX HQ HZ ⊢
 clear b0 b1
 go_wp2_with (fail)
 have hb : Below wn.heap.size wn wn.drew := below_drew1 (Below.refl _ _)
 replace KP := Aside0.mk (Kept.then_ KP.out (Kept.of_below hb (fun b => b = gx)) (fun b hb => .inl hb)); replace HX := Aside0.mk (blk_below HX.out hb); replace HQ := Aside0.mk (blk_below HQ.out hb); replace HZ := Aside0.mk (Below.trans HZ.out (Below.mono hb (Nat.zero_le _))); clear hb
 refine start_ (n := 10) (S := fun w' => True) (ds := []) #[false, false, false, false, false, false, false, false, false, false] (by kernel_rfl) rfl rfl trivial (fun hHeld => ?_)
 refine with_tabW impl_queueState_step.tab15 impl_queueState_step.bits15 (fun HT_ HW_ => ?_)
 generalize wn.drew = wk16 at KP HX HQ HZ hHeld ⊢
 refine pure_ (i := 0) (N := some 129) (v := ?_) (a' := ?_) #[true, false, false, false, false, false, false, false, false, false] rfl rfl (any_of HT_.out (by kernel_rfl)) (fun _ _ _ h => h) (Or.inl ⟨by rfl, ?_⟩) ?_ ?_
 rotate_left
 ·intro w'
  go_simp
  with_reducible rfl
 rotate_left
 ·simp only [Act.put, List.setIfInBounds_toArray, List.set_cons_zero, List.set_cons_succ, i64_w, i32_w]
  rfl
 refine pure_ (i := 2) (N := some 131) (v := ?_) (a' := ?_) #[true, false, true, false, false, false, false, false, false, false] rfl rfl (any_of HT_.out (by kernel_rfl)) (fun _ _ _ h => h) (Or.inl ⟨by rfl, ?_⟩) ?_ ?_
 rotate_left
 ·intro w'
  go_simp
  with_reducible rfl
 rotate_left
 ·simp only [Act.put, List.setIfInBounds_toArray, List.set_cons_zero, List.set_cons_succ, i64_w, i32_w]
  rfl
 refine inv_at [1, 3, 4, 5, 6, 7, 8, 9] (fun a0_ b a w' => a = putSel a0_ b [(1, 130, .agg #[.int .i64 d, .int .i64 g]), (3, 132, .pointer (some ⟨gx, 0, none⟩)), (4, 133, .pointer (some ⟨gx, 0, none⟩)), (5, 134, .int .i64 x0), (6, 135, .int .i64 cf), (7, 136, .pointer (some ⟨gx, 0, none⟩)), (8, 137, .pointer (some ⟨gx, 3, none⟩))] ∧ (Below 0 w w') ∧ (Kept w w' (fun b => b = gx)) ∧ (b 9 = false → w'.heap[gx]? = some (.cells #[.int .i64 x0, .int .i64 x1, .int .i64 x2, .int .i64 x3, .int .i64 x4, .int .i64 x5, .int .i64 x6] 48 (0, 0))) ∧ (w'.heap[gq]? = some (.cells #[.int .i64 d, .int .i64 g] 27 (0, 0))) ∧ (b 9 = true → w'.heap[gx]? = some (.cells #[.int .i64 x0, .int .i64 x1, .int .i64 x2, .int .i64 cf, .int .i64 x4, .int .i64 x5, .int .i64 x6] 48 (0, 0)))) HT_.out HW_.out (by kernel_rfl) (by kernel_rfl) ?_ ?_ ?_
 ·exact ⟨by simp only [putSel, Bool.false_eq_true, if_false], HZ.out, KP.out, fun _ => HX.out, HQ.out, fun h_ => absurd h_ (by decide)⟩
 ·skip
  clear HQ HX HZ KP
  refine steps_cons ?_ ?_
  ·rintro b a w' ⟨ha, Q_HZ, Q_KP, Q_HX, Q_HQ, Q_HXn⟩ hb_ hon hoff
   refine ⟨_, rfl, fun K hK => ?_⟩
   have e4 : a.tmps[4]? = some (.pointer (some ⟨gq, 0, none⟩)) := by rw [ha]; exact (putSel_off rfl).trans rfl
   replace ha := Aside0.mk ha
   have HZ := Aside0.mk Q_HZ
   have KP := Aside0.mk Q_KP
   have HX := Aside0.mk (Q_HX (hoff 9 (by kernel_rfl)))
   have HQ := Aside0.mk Q_HQ
   have hc0_ : w'.cell? ⟨gq, 0, none⟩ = some (.int .i64 d) := (blk_cell HQ.out 0).trans rfl
   have hc1_ : w'.cell? ⟨gq, 1, none⟩ = some (.int .i64 g) := (blk_cell HQ.out 1).trans rfl
   refine value_ (w1 := w') (v := .agg #[.int .i64 d, .int .i64 g]) (by rfl) rfl ?_ ?_
   ·go_simp
    (try simp only [i64_w])
    try rfl
   refine hK.out _ _ ⟨(by rw [ha.out]; exact putSel_upk 0 hb_ rfl rfl rfl), Q_HZ, Q_KP, Q_HX, Q_HQ, fun h0_ => absurd ((hoff 9 (by kernel_rfl)).symm.trans h0_) (by decide)⟩
  refine steps_cons ?_ ?_
  ·rintro b a w' ⟨ha, Q_HZ, Q_KP, Q_HX, Q_HQ, Q_HXn⟩ hb_ hon hoff
   refine ⟨_, rfl, fun K hK => ?_⟩
   have e131 : a.tmps[131]? = some (.pointer (some ⟨gx, 0, none⟩)) := by rw [ha]; exact (putSel_off rfl).trans rfl
   replace ha := Aside0.mk ha
   have HZ := Aside0.mk Q_HZ
   have KP := Aside0.mk Q_KP
   have HX := Aside0.mk (Q_HX (hoff 9 (by kernel_rfl)))
   have HQ := Aside0.mk Q_HQ
   refine value_ (w1 := w') (v := .pointer (some ⟨gx, 0, none⟩)) (by rfl) rfl ?_ ?_
   ·go_simp
    (try simp only [i64_w])
    try rfl
   refine hK.out _ _ ⟨(by rw [ha.out]; exact putSel_upk 1 hb_ rfl rfl rfl), Q_HZ, Q_KP, Q_HX, Q_HQ, fun h0_ => absurd ((hoff 9 (by kernel_rfl)).symm.trans h0_) (by decide)⟩
  refine steps_cons ?_ ?_
  ·rintro b a w' ⟨ha, Q_HZ, Q_KP, Q_HX, Q_HQ, Q_HXn⟩ hb_ hon hoff
   refine ⟨_, rfl, fun K hK => ?_⟩
   have e132 : a.tmps[132]? = some (.pointer (some ⟨gx, 0, none⟩)) := by rw [ha]; exact putSel_on (e := (3, 132, .pointer (some ⟨gx, 0, none⟩))) 1 rfl rfl (hon 3 (by kernel_rfl)) rfl
   replace ha := Aside0.mk ha
   have HZ := Aside0.mk Q_HZ
   have KP := Aside0.mk Q_KP
   have HX := Aside0.mk (Q_HX (hoff 9 (by kernel_rfl)))
   have HQ := Aside0.mk Q_HQ
   refine value_ (w1 := w') (v := .pointer (some ⟨gx, 0, none⟩)) (by rfl) rfl ?_ ?_
   ·go_simp
    (try simp only [i64_w])
    try rfl
   refine hK.out _ _ ⟨(by rw [ha.out]; exact putSel_upk 2 hb_ rfl rfl rfl), Q_HZ, Q_KP, Q_HX, Q_HQ, fun h0_ => absurd ((hoff 9 (by kernel_rfl)).symm.trans h0_) (by decide)⟩
  refine steps_cons ?_ ?_
  ·rintro b a w' ⟨ha, Q_HZ, Q_KP, Q_HX, Q_HQ, Q_HXn⟩ hb_ hon hoff
   refine ⟨_, rfl, fun K hK => ?_⟩
   have e133 : a.tmps[133]? = some (.pointer (some ⟨gx, 0, none⟩)) := by rw [ha]; exact putSel_on (e := (4, 133, .pointer (some ⟨gx, 0, none⟩))) 2 rfl rfl (hon 4 (by kernel_rfl)) rfl
   replace ha := Aside0.mk ha
   have HZ := Aside0.mk Q_HZ
   have KP := Aside0.mk Q_KP
   have HX := Aside0.mk (Q_HX (hoff 9 (by kernel_rfl)))
   have HQ := Aside0.mk Q_HQ
   have hc0_ : w'.cell? ⟨gx, 0, none⟩ = some (.int .i64 x0) := (blk_cell HX.out 0).trans rfl
   refine value_ (w1 := w') (v := .int .i64 x0) (by rfl) rfl ?_ ?_
   ·go_simp
    (try simp only [i64_w])
    try rfl
   refine hK.out _ _ ⟨(by rw [ha.out]; exact putSel_upk 3 hb_ rfl rfl rfl), Q_HZ, Q_KP, Q_HX, Q_HQ, fun h0_ => absurd ((hoff 9 (by kernel_rfl)).symm.trans h0_) (by decide)⟩
  refine steps_cons ?_ ?_
  ·rintro b a w' ⟨ha, Q_HZ, Q_KP, Q_HX, Q_HQ, Q_HXn⟩ hb_ hon hoff
   refine ⟨_, rfl, fun K hK => ?_⟩
   have e130 : a.tmps[130]? = some (.agg #[.int .i64 d, .int .i64 g]) := by rw [ha]; exact putSel_on (e := (1, 130, .agg #[.int .i64 d, .int .i64 g])) 0 rfl rfl (hon 1 (by kernel_rfl)) rfl
   have e134 : a.tmps[134]? = some (.int .i64 x0) := by rw [ha]; exact putSel_on (e := (5, 134, .int .i64 x0)) 3 rfl rfl (hon 5 (by kernel_rfl)) rfl
   replace ha := Aside0.mk ha
   have HZ := Aside0.mk Q_HZ
   have KP := Aside0.mk Q_KP
   have HX := Aside0.mk (Q_HX (hoff 9 (by kernel_rfl)))
   have HQ := Aside0.mk Q_HQ
   refine goes_ Tryd.func35 (by kernel_rfl) rfl #[.agg #[.int .i64 d, .int .i64 g], .int .i64 x0] (by rfl) rfl rfl (by first | (simp only [List.map_toArray, List.map_cons, List.map_nil, Act.eval, Array.getD_eq_getD_getElem?, Option.getD_some, e130, e134]; done) | (simp only [List.map_toArray, List.map_cons, List.map_nil, Act.eval, Array.getD_eq_getD_getElem?, Option.getD_some, e130, e134]; rfl)) ?_
   refine (impl_Queue_code.calls d g (x0) cf w' HB2.out).mono ?_
   rintro e w5 ⟨rfl, hb⟩
   refine ⟨_, rfl, ?_⟩
   refine hK.out _ _ ⟨(by rw [ha.out]; exact putSel_upk 4 hb_ rfl rfl rfl), Below.trans HZ.out (Below.mono hb (Nat.zero_le _)), Kept.then_ KP.out (Kept.of_below hb (fun b => b = gx)) (fun b hb => .inl hb), fun _ => blk_below HX.out hb, blk_below HQ.out hb, fun h0_ => absurd ((hoff 9 (by kernel_rfl)).symm.trans h0_) (by decide)⟩
  refine steps_cons ?_ ?_
  ·rintro b a w' ⟨ha, Q_HZ, Q_KP, Q_HX, Q_HQ, Q_HXn⟩ hb_ hon hoff
   refine ⟨_, rfl, fun K hK => ?_⟩
   have e129 : a.tmps[129]? = some (.pointer (some ⟨gx, 0, none⟩)) := by rw [ha]; exact (putSel_off rfl).trans rfl
   replace ha := Aside0.mk ha
   have HZ := Aside0.mk Q_HZ
   have KP := Aside0.mk Q_KP
   have HX := Aside0.mk (Q_HX (hoff 9 (by kernel_rfl)))
   have HQ := Aside0.mk Q_HQ
   refine value_ (w1 := w') (v := .pointer (some ⟨gx, 0, none⟩)) (by rfl) rfl ?_ ?_
   ·go_simp
    (try simp only [i64_w])
    try rfl
   refine hK.out _ _ ⟨(by rw [ha.out]; exact putSel_upk 5 hb_ rfl rfl rfl), Q_HZ, Q_KP, Q_HX, Q_HQ, fun h0_ => absurd ((hoff 9 (by kernel_rfl)).symm.trans h0_) (by decide)⟩
  refine steps_cons ?_ ?_
  ·rintro b a w' ⟨ha, Q_HZ, Q_KP, Q_HX, Q_HQ, Q_HXn⟩ hb_ hon hoff
   refine ⟨_, rfl, fun K hK => ?_⟩
   have e136 : a.tmps[136]? = some (.pointer (some ⟨gx, 0, none⟩)) := by rw [ha]; exact putSel_on (e := (7, 136, .pointer (some ⟨gx, 0, none⟩))) 5 rfl rfl (hon 7 (by kernel_rfl)) rfl
   replace ha := Aside0.mk ha
   have HZ := Aside0.mk Q_HZ
   have KP := Aside0.mk Q_KP
   have HX := Aside0.mk (Q_HX (hoff 9 (by kernel_rfl)))
   have HQ := Aside0.mk Q_HQ
   refine value_ (w1 := w') (v := .pointer (some ⟨gx, 3, none⟩)) (by rfl) rfl ?_ ?_
   ·go_simp
    (try simp only [i64_w])
    try rfl
   refine hK.out _ _ ⟨(by rw [ha.out]; exact putSel_upk 6 hb_ rfl rfl rfl), Q_HZ, Q_KP, Q_HX, Q_HQ, fun h0_ => absurd ((hoff 9 (by kernel_rfl)).symm.trans h0_) (by decide)⟩
  refine steps_cons ?_ ?_
  ·rintro b a w' ⟨ha, Q_HZ, Q_KP, Q_HX, Q_HQ, Q_HXn⟩ hb_ hon hoff
   refine ⟨_, rfl, fun K hK => ?_⟩
   have e137 : a.tmps[137]? = some (.pointer (some ⟨gx, 3, none⟩)) := by rw [ha]; exact putSel_on (e := (8, 137, .pointer (some ⟨gx, 3, none⟩))) 6 rfl rfl (hon 8 (by kernel_rfl)) rfl
   have e135 : a.tmps[135]? = some (.int .i64 cf) := by rw [ha]; exact putSel_on (e := (6, 135, .int .i64 cf)) 4 rfl rfl (hon 6 (by kernel_rfl)) rfl
   replace ha := Aside0.mk ha
   have HZ := Aside0.mk Q_HZ
   have KP := Aside0.mk Q_KP
   have HX := Aside0.mk (Q_HX hb_)
   have HQ := Aside0.mk Q_HQ
   have hz_ := blk_cell HX.out 3
   have hf_ := blk_frozen HX.out 3
   refine skip_ (w1 := w'.setCell ⟨gx, 3, none⟩ (.int .i64 cf)) (by rfl) rfl ?_ ?_
   ·go_simp
   refine hK.out _ _ ⟨(by rw [ha.out]; exact putSel_none (v := undef) rfl), Below.setCell HZ.out (p := ⟨gx, 3, none⟩) (Nat.zero_le _) (.int .i64 cf), Kept.setCell KP.out (p := ⟨gx, 3, none⟩) (.inl rfl) (.int .i64 cf), fun h0_ => absurd ((up_self b 9).symm.trans h0_) (by decide), blk_far HQ.out (p := ⟨gx, 3, none⟩) HNE.out (.int .i64 cf), fun _ => blk_put HX.out 3 (.int .i64 cf) rfl⟩
  exact steps_nil
 rintro b a w36 hall ⟨ha, Q_HZ, Q_KP, Q_HX, Q_HQ, Q_HXn⟩
 clear HQ HX HZ KP
 have hb1_ := hall 1 (by kernel_rfl)
 have hb3_ := hall 3 (by kernel_rfl)
 have hb4_ := hall 4 (by kernel_rfl)
 have hb5_ := hall 5 (by kernel_rfl)
 have hb6_ := hall 6 (by kernel_rfl)
 have hb7_ := hall 7 (by kernel_rfl)
 have hb8_ := hall 8 (by kernel_rfl)
 have hb9_ := hall 9 (by kernel_rfl)
 subst ha
 simp only [putSel, hb1_, hb3_, hb4_, hb5_, hb6_, hb7_, hb8_, hb9_, if_true, Act.put, List.setIfInBounds_toArray, List.set_cons_zero, List.set_cons_succ]
 have HZ := Aside0.mk Q_HZ
 clear Q_HZ
 have KP := Aside0.mk Q_KP
 clear Q_KP
 clear Q_HX
 have HQ := Aside0.mk Q_HQ
 clear Q_HQ
 have HXn := Aside0.mk (Q_HXn hb9_)
 clear Q_HXn
 clear hall hb1_ hb3_ hb4_ hb5_ hb6_ hb7_ hb8_ hb9_
 have HX := HXn
 clear HXn
 go_wp2
 go_end0
 exact ⟨rfl, HX.out, KP.out, HZ.out⟩
/-- One step of the queue's side that the letter names. -/
def impl_queueState_step.f (k : Nat) (x0 x1 x2 x3 x4 x5 x6 d g lt : Int) : Option (Int × Int × Int × Int × Int × Int × Int) :=
 if wrap64 (2 * d) = 0 then none else if lt = 115 then (impl_Queue_count.f k d g x2).bind fun cn => if Int.tmod (wrap64 (wrap64 (x0 - cn) + wrap64 (2 * d))) (wrap64 (2 * d)) < d then (impl_Queue_code.f d g (x0)).bind fun cb => (impl_Queue_code.f d g (Int.tmod (wrap64 (x0 + 1)) (wrap64 (2 * d)))).bind fun ce => (impl_Queue_code.f d g (x1)).bind fun cf => some (Int.tmod (wrap64 (x0 + 1)) (wrap64 (2 * d)), x1, cf, x3, Go.bits .xor .i64 (cb) (ce), x5, wrap64 (x6 + 1)) else (impl_Queue_code.f d g (x1)).bind fun cf => some (x0, x1, cf, x3, x4, x5, x6)
 else (impl_Queue_count.f k d g x3).bind fun cn => (impl_within.f (Int.tmod (wrap64 (wrap64 (cn - x1) + wrap64 (2 * d))) (wrap64 (2 * d))) 1 d).bind fun q => if q = true then (impl_Queue_code.f d g (x1)).bind fun cb => (impl_Queue_code.f d g (Int.tmod (wrap64 (x1 + 1)) (wrap64 (2 * d)))).bind fun ce => (impl_Queue_code.f d g (x0)).bind fun cf => some (x0, Int.tmod (wrap64 (x1 + 1)) (wrap64 (2 * d)), x2, cf, x4, Go.bits .xor .i64 (cb) (ce), wrap64 (x6 - 1)) else (impl_Queue_code.f d g (x0)).bind fun cf => some (x0, x1, x2, cf, x4, x5, x6)
theorem impl_queueState_step.calls (k : Nat) (gx : Nat) (x0 x1 x2 x3 x4 x5 x6 d g lt y0 y1 y2 y3 y4 y5 y6 : Int) (w : World) (hx : w.heap[gx]? = some (.cells #[.int .i64 x0, .int .i64 x1, .int .i64 x2, .int .i64 x3, .int .i64 x4, .int .i64 x5, .int .i64 x6] 48 (0, 0))) (h : impl_queueState_step.f k x0 x1 x2 x3 x4 x5 x6 d g lt = some (y0, y1, y2, y3, y4, y5, y6)) :
  Calls Tryd.prog 20 #[.pointer (some ⟨gx, 0, none⟩), .agg #[.int .i64 d, .int .i64 g], .int .u8 lt] w fun e w' => e = .returned (.tuple #[]) ∧ w'.heap[gx]? = some (.cells #[.int .i64 y0, .int .i64 y1, .int .i64 y2, .int .i64 y3, .int .i64 y4, .int .i64 y5, .int .i64 y6] 48 (0, 0)) ∧ Kept w w' (fun b => b = gx) ∧ Below 0 w w' := by
 unfold impl_queueState_step.f at h
 by_cases hR : wrap64 (2 * d) = 0
 ·rw [if_pos hR] at h; cases h
 rw [if_neg hR] at h
 by_cases hl : lt = 115
 ·rw [if_pos hl] at h
  obtain ⟨cn, hc, h1⟩ := Option.bind_eq_some_iff.mp h
  by_cases ht : Int.tmod (wrap64 (wrap64 (x0 - cn) + wrap64 (2 * d))) (wrap64 (2 * d)) < d
  ·rw [if_pos ht] at h1
   obtain ⟨cb, h2, h3⟩ := Option.bind_eq_some_iff.mp h1
   obtain ⟨ce, h4, h5⟩ := Option.bind_eq_some_iff.mp h3
   obtain ⟨cf, h6, h7⟩ := Option.bind_eq_some_iff.mp h5
   simp only [Option.some.injEq, Prod.mk.injEq] at h7
   obtain ⟨rfl, rfl, rfl, rfl, rfl, rfl, rfl⟩ := h7
   exact qstepA k gx x0 x1 x2 x3 x4 x5 x6 d g lt cn cb ce cf w hx hR hl hc ht h2 h4 h6
  ·rw [if_neg ht] at h1
   obtain ⟨cf, h6, h7⟩ := Option.bind_eq_some_iff.mp h1
   simp only [Option.some.injEq, Prod.mk.injEq] at h7
   obtain ⟨rfl, rfl, rfl, rfl, rfl, rfl, rfl⟩ := h7
   exact qstepB k gx x0 x1 x2 x3 x4 x5 x6 d g lt cn cf w hx hR hl hc ht h6
 ·rw [if_neg hl] at h
  obtain ⟨cn, hc, h1⟩ := Option.bind_eq_some_iff.mp h
  obtain ⟨q, hq, h2⟩ := Option.bind_eq_some_iff.mp h1
  cases q with
  | true =>
   rw [if_pos rfl] at h2
   obtain ⟨cb, h3, h4⟩ := Option.bind_eq_some_iff.mp h2
   obtain ⟨ce, h5, h6⟩ := Option.bind_eq_some_iff.mp h4
   obtain ⟨cf, h7, h8⟩ := Option.bind_eq_some_iff.mp h6
   simp only [Option.some.injEq, Prod.mk.injEq] at h8
   obtain ⟨rfl, rfl, rfl, rfl, rfl, rfl, rfl⟩ := h8
   exact qstepC k gx x0 x1 x2 x3 x4 x5 x6 d g lt cn cb ce cf w hx hR hl hc hq h3 h5 h7
  | false =>
   rw [if_neg (by decide)] at h2
   obtain ⟨cf, h7, h8⟩ := Option.bind_eq_some_iff.mp h2
   simp only [Option.some.injEq, Prod.mk.injEq] at h8
   obtain ⟨rfl, rfl, rfl, rfl, rfl, rfl, rfl⟩ := h8
   exact qstepD k gx x0 x1 x2 x3 x4 x5 x6 d g lt cn cf w hx hR hl hc hq h7

end Go.Proofs.YteccfnppbonniaaDoor.Pa

namespace Go.Proofs.YteccfnppbonniaaDoor.Pa
open Go.RowKit Go.Proofs.YteccfnppbonniaaDoorW.PrintWords Go.Proofs.YteccfnppbonniaaDoorW.PrintLast Go.Proofs.YteccfnppbonniaaDoorW.PrintMore
attribute [local go_sem] max2_int min2_int max_two min_two max_three min_three max_four min_four   -- for this text's walks alone
set_option linter.unusedVariables false
set_option linter.unusedSimpArgs false

/-! ### spec_l00In: function 29 -/
def spec_l00In.f (a0 : Int) (a1 : Int) (a2 : Int) : Option (Bool) := if a0 ≥ a1 then (some (decide (a0 ≤ a2))) else (some false)
set_option maxHeartbeats 8000000 in
set_option maxRecDepth 100000 in
theorem spec_l00In.calls (a0 : Int) (a1 : Int) (a2 : Int) (r : Bool) (w : World) (h : spec_l00In.f a0 a1 a2 = some r) :
  Calls Tryd.prog 29 #[.int .i64 a0, .int .i64 a1, .int .i64 a2] w fun e w' => e = .returned (.bool r) ∧ Drawn0 w w' := by
 have H : (if a0 ≥ a1 then (some (decide (a0 ≤ a2))) else (some false)) = some r := h
 clear h
 by_cases c4 : a0 ≥ a1
 ·rw [if_pos c4] at H
  have c4b0 : decide (a1 ≤ a0) = true := decide_eq_true c4
  clear c4
  obtain rfl := Option.some.inj H
  go_enter Tryd.func29, Tryd.ntmps29
  go_wp2
  go_ret
  exact ⟨by first | rfl | (simp; done) | (simp [*]; done), by repeat (first | exact Drawn0.refl _ | apply Drawn0.step)⟩
 ·rw [if_neg c4] at H
  have c4b0 : decide (a1 ≤ a0) = false := decide_eq_false c4
  clear c4
  obtain rfl := Option.some.inj H
  go_enter Tryd.func29, Tryd.ntmps29
  go_wp2
  go_ret
  exact ⟨by first | rfl | (simp; done) | (simp [*]; done), by repeat (first | exact Drawn0.refl _ | apply Drawn0.step)⟩

end Go.Proofs.YteccfnppbonniaaDoor.Pa

