-- Written for this claim by a program of this session.
import Derived.Test.YteccfnppbonniaaDoorPax0
import Derived.Test.YteccfnppbonniaaDoorCore2
import Derived.Test.YteccfnppbonniaaDoorCore1
import Derived.Lib.SlTrimSet
import Derived.Test.YteccfnppbonniaaDoorShelfT
import Derived.Shelf.Abstract
namespace Go.Proofs.YteccfnppbonniaaDoor.Pa
open Go.RowKit Go.Proofs.YteccfnppbonniaaDoorW.PrintWords Go.Proofs.YteccfnppbonniaaDoorW.PrintLast Go.Proofs.YteccfnppbonniaaDoorW.PrintMore
attribute [local go_sem] max2_int min2_int max_two min_two max_three min_three max_four min_four   -- for this text's walks alone
set_option linter.unusedVariables false
set_option linter.unusedSimpArgs false

/-- A state of type 27 at block g of W; what its slices lead to came in by w0. -/
def IsS27 (w0 W : World) (g : Nat) (f0 : Int) (f1 : Int) : Prop := W.heap[g]? = some (.cells #[.int .i64 f0, .int .i64 f1] 27 (0, 0)) ∧ w0.heap.size ≤ g
theorem IsS27.grown {w0 W : World} {g : Nat} {f0 : Int} {f1 : Int} {W1 : World} {row : Option Nat} (h : IsS27 w0 W g f0 f1) (hw : W.grownBy W1 row) (hne : some g ≠ row) : IsS27 w0 W1 g f0 f1 := by
 obtain ⟨hb, hg⟩ := h
 exact ⟨blk_grown hb hw hne, hg⟩
theorem IsS27.own_neN {w0 W : World} {g : Nat} {f0 : Int} {f1 : Int} {α : Type} {d : Kd α} {e : Nat} {base : Nat} {ok : Nat → Prop} {v : Value} {xs : List α} (h : IsS27 w0 W g f0 f1) (ho : Kd.N d e W base ok v xs) (ht : e ≠ 27) : some g ≠ v.ownBlock := by
 obtain ⟨hb, hg⟩ := h
 exact Kd.N_ne ho hb ht
theorem IsS27.fresh {w0 W : World} {g : Nat} {f0 : Int} {f1 : Int} (h : IsS27 w0 W g f0 f1) : ∀ k, W.heap.size ≤ k → k ≠ g := by
 obtain ⟨hb, hg⟩ := h
 exact Kd.freshB hb
theorem IsS27.kept {w0 W : World} {g : Nat} {f0 : Int} {f1 : Int} {W1 : World} {S : Nat → Prop} (h : IsS27 w0 W g f0 f1) (hk : Kept W W1 S) (hne : ¬ S g) : IsS27 w0 W1 g f0 f1 := by
 obtain ⟨hb, hg⟩ := h
 exact ⟨blk_kept hb hk hne, hg⟩
theorem IsS27.below {w0 W : World} {g : Nat} {f0 : Int} {f1 : Int} {W1 : World} (h : IsS27 w0 W g f0 f1) (hw : Below W.heap.size W W1) : IsS27 w0 W1 g f0 f1 := h.grown (grown_of_below hw none) (by simp)
theorem IsS27.alloc {w0 W : World} {g : Nat} {f0 : Int} {f1 : Int} (h : IsS27 w0 W g f0 f1) (o : Obj) : IsS27 w0 (W.alloc o) g f0 f1 := h.below (below_alloc (Below.refl _ _) o)
theorem IsS27.drewN {w0 W : World} {g : Nat} {f0 : Int} {f1 : Int} (h : IsS27 w0 W g f0 f1) (m : Nat) : IsS27 w0 (W.drewN m) g f0 f1 := h
theorem IsS27.drew {w0 W : World} {g : Nat} {f0 : Int} {f1 : Int} (h : IsS27 w0 W g f0 f1) : IsS27 w0 W.drew g f0 f1 := h
theorem IsS27.at_ {w0 W : World} {g : Nat} {f0 : Int} {f1 : Int} {w' : World} {m : Nat} (hq : W.drewN m = w') (h : IsS27 w0 W g f0 f1) : IsS27 w0 w' g f0 f1 := by subst hq; exact IsS27.drewN h m
theorem IsS27.apart {w0 W : World} {g : Nat} {f0 : Int} {f1 : Int} {α : Type} {d : Kd α} {e : Nat} {base : Nat} {ok : Nat → Prop} {v : Value} {xs : List α} (h : IsS27 w0 W g f0 f1) (ho : d.R e W base ok v xs) (ht : ∀ q, q ∈ e :: d.E → q ≠ 27) : d.R e W base (fun k => ok k ∧ k ≠ g) v xs := by
 obtain ⟨hb, hg⟩ := h
 exact Kd.R_types ho hb ht
theorem IsS27.own_ne {w0 W : World} {g : Nat} {f0 : Int} {f1 : Int} {α : Type} {d : Kd α} {e : Nat} {base : Nat} {ok : Nat → Prop} {v : Value} {xs : List α} (h : IsS27 w0 W g f0 f1) (ho : d.R e W base ok v xs) (ht : e ≠ 27) : some g ≠ v.ownBlock := by
 obtain ⟨hb, hg⟩ := h
 exact Kd.R_ne ho hb ht
theorem IsS27.apartQ {w0 W : World} {g : Nat} {f0 : Int} {f1 : Int} {α : Type} {d : Kd α} {e : Nat} {base : Nat} {ok : Nat → Prop} {v : Value} {xs : List α} (h : IsS27 w0 W g f0 f1) (ho : d.Q e W base ok v xs) (ht : ∀ q, q ∈ e :: d.E → q ≠ 27) : d.Q e W base (fun k => ok k ∧ k ≠ g) v xs := by
 obtain ⟨hb, hg⟩ := h
 exact Kd.Q_types ho hb ht
theorem IsS27.own_neQ {w0 W : World} {g : Nat} {f0 : Int} {f1 : Int} {α : Type} {d : Kd α} {e : Nat} {base : Nat} {ok : Nat → Prop} {v : Value} {xs : List α} (h : IsS27 w0 W g f0 f1) (ho : d.Q e W base ok v xs) (ht : e ≠ 27) : some g ≠ v.ownBlock := by
 obtain ⟨hb, hg⟩ := h
 exact Kd.Q_ne ho hb ht
theorem IsS27.apartS {w0 W : World} {g : Nat} {f0 : Int} {f1 : Int} {α : Type} {d : Kd α} {e : Nat} {base : Nat} {ok : Nat → Prop} {v : Value} {xs : List α} (h : IsS27 w0 W g f0 f1) (ho : d.S e W base ok v xs) (ht : ∀ q, q ∈ e :: d.E → q ≠ 27) : d.S e W base (fun k => ok k ∧ k ≠ g) v xs := by
 obtain ⟨hb, hg⟩ := h
 exact Kd.S_types ho hb ht
theorem IsS27.own_neS {w0 W : World} {g : Nat} {f0 : Int} {f1 : Int} {α : Type} {d : Kd α} {e : Nat} {base : Nat} {ok : Nat → Prop} {v : Value} {xs : List α} (h : IsS27 w0 W g f0 f1) (ho : d.S e W base ok v xs) (ht : e ≠ 27) : some g ≠ v.ownBlock := by
 obtain ⟨hb, hg⟩ := h
 exact Kd.S_ne ho hb ht
theorem IsS27.lt {w0 W : World} {g : Nat} {f0 : Int} {f1 : Int} (h : IsS27 w0 W g f0 f1) : g < W.heap.size := by
 obtain ⟨hb, hg⟩ := h
 exact blk_lt hb
theorem IsS27.ge {w0 W : World} {g : Nat} {f0 : Int} {f1 : Int} (h : IsS27 w0 W g f0 f1) : w0.heap.size ≤ g := by
 obtain ⟨hb, hg⟩ := h
 exact hg
theorem IsS27.ne_blk {w0 W : World} {g : Nat} {f0 : Int} {f1 : Int} {a : Nat} {cs : Array Value} {t : TypeId} {fr : Nat × Nat} (h : IsS27 w0 W g f0 f1) (hb2 : W.heap[a]? = some (.cells cs t fr)) (ht : t ≠ 27) : g ≠ a := by
 obtain ⟨hb, hg⟩ := h
 rintro rfl
 rw [hb] at hb2
 injection hb2 with hb2
 injection hb2 with _ ht2
 exact ht ht2.symm
theorem IsS27.far {w0 W : World} {g : Nat} {f0 : Int} {f1 : Int} {p : Addr} (h : IsS27 w0 W g f0 f1) (hne : g ≠ p.block) (u : Value) : IsS27 w0 (W.setCell p u) g f0 f1 := by
 obtain ⟨hb, hg⟩ := h
 exact ⟨blk_far hb hne u, hg⟩
theorem cellS27_0 {W : World} {g : Nat} {f0 : Int} {f1 : Int} (h : W.heap[g]? = some (.cells #[.int .i64 f0, .int .i64 f1] 27 (0, 0))) : W.cell? ⟨g, 0, none⟩ = some (.int .i64 f0) := (blk_cell h 0).trans rfl
theorem IsS27.set_0 {w0 W : World} {g : Nat} {f0 : Int} {f1 : Int} (h : IsS27 w0 W g f0 f1) (x : Int) : IsS27 w0 (W.setCell ⟨g, 0, none⟩ (.int .i64 x)) g x f1 := by
 obtain ⟨hb, hg⟩ := h
 exact ⟨by simpa using blk_set hb 0 (.int .i64 x), hg⟩
theorem cellS27_1 {W : World} {g : Nat} {f0 : Int} {f1 : Int} (h : W.heap[g]? = some (.cells #[.int .i64 f0, .int .i64 f1] 27 (0, 0))) : W.cell? ⟨g, 1, none⟩ = some (.int .i64 f1) := (blk_cell h 1).trans rfl
theorem IsS27.set_1 {w0 W : World} {g : Nat} {f0 : Int} {f1 : Int} (h : IsS27 w0 W g f0 f1) (x : Int) : IsS27 w0 (W.setCell ⟨g, 1, none⟩ (.int .i64 x)) g f0 x := by
 obtain ⟨hb, hg⟩ := h
 exact ⟨by simpa using blk_set hb 1 (.int .i64 x), hg⟩
theorem IsS27.new (w0 W : World) (f0 : Int) (f1 : Int) (hB : Below w0.heap.size w0 W) : IsS27 w0 (W.alloc (.cells #[.int .i64 f0, .int .i64 f1] 27)) W.heap.size f0 f1 := ⟨by simpa using heap_alloc_new W _, hB.size⟩

/-! ### spec_l05Queue: function 14 -/
def spec_l05Queue.f (s0_0 : Int) (s0_1 : Int) : Option (Bool × Int × Int) := if s0_0 = 2 then ((spec_l00In.f s0_1 0 1).bind fun t101 => (some (t101, s0_0, s0_1))) else (if s0_0 = 4 then ((spec_l00In.f s0_1 0 1).bind fun t102 => (some (t102, s0_0, s0_1))) else (some (false, s0_0, s0_1)))
set_option maxHeartbeats 8000000 in
set_option maxRecDepth 100000 in
theorem spec_l05Queue.calls (g : Nat) (s0_0 : Int) (s0_1 : Int) (r1 : Bool) (r2 : Int) (r3 : Int) (w0 w : World) (hI : IsS27 w0 w g s0_0 s0_1) (hB : Below w0.heap.size w0 w) (h : spec_l05Queue.f s0_0 s0_1 = some (r1, r2, r3)) :
  Calls Tryd.prog 14 #[.pointer (some ⟨g, 0, none⟩)] w fun e w' => e = .returned (.bool r1) ∧ IsS27 w0 w' g r2 r3 ∧ Below w0.heap.size w0 w' ∧ KeepBut w w' g none := by
 have HI0 := Aside0.mk hI
 have HK := Aside0.mk (KeepBut.refl w g none)
 have HL := Aside0.mk hB.size
 clear hI
 have HW0 := Aside0.mk hB.size
 have HB := Aside0.mk hB
 clear hB
 have H : (if s0_0 = 2 then ((spec_l00In.f s0_1 0 1).bind fun t101 => (some (t101, s0_0, s0_1))) else (if s0_0 = 4 then ((spec_l00In.f s0_1 0 1).bind fun t102 => (some (t102, s0_0, s0_1))) else (some (false, s0_0, s0_1)))) = some (r1, r2, r3) := h
 clear h
 by_cases c2 : s0_0 = 2
 ·rw [if_pos c2] at H
  have c2b0 : (s0_0 == 2) = true := beq_iff_eq.mpr c2
  have c2b1 : (s0_0 != 2) = false := bne_eq_false_iff_eq.mpr c2
  clear c2
  replace H := Option.bind_eq_some_iff.mp H
  obtain ⟨t101, A30, H⟩ := H
  replace H : (some (t101, s0_0, s0_1)) = some (r1, r2, r3) := H
  have A3 := Aside0.mk A30
  clear A30
  simp only [Option.some.injEq, Prod.mk.injEq] at H
  obtain ⟨rfl, rfl, rfl⟩ := H
  obtain ⟨HGz4, hgz4⟩ := HI0.out
  have hcz4_0 := cellS27_0 HGz4
  have hcz4_1 := cellS27_1 HGz4
  have hfz4_0 := blk_frozen HGz4 0
  have hfz4_1 := blk_frozen HGz4 1
  clear HGz4 hgz4
  go_enter Tryd.func14, Tryd.ntmps14
  go_wp2_with (first | (go_at_call 29; (with_reducible refine (spec_l00In.calls s0_1 0 1 t101 _ A3.out).mono ?_); rintro e w' ⟨rfl, ⟨nd, rfl⟩⟩))
  go_ret
  exact ⟨by first | rfl | (simp [errW_none, errW_some] <;> rfl) | (simp [*, errW_none, errW_some] <;> rfl), by repeat (first | (with_reducible first | exact HI0.out | apply IsS27.alloc | apply IsS27.drewN | apply IsS27.drew | apply IsS27.set_0 | apply IsS27.set_1) | exact HI0.out), by repeat (first | (with_reducible first | exact HB.out | apply below_alloc | apply pw_below_drewN | apply below_drew1 | refine below_set ?_ (IsS27.ge HI0.out)) | exact HB.out), by repeat (first | (with_reducible first | exact HK.out | apply KeepBut.set_ | apply keep_drewN | apply keep_drew | apply keep_alloc) | exact HK.out)⟩
 ·rw [if_neg c2] at H
  have c2b0 : (s0_0 == 2) = false := beq_eq_false_iff_ne.mpr c2
  have c2b1 : (s0_0 != 2) = true := bne_iff_ne.mpr c2
  by_cases c5 : s0_0 = 4
  ·rw [if_pos c5] at H
   have c5b0 : (s0_0 == 4) = true := beq_iff_eq.mpr c5
   have c5b1 : (s0_0 != 4) = false := bne_eq_false_iff_eq.mpr c5
   clear c5
   replace H := Option.bind_eq_some_iff.mp H
   obtain ⟨t102, A60, H⟩ := H
   replace H : (some (t102, s0_0, s0_1)) = some (r1, r2, r3) := H
   have A6 := Aside0.mk A60
   clear A60
   simp only [Option.some.injEq, Prod.mk.injEq] at H
   obtain ⟨rfl, rfl, rfl⟩ := H
   obtain ⟨HGz7, hgz7⟩ := HI0.out
   have hcz7_0 := cellS27_0 HGz7
   have hcz7_1 := cellS27_1 HGz7
   have hfz7_0 := blk_frozen HGz7 0
   have hfz7_1 := blk_frozen HGz7 1
   clear HGz7 hgz7
   go_enter Tryd.func14, Tryd.ntmps14
   go_wp2_with (first | (go_at_call 29; (with_reducible refine (spec_l00In.calls s0_1 0 1 t102 _ A6.out).mono ?_); rintro e w' ⟨rfl, ⟨nd, rfl⟩⟩))
   go_ret
   exact ⟨by first | rfl | (simp [errW_none, errW_some] <;> rfl) | (simp [*, errW_none, errW_some] <;> rfl), by repeat (first | (with_reducible first | exact HI0.out | apply IsS27.alloc | apply IsS27.drewN | apply IsS27.drew | apply IsS27.set_0 | apply IsS27.set_1) | exact HI0.out), by repeat (first | (with_reducible first | exact HB.out | apply below_alloc | apply pw_below_drewN | apply below_drew1 | refine below_set ?_ (IsS27.ge HI0.out)) | exact HB.out), by repeat (first | (with_reducible first | exact HK.out | apply KeepBut.set_ | apply keep_drewN | apply keep_drew | apply keep_alloc) | exact HK.out)⟩
  ·rw [if_neg c5] at H
   have c5b0 : (s0_0 == 4) = false := beq_eq_false_iff_ne.mpr c5
   have c5b1 : (s0_0 != 4) = true := bne_iff_ne.mpr c5
   simp only [Option.some.injEq, Prod.mk.injEq] at H
   obtain ⟨rfl, rfl, rfl⟩ := H
   obtain ⟨HGz8, hgz8⟩ := HI0.out
   have hcz8_0 := cellS27_0 HGz8
   have hcz8_1 := cellS27_1 HGz8
   have hfz8_0 := blk_frozen HGz8 0
   have hfz8_1 := blk_frozen HGz8 1
   clear HGz8 hgz8
   go_enter Tryd.func14, Tryd.ntmps14
   go_wp2
   go_ret
   exact ⟨by first | rfl | (simp [errW_none, errW_some] <;> rfl) | (simp [*, errW_none, errW_some] <;> rfl), by repeat (first | (with_reducible first | exact HI0.out | apply IsS27.alloc | apply IsS27.drewN | apply IsS27.drew | apply IsS27.set_0 | apply IsS27.set_1) | exact HI0.out), by repeat (first | (with_reducible first | exact HB.out | apply below_alloc | apply pw_below_drewN | apply below_drew1 | refine below_set ?_ (IsS27.ge HI0.out)) | exact HB.out), by repeat (first | (with_reducible first | exact HK.out | apply KeepBut.set_ | apply keep_drewN | apply keep_drew | apply keep_alloc) | exact HK.out)⟩

end Go.Proofs.YteccfnppbonniaaDoor.Pa

namespace Go.Proofs.YteccfnppbonniaaDoor.Pa
open Go.RowKit Go.Proofs.YteccfnppbonniaaDoorW.PrintWords Go.Proofs.YteccfnppbonniaaDoorW.PrintLast Go.Proofs.YteccfnppbonniaaDoorW.PrintMore
attribute [local go_sem] max2_int min2_int max_two min_two max_three min_three max_four min_four   -- for this text's walks alone
set_option linter.unusedVariables false
set_option linter.unusedSimpArgs false

/-! ### spec_l05Code: function 31 -/
def spec_l05Code.f (s0_0 : Int) (s0_1 : Int) (a1 : Int) : Option (Int × Int × Int) := if (wrap64 (2 * s0_0)) = 0 then (none) else (if s0_1 = 1 then (some (Go.bits .xor .i64 (Int.tmod a1 (wrap64 (2 * s0_0))) ((Int.tmod a1 (wrap64 (2 * s0_0))) / 2), s0_0, s0_1)) else (some (Int.tmod a1 (wrap64 (2 * s0_0)), s0_0, s0_1)))
set_option maxHeartbeats 8000000 in
set_option maxRecDepth 100000 in
theorem spec_l05Code.calls (g : Nat) (s0_0 : Int) (s0_1 : Int) (a1 : Int) (r1 : Int) (r2 : Int) (r3 : Int) (w0 w : World) (hI : IsS27 w0 w g s0_0 s0_1) (hB : Below w0.heap.size w0 w) (h : spec_l05Code.f s0_0 s0_1 a1 = some (r1, r2, r3)) :
  Calls Tryd.prog 31 #[.pointer (some ⟨g, 0, none⟩), .int .i64 a1] w fun e w' => e = .returned (.int .i64 r1) ∧ IsS27 w0 w' g r2 r3 ∧ Below w0.heap.size w0 w' ∧ KeepBut w w' g none := by
 have HI0 := Aside0.mk hI
 have HK := Aside0.mk (KeepBut.refl w g none)
 have HL := Aside0.mk hB.size
 clear hI
 have HW0 := Aside0.mk hB.size
 have HB := Aside0.mk hB
 clear hB
 have H : (if (wrap64 (2 * s0_0)) = 0 then (none) else (if s0_1 = 1 then (some (Go.bits .xor .i64 (Int.tmod a1 (wrap64 (2 * s0_0))) ((Int.tmod a1 (wrap64 (2 * s0_0))) / 2), s0_0, s0_1)) else (some (Int.tmod a1 (wrap64 (2 * s0_0)), s0_0, s0_1)))) = some (r1, r2, r3) := h
 clear h
 by_cases c3 : (wrap64 (2 * s0_0)) = 0
 ·rw [if_pos c3] at H
  exact absurd H (by simp)
 ·rw [if_neg c3] at H
  have c3b0 : ((wrap64 (2 * s0_0)) == 0) = false := beq_eq_false_iff_ne.mpr c3
  have c3b1 : ((wrap64 (2 * s0_0)) != 0) = true := bne_iff_ne.mpr c3
  by_cases c4 : s0_1 = 1
  ·rw [if_pos c4] at H
   have c4b0 : (s0_1 == 1) = true := beq_iff_eq.mpr c4
   have c4b1 : (s0_1 != 1) = false := bne_eq_false_iff_eq.mpr c4
   clear c4
   simp only [Option.some.injEq, Prod.mk.injEq] at H
   obtain ⟨rfl, rfl, rfl⟩ := H
   obtain ⟨HGz5, hgz5⟩ := HI0.out
   have hcz5_0 := cellS27_0 HGz5
   have hcz5_1 := cellS27_1 HGz5
   have hfz5_0 := blk_frozen HGz5 0
   have hfz5_1 := blk_frozen HGz5 1
   clear HGz5 hgz5
   go_enter Tryd.func31, Tryd.ntmps31
   go_wp2
   go_ret
   exact ⟨by first | rfl | (simp [errW_none, errW_some] <;> rfl) | (simp [*, errW_none, errW_some] <;> rfl), by repeat (first | (with_reducible first | exact HI0.out | apply IsS27.alloc | apply IsS27.drewN | apply IsS27.drew | apply IsS27.set_0 | apply IsS27.set_1) | exact HI0.out), by repeat (first | (with_reducible first | exact HB.out | apply below_alloc | apply pw_below_drewN | apply below_drew1 | refine below_set ?_ (IsS27.ge HI0.out)) | exact HB.out), by repeat (first | (with_reducible first | exact HK.out | apply KeepBut.set_ | apply keep_drewN | apply keep_drew | apply keep_alloc) | exact HK.out)⟩
  ·rw [if_neg c4] at H
   have c4b0 : (s0_1 == 1) = false := beq_eq_false_iff_ne.mpr c4
   have c4b1 : (s0_1 != 1) = true := bne_iff_ne.mpr c4
   simp only [Option.some.injEq, Prod.mk.injEq] at H
   obtain ⟨rfl, rfl, rfl⟩ := H
   obtain ⟨HGz6, hgz6⟩ := HI0.out
   have hcz6_0 := cellS27_0 HGz6
   have hcz6_1 := cellS27_1 HGz6
   have hfz6_0 := blk_frozen HGz6 0
   have hfz6_1 := blk_frozen HGz6 1
   clear HGz6 hgz6
   go_enter Tryd.func31, Tryd.ntmps31
   go_wp2
   go_ret
   exact ⟨by first | rfl | (simp [errW_none, errW_some] <;> rfl) | (simp [*, errW_none, errW_some] <;> rfl), by repeat (first | (with_reducible first | exact HI0.out | apply IsS27.alloc | apply IsS27.drewN | apply IsS27.drew | apply IsS27.set_0 | apply IsS27.set_1) | exact HI0.out), by repeat (first | (with_reducible first | exact HB.out | apply below_alloc | apply pw_below_drewN | apply below_drew1 | refine below_set ?_ (IsS27.ge HI0.out)) | exact HB.out), by repeat (first | (with_reducible first | exact HK.out | apply KeepBut.set_ | apply keep_drewN | apply keep_drew | apply keep_alloc) | exact HK.out)⟩

end Go.Proofs.YteccfnppbonniaaDoor.Pa

namespace Go.Proofs.YteccfnppbonniaaDoor.Pa
open Go.RowKit Go.Proofs.YteccfnppbonniaaDoorW.PrintWords Go.Proofs.YteccfnppbonniaaDoorW.PrintLast Go.Proofs.YteccfnppbonniaaDoorW.PrintMore
attribute [local go_sem] max2_int min2_int max_two min_two max_three min_three max_four min_four   -- for this text's walks alone
set_option linter.unusedVariables false
set_option linter.unusedSimpArgs false

/-! ### spec_l05Count: function 30 -/
def spec_l05Count.l0 : Nat → Int → Int → Int → Int → Option (Int × Int × Int)
 | 0, _, _, _, _ => none
 | k + 1, x1, x5, x1000, x1001 => if x5 < (wrap64 (2 * x1000)) then ((spec_l05Code.f x1000 x1001 x5).bind fun bt103 => (if bt103.1 = x1 then (some (x5, bt103.2.1, bt103.2.2)) else (spec_l05Count.l0 k x1 (wrap64 (x5 + 1)) bt103.2.1 bt103.2.2))) else (some (0, x1000, x1001))
def spec_l05Count.f (k : Nat) (s0_0 : Int) (s0_1 : Int) (a1 : Int) : Option (Int × Int × Int) := spec_l05Count.l0 k a1 0 s0_0 s0_1
theorem spec_l05Count.mono_l : ∀ k, (∀ y0 y1 y2 y3, LeO (spec_l05Count.l0 k y0 y1 y2 y3) (spec_l05Count.l0 (k + 1) y0 y1 y2 y3))
 | 0 => fun _ _ _ _ r h => by simp [spec_l05Count.l0] at h
 | k + 1 => by
  have ih0 := spec_l05Count.mono_l k
  ·intro y0 y1 y2 y3
   unfold spec_l05Count.l0
   repeat' first
   | (with_reducible exact ih0 _ _ _ _)
   | (with_reducible exact LeO.refl _)
   | (with_reducible exact LeO.none _)
   | (with_reducible refine LeO.ite ?_ ?_)
   | (with_reducible refine LeO.bind ?_ (fun _ => ?_))
   | exact ih0 _ _ _ _
   | exact LeO.none _
   | refine LeO.ite ?_ ?_
   | refine LeO.bind ?_ (fun _ => ?_)
theorem spec_l05Count.mono : ∀ a0 a1 a2 k, LeO (spec_l05Count.f k a0 a1 a2) (spec_l05Count.f (k + 1) a0 a1 a2) := by
 intro a0 a1 a2 k
 have ih0 := spec_l05Count.mono_l k
 unfold spec_l05Count.f
 repeat' first
   | (with_reducible exact ih0 _ _ _ _)
   | (with_reducible exact LeO.refl _)
   | (with_reducible exact LeO.none _)
   | (with_reducible refine LeO.ite ?_ ?_)
   | (with_reducible refine LeO.bind ?_ (fun _ => ?_))
   | exact ih0 _ _ _ _
   | exact LeO.none _
   | refine LeO.ite ?_ ?_
   | refine LeO.bind ?_ (fun _ => ?_)
set_option maxHeartbeats 8000000 in
set_option maxRecDepth 100000 in
theorem spec_l05Count.calls (k : Nat) (g : Nat) (s0_0 : Int) (s0_1 : Int) (a1 : Int) (r1 : Int) (r2 : Int) (r3 : Int) (w0 w : World) (hI : IsS27 w0 w g s0_0 s0_1) (hB : Below w0.heap.size w0 w) (h : spec_l05Count.f k s0_0 s0_1 a1 = some (r1, r2, r3)) :
  Calls Tryd.prog 30 #[.pointer (some ⟨g, 0, none⟩), .int .i64 a1] w fun e w' => e = .returned (.int .i64 r1) ∧ IsS27 w0 w' g r2 r3 ∧ Below w0.heap.size w0 w' ∧ KeepBut w w' g none := by
 have HI0 := Aside0.mk hI
 have HK := Aside0.mk (KeepBut.refl w g none)
 have HL := Aside0.mk hB.size
 clear hI
 have HW0 := Aside0.mk hB.size
 have HB := Aside0.mk hB
 clear hB
 have H : (spec_l05Count.l0 k a1 0 s0_0 s0_1) = some (r1, r2, r3) := h
 clear h
 have H' := Aside0.mk H
 clear H
 go_enter Tryd.func30, Tryd.ntmps30
 go_wp2
 go_loopg [5] k (fun kq v5 w' => ∃ (x5_1 : Int) (x1000_1 : Int) (x1001_1 : Int), v5 = .int .i64 x5_1 ∧ Aside0 (spec_l05Count.l0 kq a1 x5_1 x1000_1 x1001_1 = some (r1, r2, r3)) ∧ Aside0 (kq ≤ k) ∧ Aside0 (IsS27 w0 w' g x1000_1 x1001_1) ∧ Aside0 (KeepBut w w' g none) ∧ Aside0 (Below w0.heap.size w0 w'))
 case atStart => exact ⟨(0), (s0_0), (s0_1), (by first | rfl | (simp; done) | (simp [*]; done)), H', ⟨Nat.le_refl _⟩, ⟨by repeat (first | (with_reducible first | exact HI0.out | apply IsS27.alloc | apply IsS27.drewN | apply IsS27.drew | apply IsS27.set_0 | apply IsS27.set_1) | exact HI0.out)⟩, ⟨by repeat (first | (with_reducible first | exact HK.out | apply KeepBut.set_ | apply keep_drewN | apply keep_drew | apply keep_alloc) | exact HK.out)⟩, ⟨by repeat (first | (with_reducible first | exact HB.out | apply below_alloc | apply pw_below_drewN | apply below_drew1 | refine below_set ?_ (IsS27.ge HI0.out)) | exact HB.out)⟩⟩
 case round =>
  clear H'
  try clear p2
  obtain ⟨x5_1, x1000_1, x1001_1, rfl, HA, HK1, HI0, HK, HB⟩ := hrel
  cases gk with
  | zero => exact absurd HA.out (by simp [spec_l05Count.l0])
  | succ k1 =>
   have H := HA.out
   clear HA
   simp only [spec_l05Count.l0] at H
   by_cases c3 : x5_1 < (wrap64 (2 * x1000_1))
   ·rw [if_pos c3] at H
    have c3b0 : decide (x5_1 < (wrap64 (2 * x1000_1))) = true := decide_eq_true c3
    clear c3
    replace H := Option.bind_eq_some_iff.mp H
    obtain ⟨⟨t103, t104, t105⟩, A40, H⟩ := H
    replace H : (if t103 = a1 then (some (x5_1, t104, t105)) else (spec_l05Count.l0 k1 a1 (wrap64 (x5_1 + 1)) t104 t105)) = some (r1, r2, r3) := H
    have A4 := Aside0.mk A40
    clear A40
    by_cases c5 : t103 = a1
    ·rw [if_pos c5] at H
     have c5b0 : (t103 == a1) = true := beq_iff_eq.mpr c5
     have c5b1 : (t103 != a1) = false := bne_eq_false_iff_eq.mpr c5
     clear c5
     simp only [Option.some.injEq, Prod.mk.injEq] at H
     obtain ⟨rfl, rfl, rfl⟩ := H
     obtain ⟨HGz6, hgz6⟩ := HI0.out
     have hcz6_0 := cellS27_0 HGz6
     have hcz6_1 := cellS27_1 HGz6
     have hfz6_0 := blk_frozen HGz6 0
     have hfz6_1 := blk_frozen HGz6 1
     clear HGz6 hgz6
     go_wp2_with (first | ((with_reducible refine gate_callee (f := 31) rfl ?_); refine goesL_ (some 17) rfl rfl Tryd.func31 (by kernel_rfl) rfl #[.pointer (some ⟨g, 0, none⟩), .int .i64 x5_1] rfl (by (try simp only [List.map_toArray, List.map_cons, List.map_nil]); first | done | rfl | (simp only [List.length_drop, List.length_take]; rfl)) ?_; (with_reducible refine (spec_l05Code.calls g x1000_1 x1001_1 x5_1 t103 t104 t105 w0 _ ?side1 ?side2 A4.out).mono ?_); (case side1 => repeat (first | (with_reducible first | exact HI0.out | apply IsS27.alloc | apply IsS27.drewN | apply IsS27.drew | apply IsS27.set_0 | apply IsS27.set_1) | exact HI0.out)); (case side2 => repeat (first | (with_reducible first | exact HB.out | apply below_alloc | apply pw_below_drewN | apply below_drew1 | refine below_set ?_ (IsS27.ge HI0.out)) | exact HB.out)); rintro e w7 ⟨rfl, hi, hb, hk⟩; refine ⟨_, rfl, ?_⟩; have n0_ := Aside0.mk (KeepBut.trans (by repeat (first | (with_reducible first | exact HK.out | apply KeepBut.set_ | apply keep_drewN | apply keep_drew | apply keep_alloc) | exact HK.out)) hk (.inl rfl)); have n1_ := Aside0.mk (hb); have n2_ := Aside0.mk (hi); clear HK; clear HB; clear HI0; have HK := n0_; have HB := n1_; have HI0 := n2_; clear n0_ n1_ n2_; (try clear hb); (try clear hb2); (try clear hk); (try clear hi)))
     go_ret
     exact ⟨by first | rfl | (simp [errW_none, errW_some] <;> rfl) | (simp [*, errW_none, errW_some] <;> rfl), by repeat (first | (with_reducible first | exact HI0.out | apply IsS27.alloc | apply IsS27.drewN | apply IsS27.drew | apply IsS27.set_0 | apply IsS27.set_1) | exact HI0.out), by repeat (first | (with_reducible first | exact HB.out | apply below_alloc | apply pw_below_drewN | apply below_drew1 | refine below_set ?_ (IsS27.ge HI0.out)) | exact HB.out), by repeat (first | (with_reducible first | exact HK.out | apply KeepBut.set_ | apply keep_drewN | apply keep_drew | apply keep_alloc) | exact HK.out)⟩
    ·rw [if_neg c5] at H
     have c5b0 : (t103 == a1) = false := beq_eq_false_iff_ne.mpr c5
     have c5b1 : (t103 != a1) = true := bne_iff_ne.mpr c5
     have H' := Aside0.mk H
     clear H
     obtain ⟨HGz8, hgz8⟩ := HI0.out
     have hcz8_0 := cellS27_0 HGz8
     have hcz8_1 := cellS27_1 HGz8
     have hfz8_0 := blk_frozen HGz8 0
     have hfz8_1 := blk_frozen HGz8 1
     clear HGz8 hgz8
     go_wp2_with (first | ((with_reducible refine gate_callee (f := 31) rfl ?_); refine goesL_ (some 17) rfl rfl Tryd.func31 (by kernel_rfl) rfl #[.pointer (some ⟨g, 0, none⟩), .int .i64 x5_1] rfl (by (try simp only [List.map_toArray, List.map_cons, List.map_nil]); first | done | rfl | (simp only [List.length_drop, List.length_take]; rfl)) ?_; (with_reducible refine (spec_l05Code.calls g x1000_1 x1001_1 x5_1 t103 t104 t105 w0 _ ?side1 ?side2 A4.out).mono ?_); (case side1 => repeat (first | (with_reducible first | exact HI0.out | apply IsS27.alloc | apply IsS27.drewN | apply IsS27.drew | apply IsS27.set_0 | apply IsS27.set_1) | exact HI0.out)); (case side2 => repeat (first | (with_reducible first | exact HB.out | apply below_alloc | apply pw_below_drewN | apply below_drew1 | refine below_set ?_ (IsS27.ge HI0.out)) | exact HB.out)); rintro e w9 ⟨rfl, hi, hb, hk⟩; refine ⟨_, rfl, ?_⟩; have n0_ := Aside0.mk (KeepBut.trans (by repeat (first | (with_reducible first | exact HK.out | apply KeepBut.set_ | apply keep_drewN | apply keep_drew | apply keep_alloc) | exact HK.out)) hk (.inl rfl)); have n1_ := Aside0.mk (hb); have n2_ := Aside0.mk (hi); clear HK; clear HB; clear HI0; have HK := n0_; have HB := n1_; have HI0 := n2_; clear n0_ n1_ n2_; (try clear hb); (try clear hb2); (try clear hk); (try clear hi)))
     go_roundg k1
     case measure => have := HK1.out; omega
     case rel => exact ⟨(wrap64 (x5_1 + 1)), (t104), (t105), (by first | rfl | (simp; done) | (simp [*]; done)), H', ⟨by have := HK1.out; omega⟩, ⟨by repeat (first | (with_reducible first | exact HI0.out | apply IsS27.alloc | apply IsS27.drewN | apply IsS27.drew | apply IsS27.set_0 | apply IsS27.set_1) | exact HI0.out)⟩, ⟨by repeat (first | (with_reducible first | exact HK.out | apply KeepBut.set_ | apply keep_drewN | apply keep_drew | apply keep_alloc) | exact HK.out)⟩, ⟨by repeat (first | (with_reducible first | exact HB.out | apply below_alloc | apply pw_below_drewN | apply below_drew1 | refine below_set ?_ (IsS27.ge HI0.out)) | exact HB.out)⟩⟩
   ·rw [if_neg c3] at H
    have c3b0 : decide (x5_1 < (wrap64 (2 * x1000_1))) = false := decide_eq_false c3
    clear c3
    simp only [Option.some.injEq, Prod.mk.injEq] at H
    obtain ⟨rfl, rfl, rfl⟩ := H
    obtain ⟨HGz10, hgz10⟩ := HI0.out
    have hcz10_0 := cellS27_0 HGz10
    have hcz10_1 := cellS27_1 HGz10
    have hfz10_0 := blk_frozen HGz10 0
    have hfz10_1 := blk_frozen HGz10 1
    clear HGz10 hgz10
    go_wp2
    go_ret
    exact ⟨by first | rfl | (simp [errW_none, errW_some] <;> rfl) | (simp [*, errW_none, errW_some] <;> rfl), by repeat (first | (with_reducible first | exact HI0.out | apply IsS27.alloc | apply IsS27.drewN | apply IsS27.drew | apply IsS27.set_0 | apply IsS27.set_1) | exact HI0.out), by repeat (first | (with_reducible first | exact HB.out | apply below_alloc | apply pw_below_drewN | apply below_drew1 | refine below_set ?_ (IsS27.ge HI0.out)) | exact HB.out), by repeat (first | (with_reducible first | exact HK.out | apply KeepBut.set_ | apply keep_drewN | apply keep_drew | apply keep_alloc) | exact HK.out)⟩

end Go.Proofs.YteccfnppbonniaaDoor.Pa

namespace Go.Proofs.YteccfnppbonniaaDoor.Pa
open Go.RowKit Go.Proofs.YteccfnppbonniaaDoorW.PrintWords Go.Proofs.YteccfnppbonniaaDoorW.PrintLast Go.Proofs.YteccfnppbonniaaDoorW.PrintMore
attribute [local go_sem] max2_int min2_int max_two min_two max_three min_three max_four min_four   -- for this text's walks alone
set_option linter.unusedVariables false
set_option linter.unusedSimpArgs false

/-! ### AUX keepX -/
theorem keepX {w w' : World} {gq : Nat} (gx : Nat) {o : Obj} (hk : KeepBut w w' gq none) (h1 : w.heap[gq]? = some o) (h2 : w'.heap[gq]? = some o) : Kept w w' (fun b => b = gx) :=
 ⟨hk.1, fun i hi _ => by
  by_cases c : i = gq
  ·subst c; rw [h1, h2]
  ·exact hk.2 i hi c (by simp)⟩
theorem below_keptX {w0 w w' : World} {gx : Nat} (h : Below w0.heap.size w0 w) (hz : Below 0 w w') (hk : Kept w w' (fun b => b = gx)) (hg : w0.heap.size ≤ gx) : Below w0.heap.size w0 w' :=
 ⟨hz.os.trans h.os, hz.tape.trans h.tape, hz.output.trans h.output, Nat.le_trans h.size hz.size, fun i hi => (hk.2 i (Nat.lt_of_lt_of_le hi h.size) (by omega)).trans (h.block i hi)⟩

end Go.Proofs.YteccfnppbonniaaDoor.Pa

namespace Go.Proofs.YteccfnppbonniaaDoor.Pa
open Go.RowKit Go.Proofs.YteccfnppbonniaaDoorW.PrintWords Go.Proofs.YteccfnppbonniaaDoorW.PrintLast Go.Proofs.YteccfnppbonniaaDoorW.PrintMore
attribute [local go_sem] max2_int min2_int max_two min_two max_three min_three max_four min_four   -- for this text's walks alone
set_option linter.unusedVariables false
set_option linter.unusedSimpArgs false

/-- A state of type 43 at block g of W; what its slices lead to came in by w0. -/
def IsS43 (w0 W : World) (g : Nat) (f0 : Int) (f1 : Int) (f2 : Int) (f3 : Int) (f4 : Int) (f5 : Int) (f6 : Int) : Prop := W.heap[g]? = some (.cells #[.int .i64 f0, .int .i64 f1, .int .i64 f2, .int .i64 f3, .int .i64 f4, .int .i64 f5, .int .i64 f6] 43 (0, 0)) ∧ w0.heap.size ≤ g
theorem IsS43.grown {w0 W : World} {g : Nat} {f0 : Int} {f1 : Int} {f2 : Int} {f3 : Int} {f4 : Int} {f5 : Int} {f6 : Int} {W1 : World} {row : Option Nat} (h : IsS43 w0 W g f0 f1 f2 f3 f4 f5 f6) (hw : W.grownBy W1 row) (hne : some g ≠ row) : IsS43 w0 W1 g f0 f1 f2 f3 f4 f5 f6 := by
 obtain ⟨hb, hg⟩ := h
 exact ⟨blk_grown hb hw hne, hg⟩
theorem IsS43.own_neN {w0 W : World} {g : Nat} {f0 : Int} {f1 : Int} {f2 : Int} {f3 : Int} {f4 : Int} {f5 : Int} {f6 : Int} {α : Type} {d : Kd α} {e : Nat} {base : Nat} {ok : Nat → Prop} {v : Value} {xs : List α} (h : IsS43 w0 W g f0 f1 f2 f3 f4 f5 f6) (ho : Kd.N d e W base ok v xs) (ht : e ≠ 43) : some g ≠ v.ownBlock := by
 obtain ⟨hb, hg⟩ := h
 exact Kd.N_ne ho hb ht
theorem IsS43.fresh {w0 W : World} {g : Nat} {f0 : Int} {f1 : Int} {f2 : Int} {f3 : Int} {f4 : Int} {f5 : Int} {f6 : Int} (h : IsS43 w0 W g f0 f1 f2 f3 f4 f5 f6) : ∀ k, W.heap.size ≤ k → k ≠ g := by
 obtain ⟨hb, hg⟩ := h
 exact Kd.freshB hb
theorem IsS43.kept {w0 W : World} {g : Nat} {f0 : Int} {f1 : Int} {f2 : Int} {f3 : Int} {f4 : Int} {f5 : Int} {f6 : Int} {W1 : World} {S : Nat → Prop} (h : IsS43 w0 W g f0 f1 f2 f3 f4 f5 f6) (hk : Kept W W1 S) (hne : ¬ S g) : IsS43 w0 W1 g f0 f1 f2 f3 f4 f5 f6 := by
 obtain ⟨hb, hg⟩ := h
 exact ⟨blk_kept hb hk hne, hg⟩
theorem IsS43.below {w0 W : World} {g : Nat} {f0 : Int} {f1 : Int} {f2 : Int} {f3 : Int} {f4 : Int} {f5 : Int} {f6 : Int} {W1 : World} (h : IsS43 w0 W g f0 f1 f2 f3 f4 f5 f6) (hw : Below W.heap.size W W1) : IsS43 w0 W1 g f0 f1 f2 f3 f4 f5 f6 := h.grown (grown_of_below hw none) (by simp)
theorem IsS43.alloc {w0 W : World} {g : Nat} {f0 : Int} {f1 : Int} {f2 : Int} {f3 : Int} {f4 : Int} {f5 : Int} {f6 : Int} (h : IsS43 w0 W g f0 f1 f2 f3 f4 f5 f6) (o : Obj) : IsS43 w0 (W.alloc o) g f0 f1 f2 f3 f4 f5 f6 := h.below (below_alloc (Below.refl _ _) o)
theorem IsS43.drewN {w0 W : World} {g : Nat} {f0 : Int} {f1 : Int} {f2 : Int} {f3 : Int} {f4 : Int} {f5 : Int} {f6 : Int} (h : IsS43 w0 W g f0 f1 f2 f3 f4 f5 f6) (m : Nat) : IsS43 w0 (W.drewN m) g f0 f1 f2 f3 f4 f5 f6 := h
theorem IsS43.drew {w0 W : World} {g : Nat} {f0 : Int} {f1 : Int} {f2 : Int} {f3 : Int} {f4 : Int} {f5 : Int} {f6 : Int} (h : IsS43 w0 W g f0 f1 f2 f3 f4 f5 f6) : IsS43 w0 W.drew g f0 f1 f2 f3 f4 f5 f6 := h
theorem IsS43.at_ {w0 W : World} {g : Nat} {f0 : Int} {f1 : Int} {f2 : Int} {f3 : Int} {f4 : Int} {f5 : Int} {f6 : Int} {w' : World} {m : Nat} (hq : W.drewN m = w') (h : IsS43 w0 W g f0 f1 f2 f3 f4 f5 f6) : IsS43 w0 w' g f0 f1 f2 f3 f4 f5 f6 := by subst hq; exact IsS43.drewN h m
theorem IsS43.apart {w0 W : World} {g : Nat} {f0 : Int} {f1 : Int} {f2 : Int} {f3 : Int} {f4 : Int} {f5 : Int} {f6 : Int} {α : Type} {d : Kd α} {e : Nat} {base : Nat} {ok : Nat → Prop} {v : Value} {xs : List α} (h : IsS43 w0 W g f0 f1 f2 f3 f4 f5 f6) (ho : d.R e W base ok v xs) (ht : ∀ q, q ∈ e :: d.E → q ≠ 43) : d.R e W base (fun k => ok k ∧ k ≠ g) v xs := by
 obtain ⟨hb, hg⟩ := h
 exact Kd.R_types ho hb ht
theorem IsS43.own_ne {w0 W : World} {g : Nat} {f0 : Int} {f1 : Int} {f2 : Int} {f3 : Int} {f4 : Int} {f5 : Int} {f6 : Int} {α : Type} {d : Kd α} {e : Nat} {base : Nat} {ok : Nat → Prop} {v : Value} {xs : List α} (h : IsS43 w0 W g f0 f1 f2 f3 f4 f5 f6) (ho : d.R e W base ok v xs) (ht : e ≠ 43) : some g ≠ v.ownBlock := by
 obtain ⟨hb, hg⟩ := h
 exact Kd.R_ne ho hb ht
theorem IsS43.apartQ {w0 W : World} {g : Nat} {f0 : Int} {f1 : Int} {f2 : Int} {f3 : Int} {f4 : Int} {f5 : Int} {f6 : Int} {α : Type} {d : Kd α} {e : Nat} {base : Nat} {ok : Nat → Prop} {v : Value} {xs : List α} (h : IsS43 w0 W g f0 f1 f2 f3 f4 f5 f6) (ho : d.Q e W base ok v xs) (ht : ∀ q, q ∈ e :: d.E → q ≠ 43) : d.Q e W base (fun k => ok k ∧ k ≠ g) v xs := by
 obtain ⟨hb, hg⟩ := h
 exact Kd.Q_types ho hb ht
theorem IsS43.own_neQ {w0 W : World} {g : Nat} {f0 : Int} {f1 : Int} {f2 : Int} {f3 : Int} {f4 : Int} {f5 : Int} {f6 : Int} {α : Type} {d : Kd α} {e : Nat} {base : Nat} {ok : Nat → Prop} {v : Value} {xs : List α} (h : IsS43 w0 W g f0 f1 f2 f3 f4 f5 f6) (ho : d.Q e W base ok v xs) (ht : e ≠ 43) : some g ≠ v.ownBlock := by
 obtain ⟨hb, hg⟩ := h
 exact Kd.Q_ne ho hb ht
theorem IsS43.apartS {w0 W : World} {g : Nat} {f0 : Int} {f1 : Int} {f2 : Int} {f3 : Int} {f4 : Int} {f5 : Int} {f6 : Int} {α : Type} {d : Kd α} {e : Nat} {base : Nat} {ok : Nat → Prop} {v : Value} {xs : List α} (h : IsS43 w0 W g f0 f1 f2 f3 f4 f5 f6) (ho : d.S e W base ok v xs) (ht : ∀ q, q ∈ e :: d.E → q ≠ 43) : d.S e W base (fun k => ok k ∧ k ≠ g) v xs := by
 obtain ⟨hb, hg⟩ := h
 exact Kd.S_types ho hb ht
theorem IsS43.own_neS {w0 W : World} {g : Nat} {f0 : Int} {f1 : Int} {f2 : Int} {f3 : Int} {f4 : Int} {f5 : Int} {f6 : Int} {α : Type} {d : Kd α} {e : Nat} {base : Nat} {ok : Nat → Prop} {v : Value} {xs : List α} (h : IsS43 w0 W g f0 f1 f2 f3 f4 f5 f6) (ho : d.S e W base ok v xs) (ht : e ≠ 43) : some g ≠ v.ownBlock := by
 obtain ⟨hb, hg⟩ := h
 exact Kd.S_ne ho hb ht
theorem IsS43.lt {w0 W : World} {g : Nat} {f0 : Int} {f1 : Int} {f2 : Int} {f3 : Int} {f4 : Int} {f5 : Int} {f6 : Int} (h : IsS43 w0 W g f0 f1 f2 f3 f4 f5 f6) : g < W.heap.size := by
 obtain ⟨hb, hg⟩ := h
 exact blk_lt hb
theorem IsS43.ge {w0 W : World} {g : Nat} {f0 : Int} {f1 : Int} {f2 : Int} {f3 : Int} {f4 : Int} {f5 : Int} {f6 : Int} (h : IsS43 w0 W g f0 f1 f2 f3 f4 f5 f6) : w0.heap.size ≤ g := by
 obtain ⟨hb, hg⟩ := h
 exact hg
theorem IsS43.ne_blk {w0 W : World} {g : Nat} {f0 : Int} {f1 : Int} {f2 : Int} {f3 : Int} {f4 : Int} {f5 : Int} {f6 : Int} {a : Nat} {cs : Array Value} {t : TypeId} {fr : Nat × Nat} (h : IsS43 w0 W g f0 f1 f2 f3 f4 f5 f6) (hb2 : W.heap[a]? = some (.cells cs t fr)) (ht : t ≠ 43) : g ≠ a := by
 obtain ⟨hb, hg⟩ := h
 rintro rfl
 rw [hb] at hb2
 injection hb2 with hb2
 injection hb2 with _ ht2
 exact ht ht2.symm
theorem IsS43.far {w0 W : World} {g : Nat} {f0 : Int} {f1 : Int} {f2 : Int} {f3 : Int} {f4 : Int} {f5 : Int} {f6 : Int} {p : Addr} (h : IsS43 w0 W g f0 f1 f2 f3 f4 f5 f6) (hne : g ≠ p.block) (u : Value) : IsS43 w0 (W.setCell p u) g f0 f1 f2 f3 f4 f5 f6 := by
 obtain ⟨hb, hg⟩ := h
 exact ⟨blk_far hb hne u, hg⟩
theorem cellS43_0 {W : World} {g : Nat} {f0 : Int} {f1 : Int} {f2 : Int} {f3 : Int} {f4 : Int} {f5 : Int} {f6 : Int} (h : W.heap[g]? = some (.cells #[.int .i64 f0, .int .i64 f1, .int .i64 f2, .int .i64 f3, .int .i64 f4, .int .i64 f5, .int .i64 f6] 43 (0, 0))) : W.cell? ⟨g, 0, none⟩ = some (.int .i64 f0) := (blk_cell h 0).trans rfl
theorem IsS43.set_0 {w0 W : World} {g : Nat} {f0 : Int} {f1 : Int} {f2 : Int} {f3 : Int} {f4 : Int} {f5 : Int} {f6 : Int} (h : IsS43 w0 W g f0 f1 f2 f3 f4 f5 f6) (x : Int) : IsS43 w0 (W.setCell ⟨g, 0, none⟩ (.int .i64 x)) g x f1 f2 f3 f4 f5 f6 := by
 obtain ⟨hb, hg⟩ := h
 exact ⟨by simpa using blk_set hb 0 (.int .i64 x), hg⟩
theorem cellS43_1 {W : World} {g : Nat} {f0 : Int} {f1 : Int} {f2 : Int} {f3 : Int} {f4 : Int} {f5 : Int} {f6 : Int} (h : W.heap[g]? = some (.cells #[.int .i64 f0, .int .i64 f1, .int .i64 f2, .int .i64 f3, .int .i64 f4, .int .i64 f5, .int .i64 f6] 43 (0, 0))) : W.cell? ⟨g, 1, none⟩ = some (.int .i64 f1) := (blk_cell h 1).trans rfl
theorem IsS43.set_1 {w0 W : World} {g : Nat} {f0 : Int} {f1 : Int} {f2 : Int} {f3 : Int} {f4 : Int} {f5 : Int} {f6 : Int} (h : IsS43 w0 W g f0 f1 f2 f3 f4 f5 f6) (x : Int) : IsS43 w0 (W.setCell ⟨g, 1, none⟩ (.int .i64 x)) g f0 x f2 f3 f4 f5 f6 := by
 obtain ⟨hb, hg⟩ := h
 exact ⟨by simpa using blk_set hb 1 (.int .i64 x), hg⟩
theorem cellS43_2 {W : World} {g : Nat} {f0 : Int} {f1 : Int} {f2 : Int} {f3 : Int} {f4 : Int} {f5 : Int} {f6 : Int} (h : W.heap[g]? = some (.cells #[.int .i64 f0, .int .i64 f1, .int .i64 f2, .int .i64 f3, .int .i64 f4, .int .i64 f5, .int .i64 f6] 43 (0, 0))) : W.cell? ⟨g, 2, none⟩ = some (.int .i64 f2) := (blk_cell h 2).trans rfl
theorem IsS43.set_2 {w0 W : World} {g : Nat} {f0 : Int} {f1 : Int} {f2 : Int} {f3 : Int} {f4 : Int} {f5 : Int} {f6 : Int} (h : IsS43 w0 W g f0 f1 f2 f3 f4 f5 f6) (x : Int) : IsS43 w0 (W.setCell ⟨g, 2, none⟩ (.int .i64 x)) g f0 f1 x f3 f4 f5 f6 := by
 obtain ⟨hb, hg⟩ := h
 exact ⟨by simpa using blk_set hb 2 (.int .i64 x), hg⟩
theorem cellS43_3 {W : World} {g : Nat} {f0 : Int} {f1 : Int} {f2 : Int} {f3 : Int} {f4 : Int} {f5 : Int} {f6 : Int} (h : W.heap[g]? = some (.cells #[.int .i64 f0, .int .i64 f1, .int .i64 f2, .int .i64 f3, .int .i64 f4, .int .i64 f5, .int .i64 f6] 43 (0, 0))) : W.cell? ⟨g, 3, none⟩ = some (.int .i64 f3) := (blk_cell h 3).trans rfl
theorem IsS43.set_3 {w0 W : World} {g : Nat} {f0 : Int} {f1 : Int} {f2 : Int} {f3 : Int} {f4 : Int} {f5 : Int} {f6 : Int} (h : IsS43 w0 W g f0 f1 f2 f3 f4 f5 f6) (x : Int) : IsS43 w0 (W.setCell ⟨g, 3, none⟩ (.int .i64 x)) g f0 f1 f2 x f4 f5 f6 := by
 obtain ⟨hb, hg⟩ := h
 exact ⟨by simpa using blk_set hb 3 (.int .i64 x), hg⟩
theorem cellS43_4 {W : World} {g : Nat} {f0 : Int} {f1 : Int} {f2 : Int} {f3 : Int} {f4 : Int} {f5 : Int} {f6 : Int} (h : W.heap[g]? = some (.cells #[.int .i64 f0, .int .i64 f1, .int .i64 f2, .int .i64 f3, .int .i64 f4, .int .i64 f5, .int .i64 f6] 43 (0, 0))) : W.cell? ⟨g, 4, none⟩ = some (.int .i64 f4) := (blk_cell h 4).trans rfl
theorem IsS43.set_4 {w0 W : World} {g : Nat} {f0 : Int} {f1 : Int} {f2 : Int} {f3 : Int} {f4 : Int} {f5 : Int} {f6 : Int} (h : IsS43 w0 W g f0 f1 f2 f3 f4 f5 f6) (x : Int) : IsS43 w0 (W.setCell ⟨g, 4, none⟩ (.int .i64 x)) g f0 f1 f2 f3 x f5 f6 := by
 obtain ⟨hb, hg⟩ := h
 exact ⟨by simpa using blk_set hb 4 (.int .i64 x), hg⟩
theorem cellS43_5 {W : World} {g : Nat} {f0 : Int} {f1 : Int} {f2 : Int} {f3 : Int} {f4 : Int} {f5 : Int} {f6 : Int} (h : W.heap[g]? = some (.cells #[.int .i64 f0, .int .i64 f1, .int .i64 f2, .int .i64 f3, .int .i64 f4, .int .i64 f5, .int .i64 f6] 43 (0, 0))) : W.cell? ⟨g, 5, none⟩ = some (.int .i64 f5) := (blk_cell h 5).trans rfl
theorem IsS43.set_5 {w0 W : World} {g : Nat} {f0 : Int} {f1 : Int} {f2 : Int} {f3 : Int} {f4 : Int} {f5 : Int} {f6 : Int} (h : IsS43 w0 W g f0 f1 f2 f3 f4 f5 f6) (x : Int) : IsS43 w0 (W.setCell ⟨g, 5, none⟩ (.int .i64 x)) g f0 f1 f2 f3 f4 x f6 := by
 obtain ⟨hb, hg⟩ := h
 exact ⟨by simpa using blk_set hb 5 (.int .i64 x), hg⟩
theorem cellS43_6 {W : World} {g : Nat} {f0 : Int} {f1 : Int} {f2 : Int} {f3 : Int} {f4 : Int} {f5 : Int} {f6 : Int} (h : W.heap[g]? = some (.cells #[.int .i64 f0, .int .i64 f1, .int .i64 f2, .int .i64 f3, .int .i64 f4, .int .i64 f5, .int .i64 f6] 43 (0, 0))) : W.cell? ⟨g, 6, none⟩ = some (.int .i64 f6) := (blk_cell h 6).trans rfl
theorem IsS43.set_6 {w0 W : World} {g : Nat} {f0 : Int} {f1 : Int} {f2 : Int} {f3 : Int} {f4 : Int} {f5 : Int} {f6 : Int} (h : IsS43 w0 W g f0 f1 f2 f3 f4 f5 f6) (x : Int) : IsS43 w0 (W.setCell ⟨g, 6, none⟩ (.int .i64 x)) g f0 f1 f2 f3 f4 f5 x := by
 obtain ⟨hb, hg⟩ := h
 exact ⟨by simpa using blk_set hb 6 (.int .i64 x), hg⟩
theorem IsS43.new (w0 W : World) (f0 : Int) (f1 : Int) (f2 : Int) (f3 : Int) (f4 : Int) (f5 : Int) (f6 : Int) (hB : Below w0.heap.size w0 W) : IsS43 w0 (W.alloc (.cells #[.int .i64 f0, .int .i64 f1, .int .i64 f2, .int .i64 f3, .int .i64 f4, .int .i64 f5, .int .i64 f6] 43)) W.heap.size f0 f1 f2 f3 f4 f5 f6 := ⟨by simpa using heap_alloc_new W _, hB.size⟩

/-! ### spec_l05Write: function 16 -/
def spec_l05Write.T2 : Bool × List (List Nat × List Nat) := (true, [([], []), ([0], [0]), ([1], [1]), ([2], [2]), ([], []), ([3, 4], [3, 4]), ([], []), ([5, 6], [5, 6]), ([], []), ([7, 8], [7, 8]), ([], []), ([10], [10]), ([11], [11]), ([12], [12]), ([9, 13], [9, 13])])
def spec_l05Write.B2 : List Nat := [0, 1, 3, 7, 0, 31, 0, 127, 0, 511, 0, 1024, 3072, 7168, 16383]
theorem spec_l05Write.tab2 : rtab .any (opsOf Tryd.f16 2) = spec_l05Write.T2 := by kernel_rfl
theorem spec_l05Write.bits2 : waitsOk spec_l05Write.T2.2 spec_l05Write.B2 = true := by kernel_rfl
set_option maxHeartbeats 8000000 in
set_option maxRecDepth 100000 in
theorem l05WriteA (k gq gx : Nat) (x0 x1 x2 x3 x4 x5 x6 d g old cn cb ce cf : Int) (w0 w : World) (hB : Below w0.heap.size w0 w) (hg : w0.heap.size ≤ gq) (hgx : w0.heap.size ≤ gx) (hne : gq ≠ gx) (hq : w.heap[gq]? = some (.cells #[.int .i64 d, .int .i64 g] 27 (0, 0))) (hx : w.heap[gx]? = some (.cells #[.int .i64 x0, .int .i64 x1, .int .i64 x2, .int .i64 x3, .int .i64 x4, .int .i64 x5, .int .i64 x6] 43 (0, 0))) (hR : ¬ wrap64 (2 * d) = 0) (hc : spec_l05Count.f k d g x2 = some (cn, d, g)) (ht : Int.tmod (wrap64 (wrap64 (x0 - cn) + wrap64 (2 * d))) (wrap64 (2 * d)) < d) (h0 : spec_l05Code.f d g x0 = some (cb, d, g)) (h1 : spec_l05Code.f d g (Int.tmod (wrap64 (x0 + 1)) (wrap64 (2 * d))) = some (ce, d, g)) (h2 : spec_l05Code.f d g x1 = some (cf, d, g)) :
  Calls Tryd.prog 16 #[.pointer (some ⟨gq, 0, none⟩), .pointer (some ⟨gx, 0, none⟩), .int .i64 old] w fun e w' => e = .returned (.tuple #[]) ∧ w'.heap[gx]? = some (.cells #[.int .i64 (Int.tmod (wrap64 (x0 + 1)) (wrap64 (2 * d))), .int .i64 x1, .int .i64 (Go.bits .xor .i64 (cf) (old)), .int .i64 x3, .int .i64 (wrap64 (x4 + 1)), .int .i64 (Go.bits .xor .i64 (cb) (ce)), .int .i64 x6] 43 (0, 0)) ∧ w'.heap[gq]? = some (.cells #[.int .i64 d, .int .i64 g] 27 (0, 0)) ∧ Kept w w' (fun b => b = gx) ∧ Below w0.heap.size w0 w' := by
 have hu := Tryd.underlying27
 have hu2 := Tryd.underlying43
 have HX := Aside0.mk hx; have HQ := Aside0.mk hq; have HB := Aside0.mk hB; have HG := Aside0.mk hg; have HGX := Aside0.mk hgx; have HNE := Aside0.mk hne; have HR0 := Aside0.mk hR; have KP : Aside0 (Kept w w (fun b => b = gx)) := ⟨Kept.refl _ _⟩
 clear hx hq hB hg hgx hne hR
 have HC := Aside0.mk hc; have HB0 := Aside0.mk h0; have HB1 := Aside0.mk h1; have HB2 := Aside0.mk h2
 clear hc h0 h1 h2
 have t1 : decide (Int.tmod (wrap64 (wrap64 (x0 - cn) + wrap64 (2 * d))) (wrap64 (2 * d)) < d) = true := decide_eq_true ht
 go_enter Tryd.func16, Tryd.ntmps16
 obtain ⟨q0, q1⟩ : _ ∧ _ := ⟨blk_cell HQ.out 0, blk_cell HQ.out 1⟩
 have c2 := blk_cell HX.out 2; have f2 := blk_frozen HX.out 2
 have r0 := HR0.out; have r1 := beq_eq_false_iff_ne.mpr r0; have r2 := decide_eq_false r0; have r3 := eq_false r0
 go_wp2_with (fail)
 clear q0 q1 r0 r1 r2 r3 c2 f2
 refine (spec_l05Count.calls k gq d g x2 cn d g w0 _ ⟨HQ.out, HG.out⟩ HB.out HC.out).mono ?_
 rintro e w1 ⟨rfl, hi, hb, hk⟩
 have hx2 := (hk.2 gx (blk_lt HX.out) (fun h => HNE.out h.symm) (by simp)).trans HX.out; replace KP := Aside0.mk (Kept.then_ KP.out (keepX gx hk HQ.out hi.1) (fun b hb => .inl hb)); replace HX := Aside0.mk hx2; replace HQ := Aside0.mk hi.1; replace HB := Aside0.mk hb; clear hi hb hk hx2
 go_wp2_with (fail)
 have hb : Below w1.heap.size w1 w1.drew := below_drew1 (Below.refl _ _)
 replace KP := Aside0.mk (Kept.then_ KP.out (Kept.of_below hb (fun b => b = gx)) (fun b hb => .inl hb)); replace HX := Aside0.mk (blk_below HX.out hb); replace HQ := Aside0.mk (blk_below HQ.out hb)
 replace HB := Aside0.mk (below_step HB.out hb); clear hb
 refine start_ (n := 15) (S := fun w' => True) (ds := []) #[false, false, false, false, false, false, false, false, false, false, false, false, false, false, false] (by kernel_rfl) rfl rfl trivial (fun hHeld => ?_)
 refine with_tabW spec_l05Write.tab2 spec_l05Write.bits2 (fun HT_ HW_ => ?_)
 generalize w1.drew = wk_ at KP HX HQ HB hHeld ⊢
 refine pure_ (i := 0) (N := some 20) (v := ?_) (a' := ?_) #[true, false, false, false, false, false, false, false, false, false, false, false, false, false, false] rfl rfl (any_of HT_.out (by kernel_rfl)) (fun _ _ _ h => h) (Or.inl ⟨by rfl, ?_⟩) ?_ ?_
 rotate_left
 ·intro w'
  go_simp
  with_reducible rfl
 rotate_left
 ·simp only [Act.put, List.setIfInBounds_toArray, List.set_cons_zero, List.set_cons_succ, i64_w, i32_w]
  rfl
 refine pure_ (i := 4) (N := some 24) (v := ?_) (a' := ?_) #[true, false, false, false, true, false, false, false, false, false, false, false, false, false, false] rfl rfl (any_of HT_.out (by kernel_rfl)) (fun _ _ _ h => h) (Or.inl ⟨by rfl, ?_⟩) ?_ ?_
 rotate_left
 ·intro w'
  go_simp
  with_reducible rfl
 rotate_left
 ·simp only [Act.put, List.setIfInBounds_toArray, List.set_cons_zero, List.set_cons_succ, i64_w, i32_w]
  rfl
 refine pure_ (i := 6) (N := some 26) (v := ?_) (a' := ?_) #[true, false, false, false, true, false, true, false, false, false, false, false, false, false, false] rfl rfl (any_of HT_.out (by kernel_rfl)) (fun _ _ _ h => h) (Or.inl ⟨by rfl, ?_⟩) ?_ ?_
 rotate_left
 ·intro w'
  go_simp
  with_reducible rfl
 rotate_left
 ·simp only [Act.put, List.setIfInBounds_toArray, List.set_cons_zero, List.set_cons_succ, i64_w, i32_w]
  rfl
 refine pure_ (i := 8) (N := some 28) (v := ?_) (a' := ?_) #[true, false, false, false, true, false, true, false, true, false, false, false, false, false, false] rfl rfl (any_of HT_.out (by kernel_rfl)) (fun _ _ _ h => h) (Or.inl ⟨by rfl, ?_⟩) ?_ ?_
 rotate_left
 ·intro w'
  go_simp
  with_reducible rfl
 rotate_left
 ·simp only [Act.put, List.setIfInBounds_toArray, List.set_cons_zero, List.set_cons_succ, i64_w, i32_w]
  rfl
 refine pure_ (i := 10) (N := some 30) (v := ?_) (a' := ?_) #[true, false, false, false, true, false, true, false, true, false, true, false, false, false, false] rfl rfl (any_of HT_.out (by kernel_rfl)) (fun _ _ _ h => h) (Or.inl ⟨by rfl, ?_⟩) ?_ ?_
 rotate_left
 ·intro w'
  go_simp
  with_reducible rfl
 rotate_left
 ·simp only [Act.put, List.setIfInBounds_toArray, List.set_cons_zero, List.set_cons_succ, i64_w, i32_w]
  rfl
 refine inv_at [1, 2, 3, 5, 7, 9, 11, 12, 13, 14] (fun a0_ b a w' => a = putSel a0_ b [(1, 21, .pointer (some ⟨gx, 0, none⟩)), (2, 22, .pointer (some ⟨gx, 0, none⟩)), (3, 23, .int .i64 x0), (5, 25, .int .i64 (wrap64 (x0 - cn))), (7, 27, .int .i64 (wrap64 (((wrap64 (x0 - cn))) + ((wrap64 (2 * d)))))), (9, 29, .int .i64 (Int.tmod ((wrap64 (((wrap64 (x0 - cn))) + ((wrap64 (2 * d)))))) ((wrap64 (2 * d))))), (11, 31, .pointer (some ⟨gq, 0, none⟩)), (12, 32, .pointer (some ⟨gq, 0, none⟩)), (13, 33, .int .i64 d), (14, 34, .bool (decide (((Int.tmod ((wrap64 (((wrap64 (x0 - cn))) + ((wrap64 (2 * d)))))) ((wrap64 (2 * d))))) < (d))))] ∧ (Kept w w' (fun b => b = gx)) ∧ (w'.heap[gx]? = some (.cells #[.int .i64 x0, .int .i64 x1, .int .i64 x2, .int .i64 x3, .int .i64 x4, .int .i64 x5, .int .i64 x6] 43 (0, 0))) ∧ (w'.heap[gq]? = some (.cells #[.int .i64 d, .int .i64 g] 27 (0, 0))) ∧ (Below w0.heap.size w0 w')) HT_.out HW_.out (by kernel_rfl) (by kernel_rfl) ?_ ?_ ?_
 ·exact ⟨by simp only [putSel, Bool.false_eq_true, if_false], KP.out, HX.out, HQ.out, HB.out⟩
 ·skip
  clear HB HQ HX KP
  refine steps_cons ?_ ?_
  ·rintro b a w' ⟨ha, Q_KP, Q_HX, Q_HQ, Q_HB⟩ hb_ hon hoff
   refine ⟨_, rfl, fun K hK => ?_⟩
   have e20 : a.tmps[20]? = some (.pointer (some ⟨gx, 0, none⟩)) := by rw [ha]; exact (putSel_off rfl).trans rfl
   replace ha := Aside0.mk ha
   have KP := Aside0.mk Q_KP
   have HX := Aside0.mk Q_HX
   have HQ := Aside0.mk Q_HQ
   have HB := Aside0.mk Q_HB
   refine value_ (w1 := w') (v := .pointer (some ⟨gx, 0, none⟩)) (by rfl) rfl ?_ ?_
   ·go_simp
    (try simp only [i64_w])
    try rfl
   refine hK.out _ _ ⟨(by rw [ha.out]; exact putSel_upk 0 hb_ rfl rfl rfl), Q_KP, Q_HX, Q_HQ, Q_HB⟩
  refine steps_cons ?_ ?_
  ·rintro b a w' ⟨ha, Q_KP, Q_HX, Q_HQ, Q_HB⟩ hb_ hon hoff
   refine ⟨_, rfl, fun K hK => ?_⟩
   have e21 : a.tmps[21]? = some (.pointer (some ⟨gx, 0, none⟩)) := by rw [ha]; exact putSel_on (e := (1, 21, .pointer (some ⟨gx, 0, none⟩))) 0 rfl rfl (hon 1 (by kernel_rfl)) rfl
   replace ha := Aside0.mk ha
   have KP := Aside0.mk Q_KP
   have HX := Aside0.mk Q_HX
   have HQ := Aside0.mk Q_HQ
   have HB := Aside0.mk Q_HB
   refine value_ (w1 := w') (v := .pointer (some ⟨gx, 0, none⟩)) (by rfl) rfl ?_ ?_
   ·go_simp
    (try simp only [i64_w])
    try rfl
   refine hK.out _ _ ⟨(by rw [ha.out]; exact putSel_upk 1 hb_ rfl rfl rfl), Q_KP, Q_HX, Q_HQ, Q_HB⟩
  refine steps_cons ?_ ?_
  ·rintro b a w' ⟨ha, Q_KP, Q_HX, Q_HQ, Q_HB⟩ hb_ hon hoff
   refine ⟨_, rfl, fun K hK => ?_⟩
   have e22 : a.tmps[22]? = some (.pointer (some ⟨gx, 0, none⟩)) := by rw [ha]; exact putSel_on (e := (2, 22, .pointer (some ⟨gx, 0, none⟩))) 1 rfl rfl (hon 2 (by kernel_rfl)) rfl
   replace ha := Aside0.mk ha
   have KP := Aside0.mk Q_KP
   have HX := Aside0.mk Q_HX
   have HQ := Aside0.mk Q_HQ
   have HB := Aside0.mk Q_HB
   have hc0_ : w'.cell? ⟨gx, 0, none⟩ = some (.int .i64 x0) := (blk_cell HX.out 0).trans rfl
   refine value_ (w1 := w') (v := .int .i64 x0) (by rfl) rfl ?_ ?_
   ·go_simp
    (try simp only [i64_w])
    try rfl
   refine hK.out _ _ ⟨(by rw [ha.out]; exact putSel_upk 2 hb_ rfl rfl rfl), Q_KP, Q_HX, Q_HQ, Q_HB⟩
  refine steps_cons ?_ ?_
  ·rintro b a w' ⟨ha, Q_KP, Q_HX, Q_HQ, Q_HB⟩ hb_ hon hoff
   refine ⟨_, rfl, fun K hK => ?_⟩
   have e23 : a.tmps[23]? = some (.int .i64 x0) := by rw [ha]; exact putSel_on (e := (3, 23, .int .i64 x0)) 2 rfl rfl (hon 3 (by kernel_rfl)) rfl
   have e24 : a.tmps[24]? = some (.int .i64 cn) := by rw [ha]; exact (putSel_off rfl).trans rfl
   replace ha := Aside0.mk ha
   have KP := Aside0.mk Q_KP
   have HX := Aside0.mk Q_HX
   have HQ := Aside0.mk Q_HQ
   have HB := Aside0.mk Q_HB
   refine value_ (w1 := w') (v := .int .i64 (wrap64 (x0 - cn))) (by rfl) rfl ?_ ?_
   ·go_simp
    (try simp only [i64_w])
    try rfl
   refine hK.out _ _ ⟨(by rw [ha.out]; exact putSel_upk 3 hb_ rfl rfl rfl), Q_KP, Q_HX, Q_HQ, Q_HB⟩
  refine steps_cons ?_ ?_
  ·rintro b a w' ⟨ha, Q_KP, Q_HX, Q_HQ, Q_HB⟩ hb_ hon hoff
   refine ⟨_, rfl, fun K hK => ?_⟩
   have e25 : a.tmps[25]? = some (.int .i64 (wrap64 (x0 - cn))) := by rw [ha]; exact putSel_on (e := (5, 25, .int .i64 (wrap64 (x0 - cn)))) 3 rfl rfl (hon 5 (by kernel_rfl)) rfl
   have e26 : a.tmps[26]? = some (.int .i64 (wrap64 (2 * d))) := by rw [ha]; exact (putSel_off rfl).trans rfl
   replace ha := Aside0.mk ha
   have KP := Aside0.mk Q_KP
   have HX := Aside0.mk Q_HX
   have HQ := Aside0.mk Q_HQ
   have HB := Aside0.mk Q_HB
   refine value_ (w1 := w') (v := .int .i64 (wrap64 (((wrap64 (x0 - cn))) + ((wrap64 (2 * d)))))) (by rfl) rfl ?_ ?_
   ·go_simp
    (try simp only [i64_w])
    try rfl
   refine hK.out _ _ ⟨(by rw [ha.out]; exact putSel_upk 4 hb_ rfl rfl rfl), Q_KP, Q_HX, Q_HQ, Q_HB⟩
  refine steps_cons ?_ ?_
  ·rintro b a w' ⟨ha, Q_KP, Q_HX, Q_HQ, Q_HB⟩ hb_ hon hoff
   refine ⟨_, rfl, fun K hK => ?_⟩
   have e27 : a.tmps[27]? = some (.int .i64 (wrap64 (((wrap64 (x0 - cn))) + ((wrap64 (2 * d)))))) := by rw [ha]; exact putSel_on (e := (7, 27, .int .i64 (wrap64 (((wrap64 (x0 - cn))) + ((wrap64 (2 * d))))))) 4 rfl rfl (hon 7 (by kernel_rfl)) rfl
   have e28 : a.tmps[28]? = some (.int .i64 (wrap64 (2 * d))) := by rw [ha]; exact (putSel_off rfl).trans rfl
   replace ha := Aside0.mk ha
   have KP := Aside0.mk Q_KP
   have HX := Aside0.mk Q_HX
   have HQ := Aside0.mk Q_HQ
   have HB := Aside0.mk Q_HB
   have hr_ := HR0.out
   refine value_ (w1 := w') (v := .int .i64 (Int.tmod ((wrap64 (((wrap64 (x0 - cn))) + ((wrap64 (2 * d)))))) ((wrap64 (2 * d))))) (by rfl) rfl ?_ ?_
   ·go_simp
    (try simp only [i64_w])
    try rfl
   refine hK.out _ _ ⟨(by rw [ha.out]; exact putSel_upk 5 hb_ rfl rfl rfl), Q_KP, Q_HX, Q_HQ, Q_HB⟩
  refine steps_cons ?_ ?_
  ·rintro b a w' ⟨ha, Q_KP, Q_HX, Q_HQ, Q_HB⟩ hb_ hon hoff
   refine ⟨_, rfl, fun K hK => ?_⟩
   have e30 : a.tmps[30]? = some (.pointer (some ⟨gq, 0, none⟩)) := by rw [ha]; exact (putSel_off rfl).trans rfl
   replace ha := Aside0.mk ha
   have KP := Aside0.mk Q_KP
   have HX := Aside0.mk Q_HX
   have HQ := Aside0.mk Q_HQ
   have HB := Aside0.mk Q_HB
   refine value_ (w1 := w') (v := .pointer (some ⟨gq, 0, none⟩)) (by rfl) rfl ?_ ?_
   ·go_simp
    (try simp only [i64_w])
    try rfl
   refine hK.out _ _ ⟨(by rw [ha.out]; exact putSel_upk 6 hb_ rfl rfl rfl), Q_KP, Q_HX, Q_HQ, Q_HB⟩
  refine steps_cons ?_ ?_
  ·rintro b a w' ⟨ha, Q_KP, Q_HX, Q_HQ, Q_HB⟩ hb_ hon hoff
   refine ⟨_, rfl, fun K hK => ?_⟩
   have e31 : a.tmps[31]? = some (.pointer (some ⟨gq, 0, none⟩)) := by rw [ha]; exact putSel_on (e := (11, 31, .pointer (some ⟨gq, 0, none⟩))) 6 rfl rfl (hon 11 (by kernel_rfl)) rfl
   replace ha := Aside0.mk ha
   have KP := Aside0.mk Q_KP
   have HX := Aside0.mk Q_HX
   have HQ := Aside0.mk Q_HQ
   have HB := Aside0.mk Q_HB
   refine value_ (w1 := w') (v := .pointer (some ⟨gq, 0, none⟩)) (by rfl) rfl ?_ ?_
   ·go_simp
    (try simp only [i64_w])
    try rfl
   refine hK.out _ _ ⟨(by rw [ha.out]; exact putSel_upk 7 hb_ rfl rfl rfl), Q_KP, Q_HX, Q_HQ, Q_HB⟩
  refine steps_cons ?_ ?_
  ·rintro b a w' ⟨ha, Q_KP, Q_HX, Q_HQ, Q_HB⟩ hb_ hon hoff
   refine ⟨_, rfl, fun K hK => ?_⟩
   have e32 : a.tmps[32]? = some (.pointer (some ⟨gq, 0, none⟩)) := by rw [ha]; exact putSel_on (e := (12, 32, .pointer (some ⟨gq, 0, none⟩))) 7 rfl rfl (hon 12 (by kernel_rfl)) rfl
   replace ha := Aside0.mk ha
   have KP := Aside0.mk Q_KP
   have HX := Aside0.mk Q_HX
   have HQ := Aside0.mk Q_HQ
   have HB := Aside0.mk Q_HB
   have hc0_ : w'.cell? ⟨gq, 0, none⟩ = some (.int .i64 d) := (blk_cell HQ.out 0).trans rfl
   refine value_ (w1 := w') (v := .int .i64 d) (by rfl) rfl ?_ ?_
   ·go_simp
    (try simp only [i64_w])
    try rfl
   refine hK.out _ _ ⟨(by rw [ha.out]; exact putSel_upk 8 hb_ rfl rfl rfl), Q_KP, Q_HX, Q_HQ, Q_HB⟩
  refine steps_cons ?_ ?_
  ·rintro b a w' ⟨ha, Q_KP, Q_HX, Q_HQ, Q_HB⟩ hb_ hon hoff
   refine ⟨_, rfl, fun K hK => ?_⟩
   have e29 : a.tmps[29]? = some (.int .i64 (Int.tmod ((wrap64 (((wrap64 (x0 - cn))) + ((wrap64 (2 * d)))))) ((wrap64 (2 * d))))) := by rw [ha]; exact putSel_on (e := (9, 29, .int .i64 (Int.tmod ((wrap64 (((wrap64 (x0 - cn))) + ((wrap64 (2 * d)))))) ((wrap64 (2 * d)))))) 5 rfl rfl (hon 9 (by kernel_rfl)) rfl
   have e33 : a.tmps[33]? = some (.int .i64 d) := by rw [ha]; exact putSel_on (e := (13, 33, .int .i64 d)) 8 rfl rfl (hon 13 (by kernel_rfl)) rfl
   replace ha := Aside0.mk ha
   have KP := Aside0.mk Q_KP
   have HX := Aside0.mk Q_HX
   have HQ := Aside0.mk Q_HQ
   have HB := Aside0.mk Q_HB
   refine value_ (w1 := w') (v := .bool (decide (((Int.tmod ((wrap64 (((wrap64 (x0 - cn))) + ((wrap64 (2 * d)))))) ((wrap64 (2 * d))))) < (d)))) (by rfl) rfl ?_ ?_
   ·go_simp
    (try simp only [i64_w])
    try rfl
   refine hK.out _ _ ⟨(by rw [ha.out]; exact putSel_upk 9 hb_ rfl rfl rfl), Q_KP, Q_HX, Q_HQ, Q_HB⟩
  exact steps_nil
 rintro b a w2 hall ⟨ha, Q_KP, Q_HX, Q_HQ, Q_HB⟩
 clear HB HQ HX KP
 have hb1_ := hall 1 (by kernel_rfl)
 have hb2_ := hall 2 (by kernel_rfl)
 have hb3_ := hall 3 (by kernel_rfl)
 have hb5_ := hall 5 (by kernel_rfl)
 have hb7_ := hall 7 (by kernel_rfl)
 have hb9_ := hall 9 (by kernel_rfl)
 have hb11_ := hall 11 (by kernel_rfl)
 have hb12_ := hall 12 (by kernel_rfl)
 have hb13_ := hall 13 (by kernel_rfl)
 have hb14_ := hall 14 (by kernel_rfl)
 subst ha
 simp only [putSel, hb1_, hb2_, hb3_, hb5_, hb7_, hb9_, hb11_, hb12_, hb13_, hb14_, if_true, Act.put, List.setIfInBounds_toArray, List.set_cons_zero, List.set_cons_succ]
 have KP := Aside0.mk Q_KP
 clear Q_KP
 have HX := Aside0.mk Q_HX
 clear Q_HX
 have HQ := Aside0.mk Q_HQ
 clear Q_HQ
 have HB := Aside0.mk Q_HB
 clear Q_HB
 clear hall hb1_ hb2_ hb3_ hb5_ hb7_ hb9_ hb11_ hb12_ hb13_ hb14_
 obtain ⟨q0, q1⟩ : _ ∧ _ := ⟨blk_cell HQ.out 0, blk_cell HQ.out 1⟩
 have c0 := blk_cell HX.out 0; have f0 := blk_frozen HX.out 0
 have r0 := HR0.out; have r1 := beq_eq_false_iff_ne.mpr r0; have r2 := decide_eq_false r0; have r3 := eq_false r0
 go_wp2_with (fail)
 clear q0 q1 r0 r1 r2 r3 c0 f0
 refine (spec_l05Code.calls gq d g (x0) cb d g w0 _ ⟨HQ.out, HG.out⟩ HB.out HB0.out).mono ?_
 rintro e w3 ⟨rfl, hi, hb, hk⟩
 have hx2 := (hk.2 gx (blk_lt HX.out) (fun h => HNE.out h.symm) (by simp)).trans HX.out; replace KP := Aside0.mk (Kept.then_ KP.out (keepX gx hk HQ.out hi.1) (fun b hb => .inl hb)); replace HX := Aside0.mk hx2; replace HQ := Aside0.mk hi.1; replace HB := Aside0.mk hb; clear hi hb hk hx2
 obtain ⟨q0, q1⟩ : _ ∧ _ := ⟨blk_cell HQ.out 0, blk_cell HQ.out 1⟩
 have c0 := blk_cell HX.out 0; have f0 := blk_frozen HX.out 0
 have c4 := blk_cell HX.out 4; have f4 := blk_frozen HX.out 4
 have r0 := HR0.out; have r1 := beq_eq_false_iff_ne.mpr r0; have r2 := decide_eq_false r0; have r3 := eq_false r0
 go_wp2_with (fail)
 clear q0 q1 r0 r1 r2 r3 c0 f0 c4 f4
 replace KP := Aside0.mk (Kept.setCell KP.out (p := ⟨gx, 0, none⟩) (.inl rfl) (.int .i64 (Int.tmod (wrap64 (x0 + 1)) (wrap64 (2 * d)))))
 replace HQ := Aside0.mk (blk_far HQ.out (p := ⟨gx, 0, none⟩) HNE.out (.int .i64 (Int.tmod (wrap64 (x0 + 1)) (wrap64 (2 * d)))))
 replace HX := Aside0.mk (blk_put HX.out 0 (.int .i64 (Int.tmod (wrap64 (x0 + 1)) (wrap64 (2 * d)))) rfl)
 replace HB := Aside0.mk (below_set HB.out HGX.out (j := 0) (v := .int .i64 (Int.tmod (wrap64 (x0 + 1)) (wrap64 (2 * d)))))
 replace KP := Aside0.mk (Kept.setCell KP.out (p := ⟨gx, 4, none⟩) (.inl rfl) (.int .i64 (wrap64 (x4 + 1))))
 replace HQ := Aside0.mk (blk_far HQ.out (p := ⟨gx, 4, none⟩) HNE.out (.int .i64 (wrap64 (x4 + 1))))
 replace HX := Aside0.mk (blk_put HX.out 4 (.int .i64 (wrap64 (x4 + 1))) rfl)
 replace HB := Aside0.mk (below_set HB.out HGX.out (j := 4) (v := .int .i64 (wrap64 (x4 + 1))))
 generalize ((w3.setCell ⟨gx, 0, none⟩ (.int .i64 (Int.tmod (wrap64 (x0 + 1)) (wrap64 (2 * d))))).setCell ⟨gx, 4, none⟩ (.int .i64 (wrap64 (x4 + 1)))) = w4 at KP HX HQ HB ⊢
 refine (spec_l05Code.calls gq d g (Int.tmod (wrap64 (x0 + 1)) (wrap64 (2 * d))) ce d g w0 _ ⟨HQ.out, HG.out⟩ HB.out HB1.out).mono ?_
 rintro e w5 ⟨rfl, hi, hb, hk⟩
 have hx2 := (hk.2 gx (blk_lt HX.out) (fun h => HNE.out h.symm) (by simp)).trans HX.out; replace KP := Aside0.mk (Kept.then_ KP.out (keepX gx hk HQ.out hi.1) (fun b hb => .inl hb)); replace HX := Aside0.mk hx2; replace HQ := Aside0.mk hi.1; replace HB := Aside0.mk hb; clear hi hb hk hx2
 obtain ⟨q0, q1⟩ : _ ∧ _ := ⟨blk_cell HQ.out 0, blk_cell HQ.out 1⟩
 have c5 := blk_cell HX.out 5; have f5 := blk_frozen HX.out 5
 have c1 := blk_cell HX.out 1; have f1 := blk_frozen HX.out 1
 have r0 := HR0.out; have r1 := beq_eq_false_iff_ne.mpr r0; have r2 := decide_eq_false r0; have r3 := eq_false r0
 go_wp2_with (fail)
 clear q0 q1 r0 r1 r2 r3 c5 f5 c1 f1
 replace KP := Aside0.mk (Kept.setCell KP.out (p := ⟨gx, 5, none⟩) (.inl rfl) (.int .i64 (Go.bits .xor .i64 (cb) (ce))))
 replace HQ := Aside0.mk (blk_far HQ.out (p := ⟨gx, 5, none⟩) HNE.out (.int .i64 (Go.bits .xor .i64 (cb) (ce))))
 replace HX := Aside0.mk (blk_put HX.out 5 (.int .i64 (Go.bits .xor .i64 (cb) (ce))) rfl)
 replace HB := Aside0.mk (below_set HB.out HGX.out (j := 5) (v := .int .i64 (Go.bits .xor .i64 (cb) (ce))))
 generalize (w5.setCell ⟨gx, 5, none⟩ (.int .i64 (Go.bits .xor .i64 (cb) (ce)))) = w6 at KP HX HQ HB ⊢
 refine (spec_l05Code.calls gq d g (x1) cf d g w0 _ ⟨HQ.out, HG.out⟩ HB.out HB2.out).mono ?_
 rintro e w7 ⟨rfl, hi, hb, hk⟩
 have hx2 := (hk.2 gx (blk_lt HX.out) (fun h => HNE.out h.symm) (by simp)).trans HX.out; replace KP := Aside0.mk (Kept.then_ KP.out (keepX gx hk HQ.out hi.1) (fun b hb => .inl hb)); replace HX := Aside0.mk hx2; replace HQ := Aside0.mk hi.1; replace HB := Aside0.mk hb; clear hi hb hk hx2
 obtain ⟨q0, q1⟩ : _ ∧ _ := ⟨blk_cell HQ.out 0, blk_cell HQ.out 1⟩
 have c2 := blk_cell HX.out 2; have f2 := blk_frozen HX.out 2
 have r0 := HR0.out; have r1 := beq_eq_false_iff_ne.mpr r0; have r2 := decide_eq_false r0; have r3 := eq_false r0
 go_wp2
 clear q0 q1 r0 r1 r2 r3 c2 f2
 replace KP := Aside0.mk (Kept.setCell KP.out (p := ⟨gx, 2, none⟩) (.inl rfl) (.int .i64 (Go.bits .xor .i64 (cf) (old))))
 replace HQ := Aside0.mk (blk_far HQ.out (p := ⟨gx, 2, none⟩) HNE.out (.int .i64 (Go.bits .xor .i64 (cf) (old))))
 replace HX := Aside0.mk (blk_put HX.out 2 (.int .i64 (Go.bits .xor .i64 (cf) (old))) rfl)
 replace HB := Aside0.mk (below_set HB.out HGX.out (j := 2) (v := .int .i64 (Go.bits .xor .i64 (cf) (old))))
 generalize (w7.setCell ⟨gx, 2, none⟩ (.int .i64 (Go.bits .xor .i64 (cf) (old)))) = w8 at KP HX HQ HB ⊢
 go_end0
 exact ⟨rfl, HX.out, HQ.out, KP.out, HB.out⟩
set_option maxHeartbeats 8000000 in
set_option maxRecDepth 100000 in
theorem l05WriteB (k gq gx : Nat) (x0 x1 x2 x3 x4 x5 x6 d g old cn cf : Int) (w0 w : World) (hB : Below w0.heap.size w0 w) (hg : w0.heap.size ≤ gq) (hgx : w0.heap.size ≤ gx) (hne : gq ≠ gx) (hq : w.heap[gq]? = some (.cells #[.int .i64 d, .int .i64 g] 27 (0, 0))) (hx : w.heap[gx]? = some (.cells #[.int .i64 x0, .int .i64 x1, .int .i64 x2, .int .i64 x3, .int .i64 x4, .int .i64 x5, .int .i64 x6] 43 (0, 0))) (hR : ¬ wrap64 (2 * d) = 0) (hc : spec_l05Count.f k d g x2 = some (cn, d, g)) (ht : ¬ Int.tmod (wrap64 (wrap64 (x0 - cn) + wrap64 (2 * d))) (wrap64 (2 * d)) < d) (h2 : spec_l05Code.f d g x1 = some (cf, d, g)) :
  Calls Tryd.prog 16 #[.pointer (some ⟨gq, 0, none⟩), .pointer (some ⟨gx, 0, none⟩), .int .i64 old] w fun e w' => e = .returned (.tuple #[]) ∧ w'.heap[gx]? = some (.cells #[.int .i64 x0, .int .i64 x1, .int .i64 (Go.bits .xor .i64 (cf) (old)), .int .i64 x3, .int .i64 x4, .int .i64 x5, .int .i64 x6] 43 (0, 0)) ∧ w'.heap[gq]? = some (.cells #[.int .i64 d, .int .i64 g] 27 (0, 0)) ∧ Kept w w' (fun b => b = gx) ∧ Below w0.heap.size w0 w' := by
 have hu := Tryd.underlying27
 have hu2 := Tryd.underlying43
 have HX := Aside0.mk hx; have HQ := Aside0.mk hq; have HB := Aside0.mk hB; have HG := Aside0.mk hg; have HGX := Aside0.mk hgx; have HNE := Aside0.mk hne; have HR0 := Aside0.mk hR; have KP : Aside0 (Kept w w (fun b => b = gx)) := ⟨Kept.refl _ _⟩
 clear hx hq hB hg hgx hne hR
 have HC := Aside0.mk hc; have HB2 := Aside0.mk h2
 clear hc h2
 have t1 : decide (Int.tmod (wrap64 (wrap64 (x0 - cn) + wrap64 (2 * d))) (wrap64 (2 * d)) < d) = false := decide_eq_false ht
 go_enter Tryd.func16, Tryd.ntmps16
 obtain ⟨q0, q1⟩ : _ ∧ _ := ⟨blk_cell HQ.out 0, blk_cell HQ.out 1⟩
 have c2 := blk_cell HX.out 2; have f2 := blk_frozen HX.out 2
 have r0 := HR0.out; have r1 := beq_eq_false_iff_ne.mpr r0; have r2 := decide_eq_false r0; have r3 := eq_false r0
 go_wp2_with (fail)
 clear q0 q1 r0 r1 r2 r3 c2 f2
 refine (spec_l05Count.calls k gq d g x2 cn d g w0 _ ⟨HQ.out, HG.out⟩ HB.out HC.out).mono ?_
 rintro e w1 ⟨rfl, hi, hb, hk⟩
 have hx2 := (hk.2 gx (blk_lt HX.out) (fun h => HNE.out h.symm) (by simp)).trans HX.out; replace KP := Aside0.mk (Kept.then_ KP.out (keepX gx hk HQ.out hi.1) (fun b hb => .inl hb)); replace HX := Aside0.mk hx2; replace HQ := Aside0.mk hi.1; replace HB := Aside0.mk hb; clear hi hb hk hx2
 go_wp2_with (fail)
 have hb : Below w1.heap.size w1 w1.drew := below_drew1 (Below.refl _ _)
 replace KP := Aside0.mk (Kept.then_ KP.out (Kept.of_below hb (fun b => b = gx)) (fun b hb => .inl hb)); replace HX := Aside0.mk (blk_below HX.out hb); replace HQ := Aside0.mk (blk_below HQ.out hb)
 replace HB := Aside0.mk (below_step HB.out hb); clear hb
 refine start_ (n := 15) (S := fun w' => True) (ds := []) #[false, false, false, false, false, false, false, false, false, false, false, false, false, false, false] (by kernel_rfl) rfl rfl trivial (fun hHeld => ?_)
 refine with_tabW spec_l05Write.tab2 spec_l05Write.bits2 (fun HT_ HW_ => ?_)
 generalize w1.drew = wk_ at KP HX HQ HB hHeld ⊢
 refine pure_ (i := 0) (N := some 20) (v := ?_) (a' := ?_) #[true, false, false, false, false, false, false, false, false, false, false, false, false, false, false] rfl rfl (any_of HT_.out (by kernel_rfl)) (fun _ _ _ h => h) (Or.inl ⟨by rfl, ?_⟩) ?_ ?_
 rotate_left
 ·intro w'
  go_simp
  with_reducible rfl
 rotate_left
 ·simp only [Act.put, List.setIfInBounds_toArray, List.set_cons_zero, List.set_cons_succ, i64_w, i32_w]
  rfl
 refine pure_ (i := 4) (N := some 24) (v := ?_) (a' := ?_) #[true, false, false, false, true, false, false, false, false, false, false, false, false, false, false] rfl rfl (any_of HT_.out (by kernel_rfl)) (fun _ _ _ h => h) (Or.inl ⟨by rfl, ?_⟩) ?_ ?_
 rotate_left
 ·intro w'
  go_simp
  with_reducible rfl
 rotate_left
 ·simp only [Act.put, List.setIfInBounds_toArray, List.set_cons_zero, List.set_cons_succ, i64_w, i32_w]
  rfl
 refine pure_ (i := 6) (N := some 26) (v := ?_) (a' := ?_) #[true, false, false, false, true, false, true, false, false, false, false, false, false, false, false] rfl rfl (any_of HT_.out (by kernel_rfl)) (fun _ _ _ h => h) (Or.inl ⟨by rfl, ?_⟩) ?_ ?_
 rotate_left
 ·intro w'
  go_simp
  with_reducible rfl
 rotate_left
 ·simp only [Act.put, List.setIfInBounds_toArray, List.set_cons_zero, List.set_cons_succ, i64_w, i32_w]
  rfl
 refine pure_ (i := 8) (N := some 28) (v := ?_) (a' := ?_) #[true, false, false, false, true, false, true, false, true, false, false, false, false, false, false] rfl rfl (any_of HT_.out (by kernel_rfl)) (fun _ _ _ h => h) (Or.inl ⟨by rfl, ?_⟩) ?_ ?_
 rotate_left
 ·intro w'
  go_simp
  with_reducible rfl
 rotate_left
 ·simp only [Act.put, List.setIfInBounds_toArray, List.set_cons_zero, List.set_cons_succ, i64_w, i32_w]
  rfl
 refine pure_ (i := 10) (N := some 30) (v := ?_) (a' := ?_) #[true, false, false, false, true, false, true, false, true, false, true, false, false, false, false] rfl rfl (any_of HT_.out (by kernel_rfl)) (fun _ _ _ h => h) (Or.inl ⟨by rfl, ?_⟩) ?_ ?_
 rotate_left
 ·intro w'
  go_simp
  with_reducible rfl
 rotate_left
 ·simp only [Act.put, List.setIfInBounds_toArray, List.set_cons_zero, List.set_cons_succ, i64_w, i32_w]
  rfl
 refine inv_at [1, 2, 3, 5, 7, 9, 11, 12, 13, 14] (fun a0_ b a w' => a = putSel a0_ b [(1, 21, .pointer (some ⟨gx, 0, none⟩)), (2, 22, .pointer (some ⟨gx, 0, none⟩)), (3, 23, .int .i64 x0), (5, 25, .int .i64 (wrap64 (x0 - cn))), (7, 27, .int .i64 (wrap64 (((wrap64 (x0 - cn))) + ((wrap64 (2 * d)))))), (9, 29, .int .i64 (Int.tmod ((wrap64 (((wrap64 (x0 - cn))) + ((wrap64 (2 * d)))))) ((wrap64 (2 * d))))), (11, 31, .pointer (some ⟨gq, 0, none⟩)), (12, 32, .pointer (some ⟨gq, 0, none⟩)), (13, 33, .int .i64 d), (14, 34, .bool (decide (((Int.tmod ((wrap64 (((wrap64 (x0 - cn))) + ((wrap64 (2 * d)))))) ((wrap64 (2 * d))))) < (d))))] ∧ (Kept w w' (fun b => b = gx)) ∧ (w'.heap[gx]? = some (.cells #[.int .i64 x0, .int .i64 x1, .int .i64 x2, .int .i64 x3, .int .i64 x4, .int .i64 x5, .int .i64 x6] 43 (0, 0))) ∧ (w'.heap[gq]? = some (.cells #[.int .i64 d, .int .i64 g] 27 (0, 0))) ∧ (Below w0.heap.size w0 w')) HT_.out HW_.out (by kernel_rfl) (by kernel_rfl) ?_ ?_ ?_
 ·exact ⟨by simp only [putSel, Bool.false_eq_true, if_false], KP.out, HX.out, HQ.out, HB.out⟩
 ·skip
  clear HB HQ HX KP
  refine steps_cons ?_ ?_
  ·rintro b a w' ⟨ha, Q_KP, Q_HX, Q_HQ, Q_HB⟩ hb_ hon hoff
   refine ⟨_, rfl, fun K hK => ?_⟩
   have e20 : a.tmps[20]? = some (.pointer (some ⟨gx, 0, none⟩)) := by rw [ha]; exact (putSel_off rfl).trans rfl
   replace ha := Aside0.mk ha
   have KP := Aside0.mk Q_KP
   have HX := Aside0.mk Q_HX
   have HQ := Aside0.mk Q_HQ
   have HB := Aside0.mk Q_HB
   refine value_ (w1 := w') (v := .pointer (some ⟨gx, 0, none⟩)) (by rfl) rfl ?_ ?_
   ·go_simp
    (try simp only [i64_w])
    try rfl
   refine hK.out _ _ ⟨(by rw [ha.out]; exact putSel_upk 0 hb_ rfl rfl rfl), Q_KP, Q_HX, Q_HQ, Q_HB⟩
  refine steps_cons ?_ ?_
  ·rintro b a w' ⟨ha, Q_KP, Q_HX, Q_HQ, Q_HB⟩ hb_ hon hoff
   refine ⟨_, rfl, fun K hK => ?_⟩
   have e21 : a.tmps[21]? = some (.pointer (some ⟨gx, 0, none⟩)) := by rw [ha]; exact putSel_on (e := (1, 21, .pointer (some ⟨gx, 0, none⟩))) 0 rfl rfl (hon 1 (by kernel_rfl)) rfl
   replace ha := Aside0.mk ha
   have KP := Aside0.mk Q_KP
   have HX := Aside0.mk Q_HX
   have HQ := Aside0.mk Q_HQ
   have HB := Aside0.mk Q_HB
   refine value_ (w1 := w') (v := .pointer (some ⟨gx, 0, none⟩)) (by rfl) rfl ?_ ?_
   ·go_simp
    (try simp only [i64_w])
    try rfl
   refine hK.out _ _ ⟨(by rw [ha.out]; exact putSel_upk 1 hb_ rfl rfl rfl), Q_KP, Q_HX, Q_HQ, Q_HB⟩
  refine steps_cons ?_ ?_
  ·rintro b a w' ⟨ha, Q_KP, Q_HX, Q_HQ, Q_HB⟩ hb_ hon hoff
   refine ⟨_, rfl, fun K hK => ?_⟩
   have e22 : a.tmps[22]? = some (.pointer (some ⟨gx, 0, none⟩)) := by rw [ha]; exact putSel_on (e := (2, 22, .pointer (some ⟨gx, 0, none⟩))) 1 rfl rfl (hon 2 (by kernel_rfl)) rfl
   replace ha := Aside0.mk ha
   have KP := Aside0.mk Q_KP
   have HX := Aside0.mk Q_HX
   have HQ := Aside0.mk Q_HQ
   have HB := Aside0.mk Q_HB
   have hc0_ : w'.cell? ⟨gx, 0, none⟩ = some (.int .i64 x0) := (blk_cell HX.out 0).trans rfl
   refine value_ (w1 := w') (v := .int .i64 x0) (by rfl) rfl ?_ ?_
   ·go_simp
    (try simp only [i64_w])
    try rfl
   refine hK.out _ _ ⟨(by rw [ha.out]; exact putSel_upk 2 hb_ rfl rfl rfl), Q_KP, Q_HX, Q_HQ, Q_HB⟩
  refine steps_cons ?_ ?_
  ·rintro b a w' ⟨ha, Q_KP, Q_HX, Q_HQ, Q_HB⟩ hb_ hon hoff
   refine ⟨_, rfl, fun K hK => ?_⟩
   have e23 : a.tmps[23]? = some (.int .i64 x0) := by rw [ha]; exact putSel_on (e := (3, 23, .int .i64 x0)) 2 rfl rfl (hon 3 (by kernel_rfl)) rfl
   have e24 : a.tmps[24]? = some (.int .i64 cn) := by rw [ha]; exact (putSel_off rfl).trans rfl
   replace ha := Aside0.mk ha
   have KP := Aside0.mk Q_KP
   have HX := Aside0.mk Q_HX
   have HQ := Aside0.mk Q_HQ
   have HB := Aside0.mk Q_HB
   refine value_ (w1 := w') (v := .int .i64 (wrap64 (x0 - cn))) (by rfl) rfl ?_ ?_
   ·go_simp
    (try simp only [i64_w])
    try rfl
   refine hK.out _ _ ⟨(by rw [ha.out]; exact putSel_upk 3 hb_ rfl rfl rfl), Q_KP, Q_HX, Q_HQ, Q_HB⟩
  refine steps_cons ?_ ?_
  ·rintro b a w' ⟨ha, Q_KP, Q_HX, Q_HQ, Q_HB⟩ hb_ hon hoff
   refine ⟨_, rfl, fun K hK => ?_⟩
   have e25 : a.tmps[25]? = some (.int .i64 (wrap64 (x0 - cn))) := by rw [ha]; exact putSel_on (e := (5, 25, .int .i64 (wrap64 (x0 - cn)))) 3 rfl rfl (hon 5 (by kernel_rfl)) rfl
   have e26 : a.tmps[26]? = some (.int .i64 (wrap64 (2 * d))) := by rw [ha]; exact (putSel_off rfl).trans rfl
   replace ha := Aside0.mk ha
   have KP := Aside0.mk Q_KP
   have HX := Aside0.mk Q_HX
   have HQ := Aside0.mk Q_HQ
   have HB := Aside0.mk Q_HB
   refine value_ (w1 := w') (v := .int .i64 (wrap64 (((wrap64 (x0 - cn))) + ((wrap64 (2 * d)))))) (by rfl) rfl ?_ ?_
   ·go_simp
    (try simp only [i64_w])
    try rfl
   refine hK.out _ _ ⟨(by rw [ha.out]; exact putSel_upk 4 hb_ rfl rfl rfl), Q_KP, Q_HX, Q_HQ, Q_HB⟩
  refine steps_cons ?_ ?_
  ·rintro b a w' ⟨ha, Q_KP, Q_HX, Q_HQ, Q_HB⟩ hb_ hon hoff
   refine ⟨_, rfl, fun K hK => ?_⟩
   have e27 : a.tmps[27]? = some (.int .i64 (wrap64 (((wrap64 (x0 - cn))) + ((wrap64 (2 * d)))))) := by rw [ha]; exact putSel_on (e := (7, 27, .int .i64 (wrap64 (((wrap64 (x0 - cn))) + ((wrap64 (2 * d))))))) 4 rfl rfl (hon 7 (by kernel_rfl)) rfl
   have e28 : a.tmps[28]? = some (.int .i64 (wrap64 (2 * d))) := by rw [ha]; exact (putSel_off rfl).trans rfl
   replace ha := Aside0.mk ha
   have KP := Aside0.mk Q_KP
   have HX := Aside0.mk Q_HX
   have HQ := Aside0.mk Q_HQ
   have HB := Aside0.mk Q_HB
   have hr_ := HR0.out
   refine value_ (w1 := w') (v := .int .i64 (Int.tmod ((wrap64 (((wrap64 (x0 - cn))) + ((wrap64 (2 * d)))))) ((wrap64 (2 * d))))) (by rfl) rfl ?_ ?_
   ·go_simp
    (try simp only [i64_w])
    try rfl
   refine hK.out _ _ ⟨(by rw [ha.out]; exact putSel_upk 5 hb_ rfl rfl rfl), Q_KP, Q_HX, Q_HQ, Q_HB⟩
  refine steps_cons ?_ ?_
  ·rintro b a w' ⟨ha, Q_KP, Q_HX, Q_HQ, Q_HB⟩ hb_ hon hoff
   refine ⟨_, rfl, fun K hK => ?_⟩
   have e30 : a.tmps[30]? = some (.pointer (some ⟨gq, 0, none⟩)) := by rw [ha]; exact (putSel_off rfl).trans rfl
   replace ha := Aside0.mk ha
   have KP := Aside0.mk Q_KP
   have HX := Aside0.mk Q_HX
   have HQ := Aside0.mk Q_HQ
   have HB := Aside0.mk Q_HB
   refine value_ (w1 := w') (v := .pointer (some ⟨gq, 0, none⟩)) (by rfl) rfl ?_ ?_
   ·go_simp
    (try simp only [i64_w])
    try rfl
   refine hK.out _ _ ⟨(by rw [ha.out]; exact putSel_upk 6 hb_ rfl rfl rfl), Q_KP, Q_HX, Q_HQ, Q_HB⟩
  refine steps_cons ?_ ?_
  ·rintro b a w' ⟨ha, Q_KP, Q_HX, Q_HQ, Q_HB⟩ hb_ hon hoff
   refine ⟨_, rfl, fun K hK => ?_⟩
   have e31 : a.tmps[31]? = some (.pointer (some ⟨gq, 0, none⟩)) := by rw [ha]; exact putSel_on (e := (11, 31, .pointer (some ⟨gq, 0, none⟩))) 6 rfl rfl (hon 11 (by kernel_rfl)) rfl
   replace ha := Aside0.mk ha
   have KP := Aside0.mk Q_KP
   have HX := Aside0.mk Q_HX
   have HQ := Aside0.mk Q_HQ
   have HB := Aside0.mk Q_HB
   refine value_ (w1 := w') (v := .pointer (some ⟨gq, 0, none⟩)) (by rfl) rfl ?_ ?_
   ·go_simp
    (try simp only [i64_w])
    try rfl
   refine hK.out _ _ ⟨(by rw [ha.out]; exact putSel_upk 7 hb_ rfl rfl rfl), Q_KP, Q_HX, Q_HQ, Q_HB⟩
  refine steps_cons ?_ ?_
  ·rintro b a w' ⟨ha, Q_KP, Q_HX, Q_HQ, Q_HB⟩ hb_ hon hoff
   refine ⟨_, rfl, fun K hK => ?_⟩
   have e32 : a.tmps[32]? = some (.pointer (some ⟨gq, 0, none⟩)) := by rw [ha]; exact putSel_on (e := (12, 32, .pointer (some ⟨gq, 0, none⟩))) 7 rfl rfl (hon 12 (by kernel_rfl)) rfl
   replace ha := Aside0.mk ha
   have KP := Aside0.mk Q_KP
   have HX := Aside0.mk Q_HX
   have HQ := Aside0.mk Q_HQ
   have HB := Aside0.mk Q_HB
   have hc0_ : w'.cell? ⟨gq, 0, none⟩ = some (.int .i64 d) := (blk_cell HQ.out 0).trans rfl
   refine value_ (w1 := w') (v := .int .i64 d) (by rfl) rfl ?_ ?_
   ·go_simp
    (try simp only [i64_w])
    try rfl
   refine hK.out _ _ ⟨(by rw [ha.out]; exact putSel_upk 8 hb_ rfl rfl rfl), Q_KP, Q_HX, Q_HQ, Q_HB⟩
  refine steps_cons ?_ ?_
  ·rintro b a w' ⟨ha, Q_KP, Q_HX, Q_HQ, Q_HB⟩ hb_ hon hoff
   refine ⟨_, rfl, fun K hK => ?_⟩
   have e29 : a.tmps[29]? = some (.int .i64 (Int.tmod ((wrap64 (((wrap64 (x0 - cn))) + ((wrap64 (2 * d)))))) ((wrap64 (2 * d))))) := by rw [ha]; exact putSel_on (e := (9, 29, .int .i64 (Int.tmod ((wrap64 (((wrap64 (x0 - cn))) + ((wrap64 (2 * d)))))) ((wrap64 (2 * d)))))) 5 rfl rfl (hon 9 (by kernel_rfl)) rfl
   have e33 : a.tmps[33]? = some (.int .i64 d) := by rw [ha]; exact putSel_on (e := (13, 33, .int .i64 d)) 8 rfl rfl (hon 13 (by kernel_rfl)) rfl
   replace ha := Aside0.mk ha
   have KP := Aside0.mk Q_KP
   have HX := Aside0.mk Q_HX
   have HQ := Aside0.mk Q_HQ
   have HB := Aside0.mk Q_HB
   refine value_ (w1 := w') (v := .bool (decide (((Int.tmod ((wrap64 (((wrap64 (x0 - cn))) + ((wrap64 (2 * d)))))) ((wrap64 (2 * d))))) < (d)))) (by rfl) rfl ?_ ?_
   ·go_simp
    (try simp only [i64_w])
    try rfl
   refine hK.out _ _ ⟨(by rw [ha.out]; exact putSel_upk 9 hb_ rfl rfl rfl), Q_KP, Q_HX, Q_HQ, Q_HB⟩
  exact steps_nil
 rintro b a w2 hall ⟨ha, Q_KP, Q_HX, Q_HQ, Q_HB⟩
 clear HB HQ HX KP
 have hb1_ := hall 1 (by kernel_rfl)
 have hb2_ := hall 2 (by kernel_rfl)
 have hb3_ := hall 3 (by kernel_rfl)
 have hb5_ := hall 5 (by kernel_rfl)
 have hb7_ := hall 7 (by kernel_rfl)
 have hb9_ := hall 9 (by kernel_rfl)
 have hb11_ := hall 11 (by kernel_rfl)
 have hb12_ := hall 12 (by kernel_rfl)
 have hb13_ := hall 13 (by kernel_rfl)
 have hb14_ := hall 14 (by kernel_rfl)
 subst ha
 simp only [putSel, hb1_, hb2_, hb3_, hb5_, hb7_, hb9_, hb11_, hb12_, hb13_, hb14_, if_true, Act.put, List.setIfInBounds_toArray, List.set_cons_zero, List.set_cons_succ]
 have KP := Aside0.mk Q_KP
 clear Q_KP
 have HX := Aside0.mk Q_HX
 clear Q_HX
 have HQ := Aside0.mk Q_HQ
 clear Q_HQ
 have HB := Aside0.mk Q_HB
 clear Q_HB
 clear hall hb1_ hb2_ hb3_ hb5_ hb7_ hb9_ hb11_ hb12_ hb13_ hb14_
 obtain ⟨q0, q1⟩ : _ ∧ _ := ⟨blk_cell HQ.out 0, blk_cell HQ.out 1⟩
 have c1 := blk_cell HX.out 1; have f1 := blk_frozen HX.out 1
 have r0 := HR0.out; have r1 := beq_eq_false_iff_ne.mpr r0; have r2 := decide_eq_false r0; have r3 := eq_false r0
 go_wp2_with (fail)
 clear q0 q1 r0 r1 r2 r3 c1 f1
 refine (spec_l05Code.calls gq d g (x1) cf d g w0 _ ⟨HQ.out, HG.out⟩ HB.out HB2.out).mono ?_
 rintro e w7 ⟨rfl, hi, hb, hk⟩
 have hx2 := (hk.2 gx (blk_lt HX.out) (fun h => HNE.out h.symm) (by simp)).trans HX.out; replace KP := Aside0.mk (Kept.then_ KP.out (keepX gx hk HQ.out hi.1) (fun b hb => .inl hb)); replace HX := Aside0.mk hx2; replace HQ := Aside0.mk hi.1; replace HB := Aside0.mk hb; clear hi hb hk hx2
 obtain ⟨q0, q1⟩ : _ ∧ _ := ⟨blk_cell HQ.out 0, blk_cell HQ.out 1⟩
 have c2 := blk_cell HX.out 2; have f2 := blk_frozen HX.out 2
 have r0 := HR0.out; have r1 := beq_eq_false_iff_ne.mpr r0; have r2 := decide_eq_false r0; have r3 := eq_false r0
 go_wp2
 clear q0 q1 r0 r1 r2 r3 c2 f2
 replace KP := Aside0.mk (Kept.setCell KP.out (p := ⟨gx, 2, none⟩) (.inl rfl) (.int .i64 (Go.bits .xor .i64 (cf) (old))))
 replace HQ := Aside0.mk (blk_far HQ.out (p := ⟨gx, 2, none⟩) HNE.out (.int .i64 (Go.bits .xor .i64 (cf) (old))))
 replace HX := Aside0.mk (blk_put HX.out 2 (.int .i64 (Go.bits .xor .i64 (cf) (old))) rfl)
 replace HB := Aside0.mk (below_set HB.out HGX.out (j := 2) (v := .int .i64 (Go.bits .xor .i64 (cf) (old))))
 generalize (w7.setCell ⟨gx, 2, none⟩ (.int .i64 (Go.bits .xor .i64 (cf) (old)))) = w8 at KP HX HQ HB ⊢
 go_end0
 exact ⟨rfl, HX.out, HQ.out, KP.out, HB.out⟩
def spec_l05Write.f (k : Nat) (x0 x1 x2 x3 x4 x5 x6 d g old : Int) : Option (Int × Int × Int × Int × Int × Int × Int) :=
 if wrap64 (2 * d) = 0 then none else (spec_l05Count.f k d g x2).bind fun cn_ => if cn_.2 = (d, g) then if Int.tmod (wrap64 (wrap64 (x0 - cn_.1) + wrap64 (2 * d))) (wrap64 (2 * d)) < d then (spec_l05Code.f d g (x0)).bind fun cb_ => if cb_.2 = (d, g) then (spec_l05Code.f d g (Int.tmod (wrap64 (x0 + 1)) (wrap64 (2 * d)))).bind fun ce_ => if ce_.2 = (d, g) then (spec_l05Code.f d g (x1)).bind fun cf_ => if cf_.2 = (d, g) then some (Int.tmod (wrap64 (x0 + 1)) (wrap64 (2 * d)), x1, Go.bits .xor .i64 cf_.1 old, x3, wrap64 (x4 + 1), Go.bits .xor .i64 cb_.1 ce_.1, x6) else none else none else none else (spec_l05Code.f d g (x1)).bind fun cf_ => if cf_.2 = (d, g) then some (x0, x1, Go.bits .xor .i64 cf_.1 old, x3, x4, x5, x6) else none else none
theorem spec_l05Write.calls (k gq gx : Nat) (x0 x1 x2 x3 x4 x5 x6 d g old y0 y1 y2 y3 y4 y5 y6 : Int) (w0 w : World) (hB : Below w0.heap.size w0 w) (hg : w0.heap.size ≤ gq) (hgx : w0.heap.size ≤ gx) (hne : gq ≠ gx) (hq : w.heap[gq]? = some (.cells #[.int .i64 d, .int .i64 g] 27 (0, 0))) (hx : w.heap[gx]? = some (.cells #[.int .i64 x0, .int .i64 x1, .int .i64 x2, .int .i64 x3, .int .i64 x4, .int .i64 x5, .int .i64 x6] 43 (0, 0))) (h : spec_l05Write.f k x0 x1 x2 x3 x4 x5 x6 d g old = some (y0, y1, y2, y3, y4, y5, y6)) :
  Calls Tryd.prog 16 #[.pointer (some ⟨gq, 0, none⟩), .pointer (some ⟨gx, 0, none⟩), .int .i64 old] w fun e w' => e = .returned (.tuple #[]) ∧ w'.heap[gx]? = some (.cells #[.int .i64 y0, .int .i64 y1, .int .i64 y2, .int .i64 y3, .int .i64 y4, .int .i64 y5, .int .i64 y6] 43 (0, 0)) ∧ w'.heap[gq]? = some (.cells #[.int .i64 d, .int .i64 g] 27 (0, 0)) ∧ Kept w w' (fun b => b = gx) ∧ Below w0.heap.size w0 w' := by
 unfold spec_l05Write.f at h
 by_cases hR : wrap64 (2 * d) = 0
 ·rw [if_pos hR] at h; cases h
 rw [if_neg hR] at h
 obtain ⟨cn_, hcn, i0a⟩ := Option.bind_eq_some_iff.mp h
 split at i0a
 case isFalse => cases i0a
 rename_i ecn
 obtain ⟨cn, cnd, cng⟩ := cn_
 simp only [Prod.mk.injEq] at ecn
 obtain ⟨rfl, rfl⟩ := ecn
 dsimp only at i0a
 by_cases ht : Int.tmod (wrap64 (wrap64 (x0 - cn) + wrap64 (2 * cnd))) (wrap64 (2 * cnd)) < cnd
 ·rw [if_pos ht] at i0a
  obtain ⟨cb_, hcb, i1a⟩ := Option.bind_eq_some_iff.mp i0a
  split at i1a
  case isFalse => cases i1a
  rename_i ecb
  obtain ⟨cb, cbd, cbg⟩ := cb_
  simp only [Prod.mk.injEq] at ecb
  obtain ⟨rfl, rfl⟩ := ecb
  obtain ⟨ce_, hce, i2a⟩ := Option.bind_eq_some_iff.mp i1a
  split at i2a
  case isFalse => cases i2a
  rename_i ece
  obtain ⟨ce, ced, ceg⟩ := ce_
  simp only [Prod.mk.injEq] at ece
  obtain ⟨rfl, rfl⟩ := ece
  obtain ⟨cf_, hcf, i3a⟩ := Option.bind_eq_some_iff.mp i2a
  split at i3a
  case isFalse => cases i3a
  rename_i ecf
  obtain ⟨cf, cfd, cfg⟩ := cf_
  simp only [Prod.mk.injEq] at ecf
  obtain ⟨rfl, rfl⟩ := ecf
  simp only [Option.some.injEq, Prod.mk.injEq] at i3a
  obtain ⟨rfl, rfl, rfl, rfl, rfl, rfl, rfl⟩ := i3a
  exact l05WriteA k gq gx _ _ _ _ _ _ _ _ _ _ _ _ _ _ w0 w hB hg hgx hne hq hx hR hcn ht hcb hce hcf
 ·rw [if_neg ht] at i0a
  obtain ⟨cf_, hcf, i3a⟩ := Option.bind_eq_some_iff.mp i0a
  split at i3a
  case isFalse => cases i3a
  rename_i ecf
  obtain ⟨cf, cfd, cfg⟩ := cf_
  simp only [Prod.mk.injEq] at ecf
  obtain ⟨rfl, rfl⟩ := ecf
  simp only [Option.some.injEq, Prod.mk.injEq] at i3a
  obtain ⟨rfl, rfl, rfl, rfl, rfl, rfl, rfl⟩ := i3a
  exact l05WriteB k gq gx _ _ _ _ _ _ _ _ _ _ _ _ w0 w hB hg hgx hne hq hx hR hcn ht hcf

end Go.Proofs.YteccfnppbonniaaDoor.Pa

namespace Go.Proofs.YteccfnppbonniaaDoor.Pa
open Go.RowKit Go.Proofs.YteccfnppbonniaaDoorW.PrintWords Go.Proofs.YteccfnppbonniaaDoorW.PrintLast Go.Proofs.YteccfnppbonniaaDoorW.PrintMore
attribute [local go_sem] max2_int min2_int max_two min_two max_three min_three max_four min_four   -- for this text's walks alone
set_option linter.unusedVariables false
set_option linter.unusedSimpArgs false

/-! ### spec_l05Read: function 17 -/
def spec_l05Read.T2 : Bool × List (List Nat × List Nat) := (true, [([], []), ([], []), ([1], [1]), ([2], [2]), ([3], [3]), ([0, 4], [0, 4]), ([], []), ([5, 6], [5, 6]), ([], []), ([7, 8], [7, 8]), ([], []), ([10], [10]), ([11], [11]), ([12], [12]), ([9, 13], [9, 13])])
def spec_l05Read.B2 : List Nat := [0, 0, 2, 6, 14, 31, 0, 127, 0, 511, 0, 1024, 3072, 7168, 16383]
theorem spec_l05Read.tab2 : rtab .any (opsOf Tryd.f17 2) = spec_l05Read.T2 := by kernel_rfl
theorem spec_l05Read.bits2 : waitsOk spec_l05Read.T2.2 spec_l05Read.B2 = true := by kernel_rfl
set_option maxHeartbeats 8000000 in
set_option maxRecDepth 100000 in
theorem l05ReadA (k gq gx : Nat) (x0 x1 x2 x3 x4 x5 x6 d g old cn cb ce cf : Int) (w0 w : World) (hB : Below w0.heap.size w0 w) (hg : w0.heap.size ≤ gq) (hgx : w0.heap.size ≤ gx) (hne : gq ≠ gx) (hq : w.heap[gq]? = some (.cells #[.int .i64 d, .int .i64 g] 27 (0, 0))) (hx : w.heap[gx]? = some (.cells #[.int .i64 x0, .int .i64 x1, .int .i64 x2, .int .i64 x3, .int .i64 x4, .int .i64 x5, .int .i64 x6] 43 (0, 0))) (hR : ¬ wrap64 (2 * d) = 0) (hc : spec_l05Count.f k d g x3 = some (cn, d, g)) (ht : spec_l00In.f (Int.tmod (wrap64 (wrap64 (cn - x1) + wrap64 (2 * d))) (wrap64 (2 * d))) 1 d = some true) (h0 : spec_l05Code.f d g x1 = some (cb, d, g)) (h1 : spec_l05Code.f d g (Int.tmod (wrap64 (x1 + 1)) (wrap64 (2 * d))) = some (ce, d, g)) (h2 : spec_l05Code.f d g x0 = some (cf, d, g)) :
  Calls Tryd.prog 17 #[.pointer (some ⟨gq, 0, none⟩), .pointer (some ⟨gx, 0, none⟩), .int .i64 old] w fun e w' => e = .returned (.tuple #[]) ∧ w'.heap[gx]? = some (.cells #[.int .i64 x0, .int .i64 (Int.tmod (wrap64 (x1 + 1)) (wrap64 (2 * d))), .int .i64 x2, .int .i64 (Go.bits .xor .i64 (cf) (old)), .int .i64 (wrap64 (x4 - 1)), .int .i64 x5, .int .i64 (Go.bits .xor .i64 (cb) (ce))] 43 (0, 0)) ∧ w'.heap[gq]? = some (.cells #[.int .i64 d, .int .i64 g] 27 (0, 0)) ∧ Kept w w' (fun b => b = gx) ∧ Below w0.heap.size w0 w' := by
 have hu := Tryd.underlying27
 have hu2 := Tryd.underlying43
 have HX := Aside0.mk hx; have HQ := Aside0.mk hq; have HB := Aside0.mk hB; have HG := Aside0.mk hg; have HGX := Aside0.mk hgx; have HNE := Aside0.mk hne; have HR0 := Aside0.mk hR; have KP : Aside0 (Kept w w (fun b => b = gx)) := ⟨Kept.refl _ _⟩
 clear hx hq hB hg hgx hne hR
 have HC := Aside0.mk hc; have HB0 := Aside0.mk h0; have HB1 := Aside0.mk h1; have HB2 := Aside0.mk h2
 clear hc h0 h1 h2
 have HT := Aside0.mk ht
 clear ht
 go_enter Tryd.func17, Tryd.ntmps17
 obtain ⟨q0, q1⟩ : _ ∧ _ := ⟨blk_cell HQ.out 0, blk_cell HQ.out 1⟩
 have c3 := blk_cell HX.out 3; have f3 := blk_frozen HX.out 3
 have r0 := HR0.out; have r1 := beq_eq_false_iff_ne.mpr r0; have r2 := decide_eq_false r0; have r3 := eq_false r0
 go_wp2_with (fail)
 clear q0 q1 r0 r1 r2 r3 c3 f3
 refine (spec_l05Count.calls k gq d g x3 cn d g w0 _ ⟨HQ.out, HG.out⟩ HB.out HC.out).mono ?_
 rintro e w1 ⟨rfl, hi, hb, hk⟩
 have hx2 := (hk.2 gx (blk_lt HX.out) (fun h => HNE.out h.symm) (by simp)).trans HX.out; replace KP := Aside0.mk (Kept.then_ KP.out (keepX gx hk HQ.out hi.1) (fun b hb => .inl hb)); replace HX := Aside0.mk hx2; replace HQ := Aside0.mk hi.1; replace HB := Aside0.mk hb; clear hi hb hk hx2
 go_wp2_with (fail)
 have hb : Below w1.heap.size w1 w1.drew := below_drew1 (Below.refl _ _)
 replace KP := Aside0.mk (Kept.then_ KP.out (Kept.of_below hb (fun b => b = gx)) (fun b hb => .inl hb)); replace HX := Aside0.mk (blk_below HX.out hb); replace HQ := Aside0.mk (blk_below HQ.out hb)
 replace HB := Aside0.mk (below_step HB.out hb); clear hb
 refine start_ (n := 15) (S := fun w' => True) (ds := []) #[false, false, false, false, false, false, false, false, false, false, false, false, false, false, false] (by kernel_rfl) rfl rfl trivial (fun hHeld => ?_)
 refine with_tabW spec_l05Read.tab2 spec_l05Read.bits2 (fun HT_ HW_ => ?_)
 generalize w1.drew = wk_ at KP HX HQ HB hHeld ⊢
 refine pure_ (i := 0) (N := some 20) (v := ?_) (a' := ?_) #[true, false, false, false, false, false, false, false, false, false, false, false, false, false, false] rfl rfl (any_of HT_.out (by kernel_rfl)) (fun _ _ _ h => h) (Or.inl ⟨by rfl, ?_⟩) ?_ ?_
 rotate_left
 ·intro w'
  go_simp
  with_reducible rfl
 rotate_left
 ·simp only [Act.put, List.setIfInBounds_toArray, List.set_cons_zero, List.set_cons_succ, i64_w, i32_w]
  rfl
 refine pure_ (i := 1) (N := some 21) (v := ?_) (a' := ?_) #[true, true, false, false, false, false, false, false, false, false, false, false, false, false, false] rfl rfl (any_of HT_.out (by kernel_rfl)) (fun _ _ _ h => h) (Or.inl ⟨by rfl, ?_⟩) ?_ ?_
 rotate_left
 ·intro w'
  go_simp
  with_reducible rfl
 rotate_left
 ·simp only [Act.put, List.setIfInBounds_toArray, List.set_cons_zero, List.set_cons_succ, i64_w, i32_w]
  rfl
 refine pure_ (i := 6) (N := some 26) (v := ?_) (a' := ?_) #[true, true, false, false, false, false, true, false, false, false, false, false, false, false, false] rfl rfl (any_of HT_.out (by kernel_rfl)) (fun _ _ _ h => h) (Or.inl ⟨by rfl, ?_⟩) ?_ ?_
 rotate_left
 ·intro w'
  go_simp
  with_reducible rfl
 rotate_left
 ·simp only [Act.put, List.setIfInBounds_toArray, List.set_cons_zero, List.set_cons_succ, i64_w, i32_w]
  rfl
 refine pure_ (i := 8) (N := some 28) (v := ?_) (a' := ?_) #[true, true, false, false, false, false, true, false, true, false, false, false, false, false, false] rfl rfl (any_of HT_.out (by kernel_rfl)) (fun _ _ _ h => h) (Or.inl ⟨by rfl, ?_⟩) ?_ ?_
 rotate_left
 ·intro w'
  go_simp
  with_reducible rfl
 rotate_left
 ·simp only [Act.put, List.setIfInBounds_toArray, List.set_cons_zero, List.set_cons_succ, i64_w, i32_w]
  rfl
 refine pure_ (i := 10) (N := some 30) (v := ?_) (a' := ?_) #[true, true, false, false, false, false, true, false, true, false, true, false, false, false, false] rfl rfl (any_of HT_.out (by kernel_rfl)) (fun _ _ _ h => h) (Or.inl ⟨by rfl, ?_⟩) ?_ ?_
 rotate_left
 ·intro w'
  go_simp
  with_reducible rfl
 rotate_left
 ·simp only [Act.put, List.setIfInBounds_toArray, List.set_cons_zero, List.set_cons_succ, i64_w, i32_w]
  rfl
 refine inv_at [2, 3, 4, 5, 7, 9, 11, 12, 13, 14] (fun a0_ b a w' => a = putSel a0_ b [(2, 22, .pointer (some ⟨gx, 0, none⟩)), (3, 23, .pointer (some ⟨gx, 1, none⟩)), (4, 24, .int .i64 x1), (5, 25, .int .i64 (wrap64 (cn - x1))), (7, 27, .int .i64 (wrap64 (((wrap64 (cn - x1))) + ((wrap64 (2 * d)))))), (9, 29, .int .i64 (Int.tmod ((wrap64 (((wrap64 (cn - x1))) + ((wrap64 (2 * d)))))) ((wrap64 (2 * d))))), (11, 31, .pointer (some ⟨gq, 0, none⟩)), (12, 32, .pointer (some ⟨gq, 0, none⟩)), (13, 33, .int .i64 d), (14, 34, .bool true)] ∧ (Kept w w' (fun b => b = gx)) ∧ (w'.heap[gx]? = some (.cells #[.int .i64 x0, .int .i64 x1, .int .i64 x2, .int .i64 x3, .int .i64 x4, .int .i64 x5, .int .i64 x6] 43 (0, 0))) ∧ (w'.heap[gq]? = some (.cells #[.int .i64 d, .int .i64 g] 27 (0, 0))) ∧ (Below w0.heap.size w0 w')) HT_.out HW_.out (by kernel_rfl) (by kernel_rfl) ?_ ?_ ?_
 ·exact ⟨by simp only [putSel, Bool.false_eq_true, if_false], KP.out, HX.out, HQ.out, HB.out⟩
 ·skip
  clear HB HQ HX KP
  refine steps_cons ?_ ?_
  ·rintro b a w' ⟨ha, Q_KP, Q_HX, Q_HQ, Q_HB⟩ hb_ hon hoff
   refine ⟨_, rfl, fun K hK => ?_⟩
   have e21 : a.tmps[21]? = some (.pointer (some ⟨gx, 0, none⟩)) := by rw [ha]; exact (putSel_off rfl).trans rfl
   replace ha := Aside0.mk ha
   have KP := Aside0.mk Q_KP
   have HX := Aside0.mk Q_HX
   have HQ := Aside0.mk Q_HQ
   have HB := Aside0.mk Q_HB
   refine value_ (w1 := w') (v := .pointer (some ⟨gx, 0, none⟩)) (by rfl) rfl ?_ ?_
   ·go_simp
    (try simp only [i64_w])
    try rfl
   refine hK.out _ _ ⟨(by rw [ha.out]; exact putSel_upk 0 hb_ rfl rfl rfl), Q_KP, Q_HX, Q_HQ, Q_HB⟩
  refine steps_cons ?_ ?_
  ·rintro b a w' ⟨ha, Q_KP, Q_HX, Q_HQ, Q_HB⟩ hb_ hon hoff
   refine ⟨_, rfl, fun K hK => ?_⟩
   have e22 : a.tmps[22]? = some (.pointer (some ⟨gx, 0, none⟩)) := by rw [ha]; exact putSel_on (e := (2, 22, .pointer (some ⟨gx, 0, none⟩))) 0 rfl rfl (hon 2 (by kernel_rfl)) rfl
   replace ha := Aside0.mk ha
   have KP := Aside0.mk Q_KP
   have HX := Aside0.mk Q_HX
   have HQ := Aside0.mk Q_HQ
   have HB := Aside0.mk Q_HB
   refine value_ (w1 := w') (v := .pointer (some ⟨gx, 1, none⟩)) (by rfl) rfl ?_ ?_
   ·go_simp
    (try simp only [i64_w])
    try rfl
   refine hK.out _ _ ⟨(by rw [ha.out]; exact putSel_upk 1 hb_ rfl rfl rfl), Q_KP, Q_HX, Q_HQ, Q_HB⟩
  refine steps_cons ?_ ?_
  ·rintro b a w' ⟨ha, Q_KP, Q_HX, Q_HQ, Q_HB⟩ hb_ hon hoff
   refine ⟨_, rfl, fun K hK => ?_⟩
   have e23 : a.tmps[23]? = some (.pointer (some ⟨gx, 1, none⟩)) := by rw [ha]; exact putSel_on (e := (3, 23, .pointer (some ⟨gx, 1, none⟩))) 1 rfl rfl (hon 3 (by kernel_rfl)) rfl
   replace ha := Aside0.mk ha
   have KP := Aside0.mk Q_KP
   have HX := Aside0.mk Q_HX
   have HQ := Aside0.mk Q_HQ
   have HB := Aside0.mk Q_HB
   have hc1_ : w'.cell? ⟨gx, 1, none⟩ = some (.int .i64 x1) := (blk_cell HX.out 1).trans rfl
   refine value_ (w1 := w') (v := .int .i64 x1) (by rfl) rfl ?_ ?_
   ·go_simp
    (try simp only [i64_w])
    try rfl
   refine hK.out _ _ ⟨(by rw [ha.out]; exact putSel_upk 2 hb_ rfl rfl rfl), Q_KP, Q_HX, Q_HQ, Q_HB⟩
  refine steps_cons ?_ ?_
  ·rintro b a w' ⟨ha, Q_KP, Q_HX, Q_HQ, Q_HB⟩ hb_ hon hoff
   refine ⟨_, rfl, fun K hK => ?_⟩
   have e20 : a.tmps[20]? = some (.int .i64 cn) := by rw [ha]; exact (putSel_off rfl).trans rfl
   have e24 : a.tmps[24]? = some (.int .i64 x1) := by rw [ha]; exact putSel_on (e := (4, 24, .int .i64 x1)) 2 rfl rfl (hon 4 (by kernel_rfl)) rfl
   replace ha := Aside0.mk ha
   have KP := Aside0.mk Q_KP
   have HX := Aside0.mk Q_HX
   have HQ := Aside0.mk Q_HQ
   have HB := Aside0.mk Q_HB
   refine value_ (w1 := w') (v := .int .i64 (wrap64 (cn - x1))) (by rfl) rfl ?_ ?_
   ·go_simp
    (try simp only [i64_w])
    try rfl
   refine hK.out _ _ ⟨(by rw [ha.out]; exact putSel_upk 3 hb_ rfl rfl rfl), Q_KP, Q_HX, Q_HQ, Q_HB⟩
  refine steps_cons ?_ ?_
  ·rintro b a w' ⟨ha, Q_KP, Q_HX, Q_HQ, Q_HB⟩ hb_ hon hoff
   refine ⟨_, rfl, fun K hK => ?_⟩
   have e25 : a.tmps[25]? = some (.int .i64 (wrap64 (cn - x1))) := by rw [ha]; exact putSel_on (e := (5, 25, .int .i64 (wrap64 (cn - x1)))) 3 rfl rfl (hon 5 (by kernel_rfl)) rfl
   have e26 : a.tmps[26]? = some (.int .i64 (wrap64 (2 * d))) := by rw [ha]; exact (putSel_off rfl).trans rfl
   replace ha := Aside0.mk ha
   have KP := Aside0.mk Q_KP
   have HX := Aside0.mk Q_HX
   have HQ := Aside0.mk Q_HQ
   have HB := Aside0.mk Q_HB
   refine value_ (w1 := w') (v := .int .i64 (wrap64 (((wrap64 (cn - x1))) + ((wrap64 (2 * d)))))) (by rfl) rfl ?_ ?_
   ·go_simp
    (try simp only [i64_w])
    try rfl
   refine hK.out _ _ ⟨(by rw [ha.out]; exact putSel_upk 4 hb_ rfl rfl rfl), Q_KP, Q_HX, Q_HQ, Q_HB⟩
  refine steps_cons ?_ ?_
  ·rintro b a w' ⟨ha, Q_KP, Q_HX, Q_HQ, Q_HB⟩ hb_ hon hoff
   refine ⟨_, rfl, fun K hK => ?_⟩
   have e27 : a.tmps[27]? = some (.int .i64 (wrap64 (((wrap64 (cn - x1))) + ((wrap64 (2 * d)))))) := by rw [ha]; exact putSel_on (e := (7, 27, .int .i64 (wrap64 (((wrap64 (cn - x1))) + ((wrap64 (2 * d))))))) 4 rfl rfl (hon 7 (by kernel_rfl)) rfl
   have e28 : a.tmps[28]? = some (.int .i64 (wrap64 (2 * d))) := by rw [ha]; exact (putSel_off rfl).trans rfl
   replace ha := Aside0.mk ha
   have KP := Aside0.mk Q_KP
   have HX := Aside0.mk Q_HX
   have HQ := Aside0.mk Q_HQ
   have HB := Aside0.mk Q_HB
   have hr_ := HR0.out
   refine value_ (w1 := w') (v := .int .i64 (Int.tmod ((wrap64 (((wrap64 (cn - x1))) + ((wrap64 (2 * d)))))) ((wrap64 (2 * d))))) (by rfl) rfl ?_ ?_
   ·go_simp
    (try simp only [i64_w])
    try rfl
   refine hK.out _ _ ⟨(by rw [ha.out]; exact putSel_upk 5 hb_ rfl rfl rfl), Q_KP, Q_HX, Q_HQ, Q_HB⟩
  refine steps_cons ?_ ?_
  ·rintro b a w' ⟨ha, Q_KP, Q_HX, Q_HQ, Q_HB⟩ hb_ hon hoff
   refine ⟨_, rfl, fun K hK => ?_⟩
   have e30 : a.tmps[30]? = some (.pointer (some ⟨gq, 0, none⟩)) := by rw [ha]; exact (putSel_off rfl).trans rfl
   replace ha := Aside0.mk ha
   have KP := Aside0.mk Q_KP
   have HX := Aside0.mk Q_HX
   have HQ := Aside0.mk Q_HQ
   have HB := Aside0.mk Q_HB
   refine value_ (w1 := w') (v := .pointer (some ⟨gq, 0, none⟩)) (by rfl) rfl ?_ ?_
   ·go_simp
    (try simp only [i64_w])
    try rfl
   refine hK.out _ _ ⟨(by rw [ha.out]; exact putSel_upk 6 hb_ rfl rfl rfl), Q_KP, Q_HX, Q_HQ, Q_HB⟩
  refine steps_cons ?_ ?_
  ·rintro b a w' ⟨ha, Q_KP, Q_HX, Q_HQ, Q_HB⟩ hb_ hon hoff
   refine ⟨_, rfl, fun K hK => ?_⟩
   have e31 : a.tmps[31]? = some (.pointer (some ⟨gq, 0, none⟩)) := by rw [ha]; exact putSel_on (e := (11, 31, .pointer (some ⟨gq, 0, none⟩))) 6 rfl rfl (hon 11 (by kernel_rfl)) rfl
   replace ha := Aside0.mk ha
   have KP := Aside0.mk Q_KP
   have HX := Aside0.mk Q_HX
   have HQ := Aside0.mk Q_HQ
   have HB := Aside0.mk Q_HB
   refine value_ (w1 := w') (v := .pointer (some ⟨gq, 0, none⟩)) (by rfl) rfl ?_ ?_
   ·go_simp
    (try simp only [i64_w])
    try rfl
   refine hK.out _ _ ⟨(by rw [ha.out]; exact putSel_upk 7 hb_ rfl rfl rfl), Q_KP, Q_HX, Q_HQ, Q_HB⟩
  refine steps_cons ?_ ?_
  ·rintro b a w' ⟨ha, Q_KP, Q_HX, Q_HQ, Q_HB⟩ hb_ hon hoff
   refine ⟨_, rfl, fun K hK => ?_⟩
   have e32 : a.tmps[32]? = some (.pointer (some ⟨gq, 0, none⟩)) := by rw [ha]; exact putSel_on (e := (12, 32, .pointer (some ⟨gq, 0, none⟩))) 7 rfl rfl (hon 12 (by kernel_rfl)) rfl
   replace ha := Aside0.mk ha
   have KP := Aside0.mk Q_KP
   have HX := Aside0.mk Q_HX
   have HQ := Aside0.mk Q_HQ
   have HB := Aside0.mk Q_HB
   have hc0_ : w'.cell? ⟨gq, 0, none⟩ = some (.int .i64 d) := (blk_cell HQ.out 0).trans rfl
   refine value_ (w1 := w') (v := .int .i64 d) (by rfl) rfl ?_ ?_
   ·go_simp
    (try simp only [i64_w])
    try rfl
   refine hK.out _ _ ⟨(by rw [ha.out]; exact putSel_upk 8 hb_ rfl rfl rfl), Q_KP, Q_HX, Q_HQ, Q_HB⟩
  refine steps_cons ?_ ?_
  ·rintro b a w' ⟨ha, Q_KP, Q_HX, Q_HQ, Q_HB⟩ hb_ hon hoff
   refine ⟨_, rfl, fun K hK => ?_⟩
   have e29 : a.tmps[29]? = some (.int .i64 (Int.tmod ((wrap64 (((wrap64 (cn - x1))) + ((wrap64 (2 * d)))))) ((wrap64 (2 * d))))) := by rw [ha]; exact putSel_on (e := (9, 29, .int .i64 (Int.tmod ((wrap64 (((wrap64 (cn - x1))) + ((wrap64 (2 * d)))))) ((wrap64 (2 * d)))))) 5 rfl rfl (hon 9 (by kernel_rfl)) rfl
   have e33 : a.tmps[33]? = some (.int .i64 d) := by rw [ha]; exact putSel_on (e := (13, 33, .int .i64 d)) 8 rfl rfl (hon 13 (by kernel_rfl)) rfl
   replace ha := Aside0.mk ha
   have KP := Aside0.mk Q_KP
   have HX := Aside0.mk Q_HX
   have HQ := Aside0.mk Q_HQ
   have HB := Aside0.mk Q_HB
   refine goes_ Tryd.func29 (by kernel_rfl) rfl #[.int .i64 (Int.tmod ((wrap64 (((wrap64 (cn - x1))) + ((wrap64 (2 * d)))))) ((wrap64 (2 * d)))), .int .i64 1, .int .i64 d] (by rfl) rfl rfl (by first | (simp only [List.map_toArray, List.map_cons, List.map_nil, Act.eval, Array.getD_eq_getD_getElem?, Option.getD_some, e29, e33]; done) | (simp only [List.map_toArray, List.map_cons, List.map_nil, Act.eval, Array.getD_eq_getD_getElem?, Option.getD_some, e29, e33]; rfl)) ?_
   refine (spec_l00In.calls (Int.tmod (wrap64 (wrap64 (cn - x1) + wrap64 (2 * d))) (wrap64 (2 * d))) 1 d true w' HT.out).mono ?_
   rintro e w5 ⟨rfl, hb⟩
   obtain ⟨nd_, rfl⟩ := hb
   have hb := pw_below_drewN (Below.refl w'.heap.size w') nd_
   refine ⟨_, rfl, ?_⟩
   refine hK.out _ _ ⟨(by rw [ha.out]; exact putSel_upk 9 hb_ rfl rfl rfl), Kept.then_ KP.out (Kept.of_below hb (fun b => b = gx)) (fun b hb => .inl hb), blk_below HX.out hb, blk_below HQ.out hb, below_step HB.out hb⟩
  exact steps_nil
 rintro b a w2 hall ⟨ha, Q_KP, Q_HX, Q_HQ, Q_HB⟩
 clear HB HQ HX KP
 have hb2_ := hall 2 (by kernel_rfl)
 have hb3_ := hall 3 (by kernel_rfl)
 have hb4_ := hall 4 (by kernel_rfl)
 have hb5_ := hall 5 (by kernel_rfl)
 have hb7_ := hall 7 (by kernel_rfl)
 have hb9_ := hall 9 (by kernel_rfl)
 have hb11_ := hall 11 (by kernel_rfl)
 have hb12_ := hall 12 (by kernel_rfl)
 have hb13_ := hall 13 (by kernel_rfl)
 have hb14_ := hall 14 (by kernel_rfl)
 subst ha
 simp only [putSel, hb2_, hb3_, hb4_, hb5_, hb7_, hb9_, hb11_, hb12_, hb13_, hb14_, if_true, Act.put, List.setIfInBounds_toArray, List.set_cons_zero, List.set_cons_succ]
 have KP := Aside0.mk Q_KP
 clear Q_KP
 have HX := Aside0.mk Q_HX
 clear Q_HX
 have HQ := Aside0.mk Q_HQ
 clear Q_HQ
 have HB := Aside0.mk Q_HB
 clear Q_HB
 clear hall hb2_ hb3_ hb4_ hb5_ hb7_ hb9_ hb11_ hb12_ hb13_ hb14_
 obtain ⟨q0, q1⟩ : _ ∧ _ := ⟨blk_cell HQ.out 0, blk_cell HQ.out 1⟩
 have c1 := blk_cell HX.out 1; have f1 := blk_frozen HX.out 1
 have r0 := HR0.out; have r1 := beq_eq_false_iff_ne.mpr r0; have r2 := decide_eq_false r0; have r3 := eq_false r0
 go_wp2_with (fail)
 clear q0 q1 r0 r1 r2 r3 c1 f1
 refine (spec_l05Code.calls gq d g (x1) cb d g w0 _ ⟨HQ.out, HG.out⟩ HB.out HB0.out).mono ?_
 rintro e w3 ⟨rfl, hi, hb, hk⟩
 have hx2 := (hk.2 gx (blk_lt HX.out) (fun h => HNE.out h.symm) (by simp)).trans HX.out; replace KP := Aside0.mk (Kept.then_ KP.out (keepX gx hk HQ.out hi.1) (fun b hb => .inl hb)); replace HX := Aside0.mk hx2; replace HQ := Aside0.mk hi.1; replace HB := Aside0.mk hb; clear hi hb hk hx2
 obtain ⟨q0, q1⟩ : _ ∧ _ := ⟨blk_cell HQ.out 0, blk_cell HQ.out 1⟩
 have c1 := blk_cell HX.out 1; have f1 := blk_frozen HX.out 1
 have c4 := blk_cell HX.out 4; have f4 := blk_frozen HX.out 4
 have r0 := HR0.out; have r1 := beq_eq_false_iff_ne.mpr r0; have r2 := decide_eq_false r0; have r3 := eq_false r0
 go_wp2_with (fail)
 clear q0 q1 r0 r1 r2 r3 c1 f1 c4 f4
 replace KP := Aside0.mk (Kept.setCell KP.out (p := ⟨gx, 1, none⟩) (.inl rfl) (.int .i64 (Int.tmod (wrap64 (x1 + 1)) (wrap64 (2 * d)))))
 replace HQ := Aside0.mk (blk_far HQ.out (p := ⟨gx, 1, none⟩) HNE.out (.int .i64 (Int.tmod (wrap64 (x1 + 1)) (wrap64 (2 * d)))))
 replace HX := Aside0.mk (blk_put HX.out 1 (.int .i64 (Int.tmod (wrap64 (x1 + 1)) (wrap64 (2 * d)))) rfl)
 replace HB := Aside0.mk (below_set HB.out HGX.out (j := 1) (v := .int .i64 (Int.tmod (wrap64 (x1 + 1)) (wrap64 (2 * d)))))
 replace KP := Aside0.mk (Kept.setCell KP.out (p := ⟨gx, 4, none⟩) (.inl rfl) (.int .i64 (wrap64 (x4 - 1))))
 replace HQ := Aside0.mk (blk_far HQ.out (p := ⟨gx, 4, none⟩) HNE.out (.int .i64 (wrap64 (x4 - 1))))
 replace HX := Aside0.mk (blk_put HX.out 4 (.int .i64 (wrap64 (x4 - 1))) rfl)
 replace HB := Aside0.mk (below_set HB.out HGX.out (j := 4) (v := .int .i64 (wrap64 (x4 - 1))))
 generalize ((w3.setCell ⟨gx, 1, none⟩ (.int .i64 (Int.tmod (wrap64 (x1 + 1)) (wrap64 (2 * d))))).setCell ⟨gx, 4, none⟩ (.int .i64 (wrap64 (x4 - 1)))) = w4 at KP HX HQ HB ⊢
 refine (spec_l05Code.calls gq d g (Int.tmod (wrap64 (x1 + 1)) (wrap64 (2 * d))) ce d g w0 _ ⟨HQ.out, HG.out⟩ HB.out HB1.out).mono ?_
 rintro e w5 ⟨rfl, hi, hb, hk⟩
 have hx2 := (hk.2 gx (blk_lt HX.out) (fun h => HNE.out h.symm) (by simp)).trans HX.out; replace KP := Aside0.mk (Kept.then_ KP.out (keepX gx hk HQ.out hi.1) (fun b hb => .inl hb)); replace HX := Aside0.mk hx2; replace HQ := Aside0.mk hi.1; replace HB := Aside0.mk hb; clear hi hb hk hx2
 obtain ⟨q0, q1⟩ : _ ∧ _ := ⟨blk_cell HQ.out 0, blk_cell HQ.out 1⟩
 have c6 := blk_cell HX.out 6; have f6 := blk_frozen HX.out 6
 have c0 := blk_cell HX.out 0; have f0 := blk_frozen HX.out 0
 have r0 := HR0.out; have r1 := beq_eq_false_iff_ne.mpr r0; have r2 := decide_eq_false r0; have r3 := eq_false r0
 go_wp2_with (fail)
 clear q0 q1 r0 r1 r2 r3 c6 f6 c0 f0
 replace KP := Aside0.mk (Kept.setCell KP.out (p := ⟨gx, 6, none⟩) (.inl rfl) (.int .i64 (Go.bits .xor .i64 (cb) (ce))))
 replace HQ := Aside0.mk (blk_far HQ.out (p := ⟨gx, 6, none⟩) HNE.out (.int .i64 (Go.bits .xor .i64 (cb) (ce))))
 replace HX := Aside0.mk (blk_put HX.out 6 (.int .i64 (Go.bits .xor .i64 (cb) (ce))) rfl)
 replace HB := Aside0.mk (below_set HB.out HGX.out (j := 6) (v := .int .i64 (Go.bits .xor .i64 (cb) (ce))))
 generalize (w5.setCell ⟨gx, 6, none⟩ (.int .i64 (Go.bits .xor .i64 (cb) (ce)))) = w6 at KP HX HQ HB ⊢
 refine (spec_l05Code.calls gq d g (x0) cf d g w0 _ ⟨HQ.out, HG.out⟩ HB.out HB2.out).mono ?_
 rintro e w7 ⟨rfl, hi, hb, hk⟩
 have hx2 := (hk.2 gx (blk_lt HX.out) (fun h => HNE.out h.symm) (by simp)).trans HX.out; replace KP := Aside0.mk (Kept.then_ KP.out (keepX gx hk HQ.out hi.1) (fun b hb => .inl hb)); replace HX := Aside0.mk hx2; replace HQ := Aside0.mk hi.1; replace HB := Aside0.mk hb; clear hi hb hk hx2
 obtain ⟨q0, q1⟩ : _ ∧ _ := ⟨blk_cell HQ.out 0, blk_cell HQ.out 1⟩
 have c3 := blk_cell HX.out 3; have f3 := blk_frozen HX.out 3
 have r0 := HR0.out; have r1 := beq_eq_false_iff_ne.mpr r0; have r2 := decide_eq_false r0; have r3 := eq_false r0
 go_wp2
 clear q0 q1 r0 r1 r2 r3 c3 f3
 replace KP := Aside0.mk (Kept.setCell KP.out (p := ⟨gx, 3, none⟩) (.inl rfl) (.int .i64 (Go.bits .xor .i64 (cf) (old))))
 replace HQ := Aside0.mk (blk_far HQ.out (p := ⟨gx, 3, none⟩) HNE.out (.int .i64 (Go.bits .xor .i64 (cf) (old))))
 replace HX := Aside0.mk (blk_put HX.out 3 (.int .i64 (Go.bits .xor .i64 (cf) (old))) rfl)
 replace HB := Aside0.mk (below_set HB.out HGX.out (j := 3) (v := .int .i64 (Go.bits .xor .i64 (cf) (old))))
 generalize (w7.setCell ⟨gx, 3, none⟩ (.int .i64 (Go.bits .xor .i64 (cf) (old)))) = w8 at KP HX HQ HB ⊢
 go_end0
 exact ⟨rfl, HX.out, HQ.out, KP.out, HB.out⟩
set_option maxHeartbeats 8000000 in
set_option maxRecDepth 100000 in
theorem l05ReadB (k gq gx : Nat) (x0 x1 x2 x3 x4 x5 x6 d g old cn cf : Int) (w0 w : World) (hB : Below w0.heap.size w0 w) (hg : w0.heap.size ≤ gq) (hgx : w0.heap.size ≤ gx) (hne : gq ≠ gx) (hq : w.heap[gq]? = some (.cells #[.int .i64 d, .int .i64 g] 27 (0, 0))) (hx : w.heap[gx]? = some (.cells #[.int .i64 x0, .int .i64 x1, .int .i64 x2, .int .i64 x3, .int .i64 x4, .int .i64 x5, .int .i64 x6] 43 (0, 0))) (hR : ¬ wrap64 (2 * d) = 0) (hc : spec_l05Count.f k d g x3 = some (cn, d, g)) (ht : spec_l00In.f (Int.tmod (wrap64 (wrap64 (cn - x1) + wrap64 (2 * d))) (wrap64 (2 * d))) 1 d = some false) (h2 : spec_l05Code.f d g x0 = some (cf, d, g)) :
  Calls Tryd.prog 17 #[.pointer (some ⟨gq, 0, none⟩), .pointer (some ⟨gx, 0, none⟩), .int .i64 old] w fun e w' => e = .returned (.tuple #[]) ∧ w'.heap[gx]? = some (.cells #[.int .i64 x0, .int .i64 x1, .int .i64 x2, .int .i64 (Go.bits .xor .i64 (cf) (old)), .int .i64 x4, .int .i64 x5, .int .i64 x6] 43 (0, 0)) ∧ w'.heap[gq]? = some (.cells #[.int .i64 d, .int .i64 g] 27 (0, 0)) ∧ Kept w w' (fun b => b = gx) ∧ Below w0.heap.size w0 w' := by
 have hu := Tryd.underlying27
 have hu2 := Tryd.underlying43
 have HX := Aside0.mk hx; have HQ := Aside0.mk hq; have HB := Aside0.mk hB; have HG := Aside0.mk hg; have HGX := Aside0.mk hgx; have HNE := Aside0.mk hne; have HR0 := Aside0.mk hR; have KP : Aside0 (Kept w w (fun b => b = gx)) := ⟨Kept.refl _ _⟩
 clear hx hq hB hg hgx hne hR
 have HC := Aside0.mk hc; have HB2 := Aside0.mk h2
 clear hc h2
 have HT := Aside0.mk ht
 clear ht
 go_enter Tryd.func17, Tryd.ntmps17
 obtain ⟨q0, q1⟩ : _ ∧ _ := ⟨blk_cell HQ.out 0, blk_cell HQ.out 1⟩
 have c3 := blk_cell HX.out 3; have f3 := blk_frozen HX.out 3
 have r0 := HR0.out; have r1 := beq_eq_false_iff_ne.mpr r0; have r2 := decide_eq_false r0; have r3 := eq_false r0
 go_wp2_with (fail)
 clear q0 q1 r0 r1 r2 r3 c3 f3
 refine (spec_l05Count.calls k gq d g x3 cn d g w0 _ ⟨HQ.out, HG.out⟩ HB.out HC.out).mono ?_
 rintro e w1 ⟨rfl, hi, hb, hk⟩
 have hx2 := (hk.2 gx (blk_lt HX.out) (fun h => HNE.out h.symm) (by simp)).trans HX.out; replace KP := Aside0.mk (Kept.then_ KP.out (keepX gx hk HQ.out hi.1) (fun b hb => .inl hb)); replace HX := Aside0.mk hx2; replace HQ := Aside0.mk hi.1; replace HB := Aside0.mk hb; clear hi hb hk hx2
 go_wp2_with (fail)
 have hb : Below w1.heap.size w1 w1.drew := below_drew1 (Below.refl _ _)
 replace KP := Aside0.mk (Kept.then_ KP.out (Kept.of_below hb (fun b => b = gx)) (fun b hb => .inl hb)); replace HX := Aside0.mk (blk_below HX.out hb); replace HQ := Aside0.mk (blk_below HQ.out hb)
 replace HB := Aside0.mk (below_step HB.out hb); clear hb
 refine start_ (n := 15) (S := fun w' => True) (ds := []) #[false, false, false, false, false, false, false, false, false, false, false, false, false, false, false] (by kernel_rfl) rfl rfl trivial (fun hHeld => ?_)
 refine with_tabW spec_l05Read.tab2 spec_l05Read.bits2 (fun HT_ HW_ => ?_)
 generalize w1.drew = wk_ at KP HX HQ HB hHeld ⊢
 refine pure_ (i := 0) (N := some 20) (v := ?_) (a' := ?_) #[true, false, false, false, false, false, false, false, false, false, false, false, false, false, false] rfl rfl (any_of HT_.out (by kernel_rfl)) (fun _ _ _ h => h) (Or.inl ⟨by rfl, ?_⟩) ?_ ?_
 rotate_left
 ·intro w'
  go_simp
  with_reducible rfl
 rotate_left
 ·simp only [Act.put, List.setIfInBounds_toArray, List.set_cons_zero, List.set_cons_succ, i64_w, i32_w]
  rfl
 refine pure_ (i := 1) (N := some 21) (v := ?_) (a' := ?_) #[true, true, false, false, false, false, false, false, false, false, false, false, false, false, false] rfl rfl (any_of HT_.out (by kernel_rfl)) (fun _ _ _ h => h) (Or.inl ⟨by rfl, ?_⟩) ?_ ?_
 rotate_left
 ·intro w'
  go_simp
  with_reducible rfl
 rotate_left
 ·simp only [Act.put, List.setIfInBounds_toArray, List.set_cons_zero, List.set_cons_succ, i64_w, i32_w]
  rfl
 refine pure_ (i := 6) (N := some 26) (v := ?_) (a' := ?_) #[true, true, false, false, false, false, true, false, false, false, false, false, false, false, false] rfl rfl (any_of HT_.out (by kernel_rfl)) (fun _ _ _ h => h) (Or.inl ⟨by rfl, ?_⟩) ?_ ?_
 rotate_left
 ·intro w'
  go_simp
  with_reducible rfl
 rotate_left
 ·simp only [Act.put, List.setIfInBounds_toArray, List.set_cons_zero, List.set_cons_succ, i64_w, i32_w]
  rfl
 refine pure_ (i := 8) (N := some 28) (v := ?_) (a' := ?_) #[true, true, false, false, false, false, true, false, true, false, false, false, false, false, false] rfl rfl (any_of HT_.out (by kernel_rfl)) (fun _ _ _ h => h) (Or.inl ⟨by rfl, ?_⟩) ?_ ?_
 rotate_left
 ·intro w'
  go_simp
  with_reducible rfl
 rotate_left
 ·simp only [Act.put, List.setIfInBounds_toArray, List.set_cons_zero, List.set_cons_succ, i64_w, i32_w]
  rfl
 refine pure_ (i := 10) (N := some 30) (v := ?_) (a' := ?_) #[true, true, false, false, false, false, true, false, true, false, true, false, false, false, false] rfl rfl (any_of HT_.out (by kernel_rfl)) (fun _ _ _ h => h) (Or.inl ⟨by rfl, ?_⟩) ?_ ?_
 rotate_left
 ·intro w'
  go_simp
  with_reducible rfl
 rotate_left
 ·simp only [Act.put, List.setIfInBounds_toArray, List.set_cons_zero, List.set_cons_succ, i64_w, i32_w]
  rfl
 refine inv_at [2, 3, 4, 5, 7, 9, 11, 12, 13, 14] (fun a0_ b a w' => a = putSel a0_ b [(2, 22, .pointer (some ⟨gx, 0, none⟩)), (3, 23, .pointer (some ⟨gx, 1, none⟩)), (4, 24, .int .i64 x1), (5, 25, .int .i64 (wrap64 (cn - x1))), (7, 27, .int .i64 (wrap64 (((wrap64 (cn - x1))) + ((wrap64 (2 * d)))))), (9, 29, .int .i64 (Int.tmod ((wrap64 (((wrap64 (cn - x1))) + ((wrap64 (2 * d)))))) ((wrap64 (2 * d))))), (11, 31, .pointer (some ⟨gq, 0, none⟩)), (12, 32, .pointer (some ⟨gq, 0, none⟩)), (13, 33, .int .i64 d), (14, 34, .bool false)] ∧ (Kept w w' (fun b => b = gx)) ∧ (w'.heap[gx]? = some (.cells #[.int .i64 x0, .int .i64 x1, .int .i64 x2, .int .i64 x3, .int .i64 x4, .int .i64 x5, .int .i64 x6] 43 (0, 0))) ∧ (w'.heap[gq]? = some (.cells #[.int .i64 d, .int .i64 g] 27 (0, 0))) ∧ (Below w0.heap.size w0 w')) HT_.out HW_.out (by kernel_rfl) (by kernel_rfl) ?_ ?_ ?_
 ·exact ⟨by simp only [putSel, Bool.false_eq_true, if_false], KP.out, HX.out, HQ.out, HB.out⟩
 ·skip
  clear HB HQ HX KP
  refine steps_cons ?_ ?_
  ·rintro b a w' ⟨ha, Q_KP, Q_HX, Q_HQ, Q_HB⟩ hb_ hon hoff
   refine ⟨_, rfl, fun K hK => ?_⟩
   have e21 : a.tmps[21]? = some (.pointer (some ⟨gx, 0, none⟩)) := by rw [ha]; exact (putSel_off rfl).trans rfl
   replace ha := Aside0.mk ha
   have KP := Aside0.mk Q_KP
   have HX := Aside0.mk Q_HX
   have HQ := Aside0.mk Q_HQ
   have HB := Aside0.mk Q_HB
   refine value_ (w1 := w') (v := .pointer (some ⟨gx, 0, none⟩)) (by rfl) rfl ?_ ?_
   ·go_simp
    (try simp only [i64_w])
    try rfl
   refine hK.out _ _ ⟨(by rw [ha.out]; exact putSel_upk 0 hb_ rfl rfl rfl), Q_KP, Q_HX, Q_HQ, Q_HB⟩
  refine steps_cons ?_ ?_
  ·rintro b a w' ⟨ha, Q_KP, Q_HX, Q_HQ, Q_HB⟩ hb_ hon hoff
   refine ⟨_, rfl, fun K hK => ?_⟩
   have e22 : a.tmps[22]? = some (.pointer (some ⟨gx, 0, none⟩)) := by rw [ha]; exact putSel_on (e := (2, 22, .pointer (some ⟨gx, 0, none⟩))) 0 rfl rfl (hon 2 (by kernel_rfl)) rfl
   replace ha := Aside0.mk ha
   have KP := Aside0.mk Q_KP
   have HX := Aside0.mk Q_HX
   have HQ := Aside0.mk Q_HQ
   have HB := Aside0.mk Q_HB
   refine value_ (w1 := w') (v := .pointer (some ⟨gx, 1, none⟩)) (by rfl) rfl ?_ ?_
   ·go_simp
    (try simp only [i64_w])
    try rfl
   refine hK.out _ _ ⟨(by rw [ha.out]; exact putSel_upk 1 hb_ rfl rfl rfl), Q_KP, Q_HX, Q_HQ, Q_HB⟩
  refine steps_cons ?_ ?_
  ·rintro b a w' ⟨ha, Q_KP, Q_HX, Q_HQ, Q_HB⟩ hb_ hon hoff
   refine ⟨_, rfl, fun K hK => ?_⟩
   have e23 : a.tmps[23]? = some (.pointer (some ⟨gx, 1, none⟩)) := by rw [ha]; exact putSel_on (e := (3, 23, .pointer (some ⟨gx, 1, none⟩))) 1 rfl rfl (hon 3 (by kernel_rfl)) rfl
   replace ha := Aside0.mk ha
   have KP := Aside0.mk Q_KP
   have HX := Aside0.mk Q_HX
   have HQ := Aside0.mk Q_HQ
   have HB := Aside0.mk Q_HB
   have hc1_ : w'.cell? ⟨gx, 1, none⟩ = some (.int .i64 x1) := (blk_cell HX.out 1).trans rfl
   refine value_ (w1 := w') (v := .int .i64 x1) (by rfl) rfl ?_ ?_
   ·go_simp
    (try simp only [i64_w])
    try rfl
   refine hK.out _ _ ⟨(by rw [ha.out]; exact putSel_upk 2 hb_ rfl rfl rfl), Q_KP, Q_HX, Q_HQ, Q_HB⟩
  refine steps_cons ?_ ?_
  ·rintro b a w' ⟨ha, Q_KP, Q_HX, Q_HQ, Q_HB⟩ hb_ hon hoff
   refine ⟨_, rfl, fun K hK => ?_⟩
   have e20 : a.tmps[20]? = some (.int .i64 cn) := by rw [ha]; exact (putSel_off rfl).trans rfl
   have e24 : a.tmps[24]? = some (.int .i64 x1) := by rw [ha]; exact putSel_on (e := (4, 24, .int .i64 x1)) 2 rfl rfl (hon 4 (by kernel_rfl)) rfl
   replace ha := Aside0.mk ha
   have KP := Aside0.mk Q_KP
   have HX := Aside0.mk Q_HX
   have HQ := Aside0.mk Q_HQ
   have HB := Aside0.mk Q_HB
   refine value_ (w1 := w') (v := .int .i64 (wrap64 (cn - x1))) (by rfl) rfl ?_ ?_
   ·go_simp
    (try simp only [i64_w])
    try rfl
   refine hK.out _ _ ⟨(by rw [ha.out]; exact putSel_upk 3 hb_ rfl rfl rfl), Q_KP, Q_HX, Q_HQ, Q_HB⟩
  refine steps_cons ?_ ?_
  ·rintro b a w' ⟨ha, Q_KP, Q_HX, Q_HQ, Q_HB⟩ hb_ hon hoff
   refine ⟨_, rfl, fun K hK => ?_⟩
   have e25 : a.tmps[25]? = some (.int .i64 (wrap64 (cn - x1))) := by rw [ha]; exact putSel_on (e := (5, 25, .int .i64 (wrap64 (cn - x1)))) 3 rfl rfl (hon 5 (by kernel_rfl)) rfl
   have e26 : a.tmps[26]? = some (.int .i64 (wrap64 (2 * d))) := by rw [ha]; exact (putSel_off rfl).trans rfl
   replace ha := Aside0.mk ha
   have KP := Aside0.mk Q_KP
   have HX := Aside0.mk Q_HX
   have HQ := Aside0.mk Q_HQ
   have HB := Aside0.mk Q_HB
   refine value_ (w1 := w') (v := .int .i64 (wrap64 (((wrap64 (cn - x1))) + ((wrap64 (2 * d)))))) (by rfl) rfl ?_ ?_
   ·go_simp
    (try simp only [i64_w])
    try rfl
   refine hK.out _ _ ⟨(by rw [ha.out]; exact putSel_upk 4 hb_ rfl rfl rfl), Q_KP, Q_HX, Q_HQ, Q_HB⟩
  refine steps_cons ?_ ?_
  ·rintro b a w' ⟨ha, Q_KP, Q_HX, Q_HQ, Q_HB⟩ hb_ hon hoff
   refine ⟨_, rfl, fun K hK => ?_⟩
   have e27 : a.tmps[27]? = some (.int .i64 (wrap64 (((wrap64 (cn - x1))) + ((wrap64 (2 * d)))))) := by rw [ha]; exact putSel_on (e := (7, 27, .int .i64 (wrap64 (((wrap64 (cn - x1))) + ((wrap64 (2 * d))))))) 4 rfl rfl (hon 7 (by kernel_rfl)) rfl
   have e28 : a.tmps[28]? = some (.int .i64 (wrap64 (2 * d))) := by rw [ha]; exact (putSel_off rfl).trans rfl
   replace ha := Aside0.mk ha
   have KP := Aside0.mk Q_KP
   have HX := Aside0.mk Q_HX
   have HQ := Aside0.mk Q_HQ
   have HB := Aside0.mk Q_HB
   have hr_ := HR0.out
   refine value_ (w1 := w') (v := .int .i64 (Int.tmod ((wrap64 (((wrap64 (cn - x1))) + ((wrap64 (2 * d)))))) ((wrap64 (2 * d))))) (by rfl) rfl ?_ ?_
   ·go_simp
    (try simp only [i64_w])
    try rfl
   refine hK.out _ _ ⟨(by rw [ha.out]; exact putSel_upk 5 hb_ rfl rfl rfl), Q_KP, Q_HX, Q_HQ, Q_HB⟩
  refine steps_cons ?_ ?_
  ·rintro b a w' ⟨ha, Q_KP, Q_HX, Q_HQ, Q_HB⟩ hb_ hon hoff
   refine ⟨_, rfl, fun K hK => ?_⟩
   have e30 : a.tmps[30]? = some (.pointer (some ⟨gq, 0, none⟩)) := by rw [ha]; exact (putSel_off rfl).trans rfl
   replace ha := Aside0.mk ha
   have KP := Aside0.mk Q_KP
   have HX := Aside0.mk Q_HX
   have HQ := Aside0.mk Q_HQ
   have HB := Aside0.mk Q_HB
   refine value_ (w1 := w') (v := .pointer (some ⟨gq, 0, none⟩)) (by rfl) rfl ?_ ?_
   ·go_simp
    (try simp only [i64_w])
    try rfl
   refine hK.out _ _ ⟨(by rw [ha.out]; exact putSel_upk 6 hb_ rfl rfl rfl), Q_KP, Q_HX, Q_HQ, Q_HB⟩
  refine steps_cons ?_ ?_
  ·rintro b a w' ⟨ha, Q_KP, Q_HX, Q_HQ, Q_HB⟩ hb_ hon hoff
   refine ⟨_, rfl, fun K hK => ?_⟩
   have e31 : a.tmps[31]? = some (.pointer (some ⟨gq, 0, none⟩)) := by rw [ha]; exact putSel_on (e := (11, 31, .pointer (some ⟨gq, 0, none⟩))) 6 rfl rfl (hon 11 (by kernel_rfl)) rfl
   replace ha := Aside0.mk ha
   have KP := Aside0.mk Q_KP
   have HX := Aside0.mk Q_HX
   have HQ := Aside0.mk Q_HQ
   have HB := Aside0.mk Q_HB
   refine value_ (w1 := w') (v := .pointer (some ⟨gq, 0, none⟩)) (by rfl) rfl ?_ ?_
   ·go_simp
    (try simp only [i64_w])
    try rfl
   refine hK.out _ _ ⟨(by rw [ha.out]; exact putSel_upk 7 hb_ rfl rfl rfl), Q_KP, Q_HX, Q_HQ, Q_HB⟩
  refine steps_cons ?_ ?_
  ·rintro b a w' ⟨ha, Q_KP, Q_HX, Q_HQ, Q_HB⟩ hb_ hon hoff
   refine ⟨_, rfl, fun K hK => ?_⟩
   have e32 : a.tmps[32]? = some (.pointer (some ⟨gq, 0, none⟩)) := by rw [ha]; exact putSel_on (e := (12, 32, .pointer (some ⟨gq, 0, none⟩))) 7 rfl rfl (hon 12 (by kernel_rfl)) rfl
   replace ha := Aside0.mk ha
   have KP := Aside0.mk Q_KP
   have HX := Aside0.mk Q_HX
   have HQ := Aside0.mk Q_HQ
   have HB := Aside0.mk Q_HB
   have hc0_ : w'.cell? ⟨gq, 0, none⟩ = some (.int .i64 d) := (blk_cell HQ.out 0).trans rfl
   refine value_ (w1 := w') (v := .int .i64 d) (by rfl) rfl ?_ ?_
   ·go_simp
    (try simp only [i64_w])
    try rfl
   refine hK.out _ _ ⟨(by rw [ha.out]; exact putSel_upk 8 hb_ rfl rfl rfl), Q_KP, Q_HX, Q_HQ, Q_HB⟩
  refine steps_cons ?_ ?_
  ·rintro b a w' ⟨ha, Q_KP, Q_HX, Q_HQ, Q_HB⟩ hb_ hon hoff
   refine ⟨_, rfl, fun K hK => ?_⟩
   have e29 : a.tmps[29]? = some (.int .i64 (Int.tmod ((wrap64 (((wrap64 (cn - x1))) + ((wrap64 (2 * d)))))) ((wrap64 (2 * d))))) := by rw [ha]; exact putSel_on (e := (9, 29, .int .i64 (Int.tmod ((wrap64 (((wrap64 (cn - x1))) + ((wrap64 (2 * d)))))) ((wrap64 (2 * d)))))) 5 rfl rfl (hon 9 (by kernel_rfl)) rfl
   have e33 : a.tmps[33]? = some (.int .i64 d) := by rw [ha]; exact putSel_on (e := (13, 33, .int .i64 d)) 8 rfl rfl (hon 13 (by kernel_rfl)) rfl
   replace ha := Aside0.mk ha
   have KP := Aside0.mk Q_KP
   have HX := Aside0.mk Q_HX
   have HQ := Aside0.mk Q_HQ
   have HB := Aside0.mk Q_HB
   refine goes_ Tryd.func29 (by kernel_rfl) rfl #[.int .i64 (Int.tmod ((wrap64 (((wrap64 (cn - x1))) + ((wrap64 (2 * d)))))) ((wrap64 (2 * d)))), .int .i64 1, .int .i64 d] (by rfl) rfl rfl (by first | (simp only [List.map_toArray, List.map_cons, List.map_nil, Act.eval, Array.getD_eq_getD_getElem?, Option.getD_some, e29, e33]; done) | (simp only [List.map_toArray, List.map_cons, List.map_nil, Act.eval, Array.getD_eq_getD_getElem?, Option.getD_some, e29, e33]; rfl)) ?_
   refine (spec_l00In.calls (Int.tmod (wrap64 (wrap64 (cn - x1) + wrap64 (2 * d))) (wrap64 (2 * d))) 1 d false w' HT.out).mono ?_
   rintro e w5 ⟨rfl, hb⟩
   obtain ⟨nd_, rfl⟩ := hb
   have hb := pw_below_drewN (Below.refl w'.heap.size w') nd_
   refine ⟨_, rfl, ?_⟩
   refine hK.out _ _ ⟨(by rw [ha.out]; exact putSel_upk 9 hb_ rfl rfl rfl), Kept.then_ KP.out (Kept.of_below hb (fun b => b = gx)) (fun b hb => .inl hb), blk_below HX.out hb, blk_below HQ.out hb, below_step HB.out hb⟩
  exact steps_nil
 rintro b a w2 hall ⟨ha, Q_KP, Q_HX, Q_HQ, Q_HB⟩
 clear HB HQ HX KP
 have hb2_ := hall 2 (by kernel_rfl)
 have hb3_ := hall 3 (by kernel_rfl)
 have hb4_ := hall 4 (by kernel_rfl)
 have hb5_ := hall 5 (by kernel_rfl)
 have hb7_ := hall 7 (by kernel_rfl)
 have hb9_ := hall 9 (by kernel_rfl)
 have hb11_ := hall 11 (by kernel_rfl)
 have hb12_ := hall 12 (by kernel_rfl)
 have hb13_ := hall 13 (by kernel_rfl)
 have hb14_ := hall 14 (by kernel_rfl)
 subst ha
 simp only [putSel, hb2_, hb3_, hb4_, hb5_, hb7_, hb9_, hb11_, hb12_, hb13_, hb14_, if_true, Act.put, List.setIfInBounds_toArray, List.set_cons_zero, List.set_cons_succ]
 have KP := Aside0.mk Q_KP
 clear Q_KP
 have HX := Aside0.mk Q_HX
 clear Q_HX
 have HQ := Aside0.mk Q_HQ
 clear Q_HQ
 have HB := Aside0.mk Q_HB
 clear Q_HB
 clear hall hb2_ hb3_ hb4_ hb5_ hb7_ hb9_ hb11_ hb12_ hb13_ hb14_
 obtain ⟨q0, q1⟩ : _ ∧ _ := ⟨blk_cell HQ.out 0, blk_cell HQ.out 1⟩
 have c0 := blk_cell HX.out 0; have f0 := blk_frozen HX.out 0
 have r0 := HR0.out; have r1 := beq_eq_false_iff_ne.mpr r0; have r2 := decide_eq_false r0; have r3 := eq_false r0
 go_wp2_with (fail)
 clear q0 q1 r0 r1 r2 r3 c0 f0
 refine (spec_l05Code.calls gq d g (x0) cf d g w0 _ ⟨HQ.out, HG.out⟩ HB.out HB2.out).mono ?_
 rintro e w7 ⟨rfl, hi, hb, hk⟩
 have hx2 := (hk.2 gx (blk_lt HX.out) (fun h => HNE.out h.symm) (by simp)).trans HX.out; replace KP := Aside0.mk (Kept.then_ KP.out (keepX gx hk HQ.out hi.1) (fun b hb => .inl hb)); replace HX := Aside0.mk hx2; replace HQ := Aside0.mk hi.1; replace HB := Aside0.mk hb; clear hi hb hk hx2
 obtain ⟨q0, q1⟩ : _ ∧ _ := ⟨blk_cell HQ.out 0, blk_cell HQ.out 1⟩
 have c3 := blk_cell HX.out 3; have f3 := blk_frozen HX.out 3
 have r0 := HR0.out; have r1 := beq_eq_false_iff_ne.mpr r0; have r2 := decide_eq_false r0; have r3 := eq_false r0
 go_wp2
 clear q0 q1 r0 r1 r2 r3 c3 f3
 replace KP := Aside0.mk (Kept.setCell KP.out (p := ⟨gx, 3, none⟩) (.inl rfl) (.int .i64 (Go.bits .xor .i64 (cf) (old))))
 replace HQ := Aside0.mk (blk_far HQ.out (p := ⟨gx, 3, none⟩) HNE.out (.int .i64 (Go.bits .xor .i64 (cf) (old))))
 replace HX := Aside0.mk (blk_put HX.out 3 (.int .i64 (Go.bits .xor .i64 (cf) (old))) rfl)
 replace HB := Aside0.mk (below_set HB.out HGX.out (j := 3) (v := .int .i64 (Go.bits .xor .i64 (cf) (old))))
 generalize (w7.setCell ⟨gx, 3, none⟩ (.int .i64 (Go.bits .xor .i64 (cf) (old)))) = w8 at KP HX HQ HB ⊢
 go_end0
 exact ⟨rfl, HX.out, HQ.out, KP.out, HB.out⟩
def spec_l05Read.f (k : Nat) (x0 x1 x2 x3 x4 x5 x6 d g old : Int) : Option (Int × Int × Int × Int × Int × Int × Int) :=
 if wrap64 (2 * d) = 0 then none else (spec_l05Count.f k d g x3).bind fun cn_ => if cn_.2 = (d, g) then (spec_l00In.f (Int.tmod (wrap64 (wrap64 (cn_.1 - x1) + wrap64 (2 * d))) (wrap64 (2 * d))) 1 d).bind fun q_ => if q_ = true then (spec_l05Code.f d g (x1)).bind fun cb_ => if cb_.2 = (d, g) then (spec_l05Code.f d g (Int.tmod (wrap64 (x1 + 1)) (wrap64 (2 * d)))).bind fun ce_ => if ce_.2 = (d, g) then (spec_l05Code.f d g (x0)).bind fun cf_ => if cf_.2 = (d, g) then some (x0, Int.tmod (wrap64 (x1 + 1)) (wrap64 (2 * d)), x2, Go.bits .xor .i64 cf_.1 old, wrap64 (x4 - 1), x5, Go.bits .xor .i64 cb_.1 ce_.1) else none else none else none else (spec_l05Code.f d g (x0)).bind fun cf_ => if cf_.2 = (d, g) then some (x0, x1, x2, Go.bits .xor .i64 cf_.1 old, x4, x5, x6) else none else none
theorem spec_l05Read.calls (k gq gx : Nat) (x0 x1 x2 x3 x4 x5 x6 d g old y0 y1 y2 y3 y4 y5 y6 : Int) (w0 w : World) (hB : Below w0.heap.size w0 w) (hg : w0.heap.size ≤ gq) (hgx : w0.heap.size ≤ gx) (hne : gq ≠ gx) (hq : w.heap[gq]? = some (.cells #[.int .i64 d, .int .i64 g] 27 (0, 0))) (hx : w.heap[gx]? = some (.cells #[.int .i64 x0, .int .i64 x1, .int .i64 x2, .int .i64 x3, .int .i64 x4, .int .i64 x5, .int .i64 x6] 43 (0, 0))) (h : spec_l05Read.f k x0 x1 x2 x3 x4 x5 x6 d g old = some (y0, y1, y2, y3, y4, y5, y6)) :
  Calls Tryd.prog 17 #[.pointer (some ⟨gq, 0, none⟩), .pointer (some ⟨gx, 0, none⟩), .int .i64 old] w fun e w' => e = .returned (.tuple #[]) ∧ w'.heap[gx]? = some (.cells #[.int .i64 y0, .int .i64 y1, .int .i64 y2, .int .i64 y3, .int .i64 y4, .int .i64 y5, .int .i64 y6] 43 (0, 0)) ∧ w'.heap[gq]? = some (.cells #[.int .i64 d, .int .i64 g] 27 (0, 0)) ∧ Kept w w' (fun b => b = gx) ∧ Below w0.heap.size w0 w' := by
 unfold spec_l05Read.f at h
 by_cases hR : wrap64 (2 * d) = 0
 ·rw [if_pos hR] at h; cases h
 rw [if_neg hR] at h
 obtain ⟨cn_, hcn, i0a⟩ := Option.bind_eq_some_iff.mp h
 split at i0a
 case isFalse => cases i0a
 rename_i ecn
 obtain ⟨cn, cnd, cng⟩ := cn_
 simp only [Prod.mk.injEq] at ecn
 obtain ⟨rfl, rfl⟩ := ecn
 obtain ⟨q_, hq_, j0⟩ := Option.bind_eq_some_iff.mp i0a
 cases q_ with
 | true =>
  rw [if_pos rfl] at j0
  obtain ⟨cb_, hcb, i1a⟩ := Option.bind_eq_some_iff.mp j0
  split at i1a
  case isFalse => cases i1a
  rename_i ecb
  obtain ⟨cb, cbd, cbg⟩ := cb_
  simp only [Prod.mk.injEq] at ecb
  obtain ⟨rfl, rfl⟩ := ecb
  obtain ⟨ce_, hce, i2a⟩ := Option.bind_eq_some_iff.mp i1a
  split at i2a
  case isFalse => cases i2a
  rename_i ece
  obtain ⟨ce, ced, ceg⟩ := ce_
  simp only [Prod.mk.injEq] at ece
  obtain ⟨rfl, rfl⟩ := ece
  obtain ⟨cf_, hcf, i3a⟩ := Option.bind_eq_some_iff.mp i2a
  split at i3a
  case isFalse => cases i3a
  rename_i ecf
  obtain ⟨cf, cfd, cfg⟩ := cf_
  simp only [Prod.mk.injEq] at ecf
  obtain ⟨rfl, rfl⟩ := ecf
  simp only [Option.some.injEq, Prod.mk.injEq] at i3a
  obtain ⟨rfl, rfl, rfl, rfl, rfl, rfl, rfl⟩ := i3a
  exact l05ReadA k gq gx _ _ _ _ _ _ _ _ _ _ _ _ _ _ w0 w hB hg hgx hne hq hx hR hcn hq_ hcb hce hcf
 | false =>
  rw [if_neg (by decide)] at j0
  obtain ⟨cf_, hcf, i3a⟩ := Option.bind_eq_some_iff.mp j0
  split at i3a
  case isFalse => cases i3a
  rename_i ecf
  obtain ⟨cf, cfd, cfg⟩ := cf_
  simp only [Prod.mk.injEq] at ecf
  obtain ⟨rfl, rfl⟩ := ecf
  simp only [Option.some.injEq, Prod.mk.injEq] at i3a
  obtain ⟨rfl, rfl, rfl, rfl, rfl, rfl, rfl⟩ := i3a
  exact l05ReadB k gq gx _ _ _ _ _ _ _ _ _ _ _ _ w0 w hB hg hgx hne hq hx hR hcn hq_ hcf

end Go.Proofs.YteccfnppbonniaaDoor.Pa

/- The counts and codes of a queue, and one step of either side, in the program and in the reference. -/
namespace Go.Proofs.YteccfnppbonniaaDoor.Pure
open Go.RowKit Go.Proofs.YteccfnppbonniaaDoor.Pa Go.Proofs.YteccfnppbonniaaDoorW.PrintWords Go.Proofs.YteccfnppbonniaaDoorW.PrintLast
set_option linter.unusedVariables false
set_option linter.unusedSimpArgs false

def codeOk (d g n : Int) : Bool :=
 match impl_Queue_code.f d g n, spec_l05Code.f d g n, impl_Queue_count.f 40 d g n, spec_l05Count.f 40 d g n with
 | some c, some (c', d', g'), some m, some (m', d2, g2) => decide (0 ≤ c) && decide (c < 2 * d) && (c' == c) && (d' == d) && (g' == g) && decide (0 ≤ m) && decide (m < 2 * d) && (m' == m) && (d2 == d) && (g2 == g) && (Go.bits .xor .i64 c 0 == c)
 | _, _, _, _ => false
theorem codes : ([(2, 0), (2, 1), (4, 0), (4, 1)] : List (Int × Int)).all (fun q => (List.range (2 * q.1.toNat)).all fun n => codeOk q.1 q.2 (n : Int)) = true := by kernel_rfl
theorem code_tells {d g n : Int} (hd : d = 2 ∨ d = 4) (hg : g = 0 ∨ g = 1) (h0 : 0 ≤ n) (h1 : n < 2 * d) : ∃ c m, impl_Queue_code.f d g n = some c ∧ spec_l05Code.f d g n = some (c, d, g) ∧ impl_Queue_count.f 40 d g n = some m ∧ spec_l05Count.f 40 d g n = some (m, d, g) ∧ 0 ≤ c ∧ c < 2 * d ∧ 0 ≤ m ∧ m < 2 * d ∧ Go.bits .xor .i64 c 0 = c := by
 have hok : codeOk d g n = true := by
  have h := List.all_eq_true.1 codes (d, g) (by rcases hd with rfl | rfl <;> rcases hg with rfl | rfl <;> simp)
  have h2 := List.all_eq_true.1 h n.toNat (List.mem_range.2 (by dsimp only; omega))
  dsimp only at h2
  rwa [Int.toNat_of_nonneg h0] at h2
 unfold codeOk at hok
 split at hok
 ·rename_i c c' d' g' m m' d2 g2 e1 e2 e3 e4
  simp only [Bool.and_eq_true, decide_eq_true_eq, beq_iff_eq] at hok
  obtain ⟨⟨⟨⟨⟨⟨⟨⟨⟨⟨a1, a2⟩, rfl⟩, rfl⟩, rfl⟩, a3⟩, a4⟩, rfl⟩, b1⟩, b2⟩, a5⟩ := hok
  subst b1 b2
  exact ⟨_, _, e1, e2, e3, e4, a1, a2, a3, a4, a5⟩
 ·cases hok
theorem round_eq {d : Int} (hd : d = 2 ∨ d = 4) : wrap64 (2 * d) = 2 * d := wrap_id (by omega) (by omega)
theorem next_in {d x : Int} (hd : d = 2 ∨ d = 4) (h0 : 0 ≤ x) (h1 : x < 2 * d) : 0 ≤ Int.tmod (wrap64 (x + 1)) (2 * d) ∧ Int.tmod (wrap64 (x + 1)) (2 * d) < 2 * d := by
 rw [wrap_id (by omega) (by omega)]
 exact ⟨Int.tmod_nonneg _ (by omega), Int.tmod_lt_of_pos _ (by omega)⟩
/-- A step of the writer. -/
theorem write_eq {d g x0 x1 x2 x3 : Int} (hd : d = 2 ∨ d = 4) (hg : g = 0 ∨ g = 1) (a0 : 0 ≤ x0) (b0 : x0 < 2 * d) (a1 : 0 ≤ x1) (b1 : x1 < 2 * d) (a2 : 0 ≤ x2) (b2 : x2 < 2 * d) (p q m p' q' : Int) :
  ∃ z0 z2 M P Q P' Q', 0 ≤ z0 ∧ z0 < 2 * d ∧ 0 ≤ z2 ∧ z2 < 2 * d ∧ impl_queueState_step.f 40 x0 x1 x2 x3 p q m d g 115 = some (z0, x1, z2, x3, P, Q, M) ∧ spec_l05Write.f 40 x0 x1 x2 x3 m p' q' d g 0 = some (z0, x1, z2, x3, M, P', Q') := by
 obtain ⟨c0, m0, e01, e02, e03, e04, e05, e06, e07, e08, e09⟩ := code_tells hd hg a0 b0
 obtain ⟨c1, m1, e11, e12, e13, e14, e15, e16, e17, e18, e19⟩ := code_tells hd hg a1 b1
 obtain ⟨c2, m2, e21, e22, e23, e24, e25, e26, e27, e28, e29⟩ := code_tells hd hg a2 b2
 obtain ⟨n0, n1⟩ := next_in hd a0 b0
 obtain ⟨c3, m3, e31, e32, e33, e34, e35, e36, e37, e38, e39⟩ := code_tells hd hg n0 n1
 unfold impl_queueState_step.f spec_l05Write.f
 have hz : ¬ 2 * d = 0 := by omega
 rw [round_eq hd, if_neg hz, if_neg hz, if_pos (show (115 : Int) = 115 from rfl), e23, e24]
 simp only [Option.bind_some, if_true]
 by_cases ht : Int.tmod (wrap64 (wrap64 (x0 - m2) + 2 * d)) (2 * d) < d
 ·rw [if_pos ht, if_pos ht, e01, e02, e31, e32, e11, e12]
  simp only [Option.bind_some, if_true]
  exact ⟨_, _, _, _, _, _, _, n0, n1, e15, e16, rfl, by rw [e19]⟩
 ·rw [if_neg ht, if_neg ht, e11, e12]
  simp only [Option.bind_some, if_true]
  exact ⟨_, _, _, _, _, _, _, a0, b0, e15, e16, rfl, by rw [e19]⟩
/-- A step of the reader. -/
theorem read_eq {d g x0 x1 x2 x3 : Int} (hd : d = 2 ∨ d = 4) (hg : g = 0 ∨ g = 1) (a0 : 0 ≤ x0) (b0 : x0 < 2 * d) (a1 : 0 ≤ x1) (b1 : x1 < 2 * d) (a2 : 0 ≤ x3) (b2 : x3 < 2 * d) (p q m p' q' : Int) :
  ∃ z1 z3 M P Q P' Q', 0 ≤ z1 ∧ z1 < 2 * d ∧ 0 ≤ z3 ∧ z3 < 2 * d ∧ impl_queueState_step.f 40 x0 x1 x2 x3 p q m d g 114 = some (x0, z1, x2, z3, P, Q, M) ∧ spec_l05Read.f 40 x0 x1 x2 x3 m p' q' d g 0 = some (x0, z1, x2, z3, M, P', Q') := by
 obtain ⟨c0, m0, e01, e02, e03, e04, e05, e06, e07, e08, e09⟩ := code_tells hd hg a0 b0
 obtain ⟨c1, m1, e11, e12, e13, e14, e15, e16, e17, e18, e19⟩ := code_tells hd hg a1 b1
 obtain ⟨c2, m2, e21, e22, e23, e24, e25, e26, e27, e28, e29⟩ := code_tells hd hg a2 b2
 obtain ⟨n0, n1⟩ := next_in hd a1 b1
 obtain ⟨c3, m3, e31, e32, e33, e34, e35, e36, e37, e38, e39⟩ := code_tells hd hg n0 n1
 unfold impl_queueState_step.f spec_l05Read.f
 have hz : ¬ 2 * d = 0 := by omega
 rw [round_eq hd, if_neg hz, if_neg hz, if_neg (show ¬ (114 : Int) = 115 by decide), e23, e24]
 simp only [Option.bind_some, if_true]
 have hin : spec_l00In.f (Int.tmod (wrap64 (wrap64 (m2 - x1) + 2 * d)) (2 * d)) 1 d = impl_within.f (Int.tmod (wrap64 (wrap64 (m2 - x1) + 2 * d)) (2 * d)) 1 d := rfl
 rw [hin]
 obtain ⟨b, hb⟩ : ∃ b, impl_within.f (Int.tmod (wrap64 (wrap64 (m2 - x1) + 2 * d)) (2 * d)) 1 d = some b := by
  unfold impl_within.f
  split
  ·exact ⟨_, rfl⟩
  ·exact ⟨_, rfl⟩
 rw [hb]
 simp only [Option.bind_some]
 cases b with
 | true =>
  rw [if_pos rfl, if_pos rfl, e11, e12, e31, e32, e01, e02]
  simp only [Option.bind_some, if_true]
  exact ⟨_, _, _, _, _, _, _, n0, n1, e05, e06, rfl, by rw [e09]⟩
 | false =>
  rw [if_neg (by decide), if_neg (by decide), e01, e02]
  simp only [Option.bind_some, if_true]
  exact ⟨_, _, _, _, _, _, _, a1, b1, e05, e06, rfl, by rw [e09]⟩
end Go.Proofs.YteccfnppbonniaaDoor.Pure

namespace Go.Proofs.YteccfnppbonniaaDoor.Pa
open Go.RowKit Go.Proofs.YteccfnppbonniaaDoorW.PrintWords Go.Proofs.YteccfnppbonniaaDoorW.PrintLast Go.Proofs.YteccfnppbonniaaDoorW.PrintMore
attribute [local go_sem] max2_int min2_int max_two min_two max_three min_three max_four min_four   -- for this text's walks alone
set_option linter.unusedVariables false
set_option linter.unusedSimpArgs false

/-! ### spec_l05Steps: function 15 -/
def spec_l05Steps.l0 : Nat → ByteArray → Int → Option (Bool)
 | 0, _, _ => none
 | k + 1, x0, x3 => if x3 < (x0.size : Int) then (if 0 ≤ x3 then (if (bt x0 x3) = 115 then (spec_l05Steps.l0 k x0 (wrap64 (x3 + 1))) else (if (bt x0 x3) = 114 then (spec_l05Steps.l0 k x0 (wrap64 (x3 + 1))) else (some false))) else (none)) else (some (decide ((x0.size : Int) ≤ 300)))
def spec_l05Steps.f (k : Nat) (a0 : ByteArray) : Option (Bool) := spec_l05Steps.l0 k a0 0
theorem spec_l05Steps.mono_l : ∀ k, (∀ y0 y1, LeO (spec_l05Steps.l0 k y0 y1) (spec_l05Steps.l0 (k + 1) y0 y1))
 | 0 => fun _ _ r h => by simp [spec_l05Steps.l0] at h
 | k + 1 => by
  have ih0 := spec_l05Steps.mono_l k
  ·intro y0 y1
   unfold spec_l05Steps.l0
   repeat' first
   | (with_reducible exact ih0 _ _)
   | (with_reducible exact LeO.refl _)
   | (with_reducible exact LeO.none _)
   | (with_reducible refine LeO.ite ?_ ?_)
   | (with_reducible refine LeO.bind ?_ (fun _ => ?_))
   | exact ih0 _ _
   | exact LeO.none _
   | refine LeO.ite ?_ ?_
   | refine LeO.bind ?_ (fun _ => ?_)
theorem spec_l05Steps.mono : ∀ a0 k, LeO (spec_l05Steps.f k a0) (spec_l05Steps.f (k + 1) a0) := by
 intro a0 k
 have ih0 := spec_l05Steps.mono_l k
 unfold spec_l05Steps.f
 repeat' first
   | (with_reducible exact ih0 _ _)
   | (with_reducible exact LeO.refl _)
   | (with_reducible exact LeO.none _)
   | (with_reducible refine LeO.ite ?_ ?_)
   | (with_reducible refine LeO.bind ?_ (fun _ => ?_))
   | exact ih0 _ _
   | exact LeO.none _
   | refine LeO.ite ?_ ?_
   | refine LeO.bind ?_ (fun _ => ?_)
set_option maxHeartbeats 8000000 in
set_option maxRecDepth 100000 in
theorem spec_l05Steps.calls (k : Nat) (a0 : ByteArray) (r : Bool) (w : World) (h : spec_l05Steps.f k a0 = some r) :
  Calls Tryd.prog 15 #[.string a0] w fun e w' => e = .returned (.bool r) ∧ Drawn0 w w' := by
 have H : (spec_l05Steps.l0 k a0 0) = some r := h
 clear h
 have H' := Aside0.mk H
 clear H
 go_enter Tryd.func15, Tryd.ntmps15
 go_wp2
 go_loopg [3] k (fun kq v3 w' => ∃ (x3_1 : Int), v3 = .int .i64 x3_1 ∧ Aside0 (spec_l05Steps.l0 kq a0 x3_1 = some r) ∧ Aside0 (kq ≤ k) ∧ Drawn0 w w')
 case atStart => exact ⟨(0), (by first | rfl | (simp; done) | (simp [*]; done)), H', ⟨Nat.le_refl _⟩, by repeat (first | exact Drawn0.refl _ | apply Drawn0.step)⟩
 case round =>
  clear H'
  try clear c1
  obtain ⟨x3_1, rfl, HA, HK1, ⟨m1, rfl⟩⟩ := hrel
  cases gk with
  | zero => exact absurd HA.out (by simp [spec_l05Steps.l0])
  | succ k1 =>
   have H := HA.out
   clear HA
   simp only [spec_l05Steps.l0] at H
   by_cases c2 : x3_1 < (a0.size : Int)
   ·rw [if_pos c2] at H
    have c2b0 : decide (x3_1 < (a0.size : Int)) = true := decide_eq_true c2
    clear c2
    by_cases c3 : 0 ≤ x3_1
    ·rw [if_pos c3] at H
     have c3b0 : decide (0 ≤ x3_1) = true := decide_eq_true c3
     clear c3
     by_cases c5 : (bt a0 x3_1) = 115
     ·rw [if_pos c5] at H
      have c5b0 : ((bt a0 x3_1) == 115) = true := beq_iff_eq.mpr c5
      have c5b1 : ((bt a0 x3_1) != 115) = false := bne_eq_false_iff_eq.mpr c5
      clear c5
      have H' := Aside0.mk H
      clear H
      have p4 : 0 ≤ (x3_1 : Int) := of_decide_eq_true (by with_reducible assumption)
      have q4 : x3_1 < (a0.size : Int) := of_decide_eq_true (by with_reducible assumption)
      have hx4 := bt_at a0 x3_1
      replace p4 := eq_true p4
      replace q4 := eq_true q4
      go_wp2
      go_roundg k1
      case measure => have := HK1.out; omega
      case rel => exact ⟨(wrap64 (x3_1 + 1)), (by first | rfl | (simp; done) | (simp [*]; done)), H', ⟨by have := HK1.out; omega⟩, by repeat (first | exact Drawn0.refl _ | apply Drawn0.step)⟩
     ·rw [if_neg c5] at H
      have c5b0 : ((bt a0 x3_1) == 115) = false := beq_eq_false_iff_ne.mpr c5
      have c5b1 : ((bt a0 x3_1) != 115) = true := bne_iff_ne.mpr c5
      by_cases c7 : (bt a0 x3_1) = 114
      ·rw [if_pos c7] at H
       have c7b0 : ((bt a0 x3_1) == 114) = true := beq_iff_eq.mpr c7
       have c7b1 : ((bt a0 x3_1) != 114) = false := bne_eq_false_iff_eq.mpr c7
       clear c7
       have H' := Aside0.mk H
       clear H
       have p4 : 0 ≤ (x3_1 : Int) := of_decide_eq_true (by with_reducible assumption)
       have q4 : x3_1 < (a0.size : Int) := of_decide_eq_true (by with_reducible assumption)
       have hx4 := bt_at a0 x3_1
       replace p4 := eq_true p4
       replace q4 := eq_true q4
       have p6 : 0 ≤ (x3_1 : Int) := of_decide_eq_true (by with_reducible assumption)
       have q6 : x3_1 < (a0.size : Int) := of_decide_eq_true (by with_reducible assumption)
       have hx6 := bt_at a0 x3_1
       replace p6 := eq_true p6
       replace q6 := eq_true q6
       go_wp2
       go_roundg k1
       case measure => have := HK1.out; omega
       case rel => exact ⟨(wrap64 (x3_1 + 1)), (by first | rfl | (simp; done) | (simp [*]; done)), H', ⟨by have := HK1.out; omega⟩, by repeat (first | exact Drawn0.refl _ | apply Drawn0.step)⟩
      ·rw [if_neg c7] at H
       have c7b0 : ((bt a0 x3_1) == 114) = false := beq_eq_false_iff_ne.mpr c7
       have c7b1 : ((bt a0 x3_1) != 114) = true := bne_iff_ne.mpr c7
       obtain rfl := Option.some.inj H
       have p4 : 0 ≤ (x3_1 : Int) := of_decide_eq_true (by with_reducible assumption)
       have q4 : x3_1 < (a0.size : Int) := of_decide_eq_true (by with_reducible assumption)
       have hx4 := bt_at a0 x3_1
       replace p4 := eq_true p4
       replace q4 := eq_true q4
       have p6 : 0 ≤ (x3_1 : Int) := of_decide_eq_true (by with_reducible assumption)
       have q6 : x3_1 < (a0.size : Int) := of_decide_eq_true (by with_reducible assumption)
       have hx6 := bt_at a0 x3_1
       replace p6 := eq_true p6
       replace q6 := eq_true q6
       go_wp2
       go_ret
       exact ⟨by first | rfl | (simp; done) | (simp [*]; done), by repeat (first | exact Drawn0.refl _ | apply Drawn0.step)⟩
    ·rw [if_neg c3] at H
     exact absurd H (by simp)
   ·rw [if_neg c2] at H
    have c2b0 : decide (x3_1 < (a0.size : Int)) = false := decide_eq_false c2
    clear c2
    obtain rfl := Option.some.inj H
    go_wp2
    go_ret
    exact ⟨by first | rfl | (simp; done) | (simp [*]; done), by repeat (first | exact Drawn0.refl _ | apply Drawn0.step)⟩

end Go.Proofs.YteccfnppbonniaaDoor.Pa

namespace Go.Proofs.YteccfnppbonniaaDoor.Pa
open Go.RowKit Go.Proofs.YteccfnppbonniaaDoorW.PrintWords Go.Proofs.YteccfnppbonniaaDoorW.PrintLast Go.Proofs.YteccfnppbonniaaDoorW.PrintMore
attribute [local go_sem] max2_int min2_int max_two min_two max_three min_three max_four min_four   -- for this text's walks alone
set_option linter.unusedVariables false
set_option linter.unusedSimpArgs false

/-! ### AUX trimmed -/
theorem dropWhile_all {α : Type} (p : α → Bool) : ∀ l : List α, l.all p = true → l.dropWhile p = []
 | [], _ => rfl
 | a :: l, h => by
  simp only [List.all_cons, Bool.and_eq_true] at h
  rw [List.dropWhile_cons, if_pos h.1]
  exact dropWhile_all p l h.2
theorem all_dropWhile {α : Type} (p : α → Bool) : ∀ l : List α, (l.dropWhile p).all p = true → l.all p = true
 | [], _ => rfl
 | a :: l, h => by
  by_cases ha : p a = true
  ·rw [List.dropWhile_cons, if_pos ha] at h
   simp only [List.all_cons, Bool.and_eq_true]
   exact ⟨ha, all_dropWhile p l h⟩
  ·rw [List.dropWhile_cons, if_neg ha] at h
   exact h
theorem all_of_nil {α : Type} (p : α → Bool) (l : List α) (h : l.dropWhile p = []) : l.all p = true := all_dropWhile p l (by rw [h]; rfl)
theorem all_reverse {α : Type} (p : α → Bool) (l : List α) : l.reverse.all p = l.all p := by
 rw [Bool.eq_iff_iff, List.all_eq_true, List.all_eq_true]
 simp
/-- What Trim leaves is empty exactly where all letters are in the cutset. -/
theorem trimS_nil (l cs : List UInt8) : Lib.trimS l cs = [] ↔ l.all (fun b => cs.contains b) = true := by
 unfold Lib.trimS Lib.trimLeftS Lib.trimRightS
 constructor
 ·intro h
  have h1 := all_of_nil _ _ h
  rw [all_reverse] at h1
  have h2 := all_dropWhile _ _ h1
  rwa [all_reverse] at h2
 ·intro h
  rw [dropWhile_all _ l.reverse (by rw [all_reverse]; exact h)]
  rfl
/-- The text behind a list of letters, and whether it is empty. -/
def txt (l : List UInt8) : ByteArray := ⟨l.toArray⟩
theorem txt_toList (l : List UInt8) : (txt l).toList = l := by
 rw [Lib.toList_data]
 rfl
theorem txt_empty (l : List UInt8) : (txt l).toList.isEmpty = l.isEmpty := by rw [txt_toList]

end Go.Proofs.YteccfnppbonniaaDoor.Pa

namespace Go.Proofs.YteccfnppbonniaaDoor.Pa
open Go.RowKit Go.Proofs.YteccfnppbonniaaDoorW.PrintWords Go.Proofs.YteccfnppbonniaaDoorW.PrintLast Go.Proofs.YteccfnppbonniaaDoorW.PrintMore
attribute [local go_sem] max2_int min2_int max_two min_two max_three min_three max_four min_four   -- for this text's walks alone
set_option linter.unusedVariables false
set_option linter.unusedSimpArgs false

/-! ### impl_isOrder: function 19 -/
/-- The letters of an order. -/
def orderB (l : List UInt8) : Bool := l.all fun b => [(114 : UInt8), 115].contains b
def isOrderB (s : ByteArray) : Bool := decide (s.size ≤ 300) && orderB s.data.toList
def impl_isOrder.f (a0 : ByteArray) : Option (Bool) := some (isOrderB a0)
set_option maxHeartbeats 2000000 in
set_option maxRecDepth 100000 in
theorem impl_isOrder.calls (a0 : ByteArray) (r : Bool) (w : World) (h : impl_isOrder.f a0 = some r) :
  Calls Tryd.prog 19 #[.string a0] w fun e w' => e = .returned (.bool r) ∧ Below w.heap.size w w' := by
 obtain rfl := Option.some.inj h
 clear h
 by_cases hl : a0.size ≤ 300
 ·have c1 : decide ((a0.size : Int) ≤ 300) = true := decide_eq_true (by omega)
  have c2 : decide (a0.size ≤ 300) = true := decide_eq_true hl
  have HT := Aside0.mk (Any.strings_Trim_laid Tryd.lays160 (by kernel_rfl) a0 ⟨#[114, 115]⟩ w (by omega) (by decide) (ascii_of_all (by decide)))
  have HE : Aside0 (isOrderB a0 = orderB a0.data.toList) := ⟨by unfold isOrderB; rw [c2]; rfl⟩
  have HN : Aside0 ((txt (Lib.trimS a0.data.toList [114, 115])).toList.isEmpty = orderB a0.data.toList) := ⟨by
   rw [txt_empty, Bool.eq_iff_iff, List.isEmpty_iff]
   exact trimS_nil _ _⟩
  replace HT : Aside0 (Calls Tryd.prog 33 #[.string a0, .string ⟨#[114, 115]⟩] w fun e w' => e = .returned (.string (txt (Lib.trimS a0.data.toList [114, 115]))) ∧ Below w.heap.size w w') := HT
  clear hl
  generalize isOrderB a0 = q at HE ⊢
  generalize txt (Lib.trimS a0.data.toList [114, 115]) = t at HT HN
  generalize orderB a0.data.toList = q1 at HE HN
  cases q1 with
  | true =>
   have n1 := HN.out
   go_enter Tryd.func19, Tryd.ntmps19
   go_wp2_with (go_at_call 33; refine HT.out.mono ?_; rintro e w' ⟨rfl, hb'⟩)
   go_ret
   exact ⟨by rw [HE.out]; rfl, hb'⟩
  | false =>
   have n1 := HN.out
   go_enter Tryd.func19, Tryd.ntmps19
   go_wp2_with (go_at_call 33; refine HT.out.mono ?_; rintro e w' ⟨rfl, hb'⟩)
   go_ret
   exact ⟨by rw [HE.out]; rfl, hb'⟩
 ·have c1 : decide ((a0.size : Int) ≤ 300) = false := decide_eq_false (by omega)
  have c2 : decide (a0.size ≤ 300) = false := decide_eq_false hl
  have HE : Aside0 (isOrderB a0 = false) := ⟨by unfold isOrderB; rw [c2]; rfl⟩
  clear hl
  generalize isOrderB a0 = q at HE ⊢
  go_enter Tryd.func19, Tryd.ntmps19
  go_wp2
  go_ret
  exact ⟨by rw [HE.out]; rfl, Below.refl _ _⟩

end Go.Proofs.YteccfnppbonniaaDoor.Pa

/- The letters of an order, as the program and the reference read them. -/
namespace Go.Proofs.YteccfnppbonniaaDoor.Pure
open Go.RowKit Go.Proofs.YteccfnppbonniaaDoor.Pa Go.Proofs.YteccfnppbonniaaDoorW.PrintWords Go.Proofs.YteccfnppbonniaaDoorW.PrintLast
set_option linter.unusedVariables false
set_option linter.unusedSimpArgs false

theorem bt_get (s : ByteArray) (i : Nat) (h : i < s.data.toList.length) : bt s (i : Int) = ((s.data.toList[i]).toNat : Int) := by
 have h' : i < s.size := by simpa using h
 unfold bt
 rw [Int.toNat_natCast, dif_pos h']
 simp [ByteArray.getElem_eq_getElem_data]
theorem size_list (s : ByteArray) : s.size = s.data.toList.length := by simp
theorem in_letters (b : UInt8) : [(114 : UInt8), 115].contains b = ((b.toNat : Int) == 115 || (b.toNat : Int) == 114) := by
 have h48 : (b == 114) = ((b.toNat : Int) == 114) := by
  rw [Bool.eq_iff_iff, beq_iff_eq, beq_iff_eq, ← UInt8.toNat_inj]
  simp
  omega
 have h49 : (b == 115) = ((b.toNat : Int) == 115) := by
  rw [Bool.eq_iff_iff, beq_iff_eq, beq_iff_eq, ← UInt8.toNat_inj]
  simp
  omega
 simp only [List.contains, List.elem, h48, h49]
 cases ((b.toNat : Int) == 114) <;> cases ((b.toNat : Int) == 115) <;> rfl
theorem order_bt {s : ByteArray} (h : orderB s.data.toList = true) {i : Nat} (hi : i < s.size) : bt s (i : Int) = 115 ∨ bt s (i : Int) = 114 := by
 have hl : i < s.data.toList.length := by rw [← size_list]; exact hi
 rw [bt_get s i hl]
 have := List.all_eq_true.1 h _ (List.getElem_mem hl)
 rw [in_letters] at this
 simpa using this
theorem steps_loop (s : ByteArray) (hs : s.size ≤ 140737488351232) : ∀ d i k, s.size - i = d → i ≤ s.size → d < k →
  spec_l05Steps.l0 k s (i : Int) = some ((s.data.toList.drop i).all (fun b => [(114 : UInt8), 115].contains b) && decide (s.size ≤ 300))
 | 0, i, k, hd, hi, hk => by
  obtain rfl : i = s.size := by omega
  obtain ⟨k, rfl⟩ : ∃ m, k = m + 1 := ⟨k - 1, by omega⟩
  simp only [spec_l05Steps.l0]
  rw [if_neg (by omega), List.drop_of_length_le (by rw [← size_list]; exact Nat.le_refl _)]
  simp
  omega
 | d + 1, i, k, hd, hi, hk => by
  obtain ⟨k, rfl⟩ : ∃ m, k = m + 1 := ⟨k - 1, by omega⟩
  have hl : i < s.data.toList.length := by rw [← size_list]; omega
  have hw : wrap64 ((i : Int) + 1) = ((i + 1 : Nat) : Int) := by rw [wrap_id (by omega) (by omega)]; omega
  simp only [spec_l05Steps.l0]
  rw [if_pos (by omega), if_pos (by omega), hw, steps_loop s hs d (i + 1) k (by omega) (by omega) (by omega), List.drop_eq_getElem_cons hl, List.all_cons, in_letters, bt_get s i hl]
  by_cases h1 : ((s.data.toList[i].toNat : Int)) = 115
  ·rw [if_pos h1, h1]; rfl
  ·rw [if_neg h1]
   by_cases h2 : ((s.data.toList[i].toNat : Int)) = 114
   ·rw [if_pos h2, h2]; rfl
   ·rw [if_neg h2, beq_eq_false_iff_ne.2 h1, beq_eq_false_iff_ne.2 h2]; rfl
theorem steps_tells (s : ByteArray) (hs : s.size ≤ 140737488351232) (k : Nat) (hk : s.size < k) : spec_l05Steps.f k s = some (isOrderB s) := by
 have h := steps_loop s hs s.size 0 k (by omega) (by omega) hk
 rw [List.drop_zero] at h
 refine Eq.trans h ?_
 unfold isOrderB orderB
 rw [Bool.and_comm]
theorem order_is {s : ByteArray} (h : isOrderB s = true) : s.size ≤ 300 ∧ orderB s.data.toList = true := by
 unfold isOrderB at h
 rw [Bool.and_eq_true, decide_eq_true_eq] at h
 exact h
end Go.Proofs.YteccfnppbonniaaDoor.Pure

namespace Go.Proofs.YteccfnppbonniaaDoor.Pa
open Go.RowKit Go.Proofs.YteccfnppbonniaaDoorW.PrintWords Go.Proofs.YteccfnppbonniaaDoorW.PrintLast Go.Proofs.YteccfnppbonniaaDoorW.PrintMore
attribute [local go_sem] max2_int min2_int max_two min_two max_three min_three max_four min_four   -- for this text's walks alone
set_option linter.unusedVariables false
set_option linter.unusedSimpArgs false

/-! ### laws_eqInt64S: function 8 -/
def laws_eqInt64S.l0 : Nat → List Int → List Int → Int → Option (Bool)
 | 0, _, _, _ => none
 | k + 1, x0, x1, x5 => if x5 < (x0.length : Int) then (if 0 ≤ x5 then (if x5 < (x1.length : Int) then (if (rd x0 x5) = (rd x1 x5) then (laws_eqInt64S.l0 k x0 x1 (wrap64 (x5 + 1))) else (some false)) else (none)) else (none)) else (some true)
def laws_eqInt64S.f (k : Nat) (l0 : List Int) (l1 : List Int) : Option (Bool) := if (l0.length : Int) = (l1.length : Int) then (laws_eqInt64S.l0 k l0 l1 0) else (some false)
theorem laws_eqInt64S.mono_l : ∀ k, (∀ y0 y1 y2, LeO (laws_eqInt64S.l0 k y0 y1 y2) (laws_eqInt64S.l0 (k + 1) y0 y1 y2))
 | 0 => fun _ _ _ r h => by simp [laws_eqInt64S.l0] at h
 | k + 1 => by
  have ih0 := laws_eqInt64S.mono_l k
  ·intro y0 y1 y2
   unfold laws_eqInt64S.l0
   repeat' first
   | (with_reducible exact ih0 _ _ _)
   | (with_reducible exact LeO.refl _)
   | (with_reducible exact LeO.none _)
   | (with_reducible refine LeO.ite ?_ ?_)
   | (with_reducible refine LeO.bind ?_ (fun _ => ?_))
   | exact ih0 _ _ _
   | exact LeO.none _
   | refine LeO.ite ?_ ?_
   | refine LeO.bind ?_ (fun _ => ?_)
theorem laws_eqInt64S.mono : ∀ a0 a1 k, LeO (laws_eqInt64S.f k a0 a1) (laws_eqInt64S.f (k + 1) a0 a1) := by
 intro a0 a1 k
 have ih0 := laws_eqInt64S.mono_l k
 unfold laws_eqInt64S.f
 repeat' first
   | (with_reducible exact ih0 _ _ _)
   | (with_reducible exact LeO.refl _)
   | (with_reducible exact LeO.none _)
   | (with_reducible refine LeO.ite ?_ ?_)
   | (with_reducible refine LeO.bind ?_ (fun _ => ?_))
   | exact ih0 _ _ _
   | exact LeO.none _
   | refine LeO.ite ?_ ?_
   | refine LeO.bind ?_ (fun _ => ?_)
set_option maxHeartbeats 8000000 in
set_option maxRecDepth 100000 in
theorem laws_eqInt64S.calls (k : Nat) (A0 : Option Addr) (c0 : Nat) (l0 : List Int) (A1 : Option Addr) (c1 : Nat) (l1 : List Int) (r : Bool) (w : World) (hr0 : Kd.C (Kd.int .i64) w A0 l0.length l0) (hc0 : l0.length ≤ c0) (hr1 : Kd.C (Kd.int .i64) w A1 l1.length l1) (hc1 : l1.length ≤ c1) (h : laws_eqInt64S.f k l0 l1 = some r) :
  Calls Tryd.prog 8 #[.slice A0 l0.length c0, .slice A1 l1.length c1] w fun e w' => e = .returned (.bool r) ∧ Drawn0 w w' := by
 have HR0 := Aside0.mk hr0
 have HC0 := Aside0.mk hc0
 clear hr0 hc0
 have HR1 := Aside0.mk hr1
 have HC1 := Aside0.mk hc1
 clear hr1 hc1
 have H : (if (l0.length : Int) = (l1.length : Int) then (laws_eqInt64S.l0 k l0 l1 0) else (some false)) = some r := h
 clear h
 by_cases c3 : (l0.length : Int) = (l1.length : Int)
 ·rw [if_pos c3] at H
  have c3b0 : ((l0.length : Int) == (l1.length : Int)) = true := beq_iff_eq.mpr c3
  have c3b1 : ((l0.length : Int) != (l1.length : Int)) = false := bne_eq_false_iff_eq.mpr c3
  have c3b2 : (l0.length == l1.length) = true := by first | simpa using c3 | (simp at c3 ⊢; omega)
  clear c3
  have H' := Aside0.mk H
  clear H
  go_enter Tryd.func8, Tryd.ntmps8
  go_wp2
  repeat (go_quiet (fail); try go_wp2)
  go_loopg [5] k (fun kq v5 w' => ∃ (x5_1 : Int), v5 = .int .i64 x5_1 ∧ Aside0 (laws_eqInt64S.l0 kq l0 l1 x5_1 = some r) ∧ Aside0 (kq ≤ k) ∧ Drawn0 w w')
  case atStart => exact ⟨(0), (by first | rfl | (simp; done) | (simp [*]; done)), H', ⟨Nat.le_refl _⟩, by repeat (first | exact Drawn0.refl _ | apply Drawn0.step)⟩
  case round =>
   clear H'
   try clear c1
   try clear p2
   try clear c3
   try clear c3b0
   try clear c3b1
   try clear c3b2
   obtain ⟨x5_1, rfl, HA, HK1, ⟨m1, rfl⟩⟩ := hrel
   cases gk with
   | zero => exact absurd HA.out (by simp [laws_eqInt64S.l0])
   | succ k1 =>
    have H := HA.out
    clear HA
    simp only [laws_eqInt64S.l0] at H
    by_cases c4 : x5_1 < (l0.length : Int)
    ·rw [if_pos c4] at H
     have c4b0 : decide (x5_1 < (l0.length : Int)) = true := decide_eq_true c4
     clear c4
     by_cases c5 : 0 ≤ x5_1
     ·rw [if_pos c5] at H
      have c5b0 : decide (0 ≤ x5_1) = true := decide_eq_true c5
      clear c5
      by_cases c6 : x5_1 < (l1.length : Int)
      ·rw [if_pos c6] at H
       have c6b0 : decide (x5_1 < (l1.length : Int)) = true := decide_eq_true c6
       clear c6
       by_cases c7 : (rd l0 x5_1) = (rd l1 x5_1)
       ·rw [if_pos c7] at H
        have c7b0 : ((rd l0 x5_1) == (rd l1 x5_1)) = true := beq_iff_eq.mpr c7
        have c7b1 : ((rd l0 x5_1) != (rd l1 x5_1)) = false := bne_eq_false_iff_eq.mpr c7
        clear c7
        have H' := Aside0.mk H
        clear H
        have p119 : 0 ≤ (x5_1 : Int) := of_decide_eq_true (by with_reducible assumption)
        have q119 : x5_1 < (l0.length : Int) := of_decide_eq_true (by with_reducible assumption)
        obtain ⟨ad119, e119, hx119_0⟩ := Kd.at_int HR0.out x5_1 p119 q119
        cases e119
        replace p119 := eq_true p119
        replace q119 := eq_true q119
        have p120 : 0 ≤ (x5_1 : Int) := of_decide_eq_true (by with_reducible assumption)
        have q120 : x5_1 < (l1.length : Int) := of_decide_eq_true (by with_reducible assumption)
        obtain ⟨ad120, e120, hx120_0⟩ := Kd.at_int HR1.out x5_1 p120 q120
        cases e120
        replace p120 := eq_true p120
        replace q120 := eq_true q120
        go_wp2
        repeat (go_quiet (fail); try go_wp2)
        go_roundg k1
        case measure => have := HK1.out; omega
        case rel => exact ⟨(wrap64 (x5_1 + 1)), (by first | rfl | (simp; done) | (simp [*]; done)), H', ⟨by have := HK1.out; omega⟩, by repeat (first | exact Drawn0.refl _ | apply Drawn0.step)⟩
       ·rw [if_neg c7] at H
        have c7b0 : ((rd l0 x5_1) == (rd l1 x5_1)) = false := beq_eq_false_iff_ne.mpr c7
        have c7b1 : ((rd l0 x5_1) != (rd l1 x5_1)) = true := bne_iff_ne.mpr c7
        obtain rfl := Option.some.inj H
        have p119 : 0 ≤ (x5_1 : Int) := of_decide_eq_true (by with_reducible assumption)
        have q119 : x5_1 < (l0.length : Int) := of_decide_eq_true (by with_reducible assumption)
        obtain ⟨ad119, e119, hx119_0⟩ := Kd.at_int HR0.out x5_1 p119 q119
        cases e119
        replace p119 := eq_true p119
        replace q119 := eq_true q119
        have p120 : 0 ≤ (x5_1 : Int) := of_decide_eq_true (by with_reducible assumption)
        have q120 : x5_1 < (l1.length : Int) := of_decide_eq_true (by with_reducible assumption)
        obtain ⟨ad120, e120, hx120_0⟩ := Kd.at_int HR1.out x5_1 p120 q120
        cases e120
        replace p120 := eq_true p120
        replace q120 := eq_true q120
        go_wp2
        repeat (go_quiet (fail); try go_wp2)
        go_ret
        exact ⟨by first | rfl | (simp; done) | (simp [*]; done), by repeat (first | exact Drawn0.refl _ | apply Drawn0.step)⟩
      ·rw [if_neg c6] at H
       exact absurd H (by simp)
     ·rw [if_neg c5] at H
      exact absurd H (by simp)
    ·rw [if_neg c4] at H
     have c4b0 : decide (x5_1 < (l0.length : Int)) = false := decide_eq_false c4
     clear c4
     obtain rfl := Option.some.inj H
     go_wp2
     repeat (go_quiet (fail); try go_wp2)
     go_ret
     exact ⟨by first | rfl | (simp; done) | (simp [*]; done), by repeat (first | exact Drawn0.refl _ | apply Drawn0.step)⟩
 ·rw [if_neg c3] at H
  have c3b0 : ((l0.length : Int) == (l1.length : Int)) = false := beq_eq_false_iff_ne.mpr c3
  have c3b1 : ((l0.length : Int) != (l1.length : Int)) = true := bne_iff_ne.mpr c3
  have c3b2 : (l0.length == l1.length) = false := by first | simpa using c3 | (simp at c3 ⊢; omega)
  obtain rfl := Option.some.inj H
  go_enter Tryd.func8, Tryd.ntmps8
  go_wp2
  repeat (go_quiet (fail); try go_wp2)
  go_ret
  exact ⟨by first | rfl | (simp; done) | (simp [*]; done), by repeat (first | exact Drawn0.refl _ | apply Drawn0.step)⟩

end Go.Proofs.YteccfnppbonniaaDoor.Pa

/- Lists of whole numbers that are compared by a law. -/
namespace Go.Proofs.YteccfnppbonniaaDoor.Pure
open Go.RowKit Go.Proofs.YteccfnppbonniaaDoor.Pa Go.Proofs.YteccfnppbonniaaDoorW.PrintWords Go.Proofs.YteccfnppbonniaaDoorW.PrintLast
set_option linter.unusedVariables false
set_option linter.unusedSimpArgs false

theorem eqI_loop (l : List Int) (hl : l.length ≤ 4611686018427387904) (d : Nat) : ∀ (k i : Nat), i + d = l.length → d < k → laws_eqInt64S.l0 k l l (i : Int) = some true := by
 induction d with
 | zero =>
  intro k i h hk
  obtain ⟨k, rfl⟩ : ∃ m, k = m + 1 := ⟨k - 1, by omega⟩
  simp only [laws_eqInt64S.l0]
  rw [if_neg (by omega)]
 | succ d ih =>
  intro k i h hk
  obtain ⟨k, rfl⟩ : ∃ m, k = m + 1 := ⟨k - 1, by omega⟩
  simp only [laws_eqInt64S.l0]
  rw [if_pos (by omega), if_pos (by omega), if_pos (by omega), if_pos trivial, wrap_id (by omega) (by omega)]
  exact ih k (i + 1) (by omega) (by omega)
theorem eqI (l : List Int) (hl : l.length ≤ 4611686018427387904) : ∀ k, l.length < k → laws_eqInt64S.f k l l = some true := by
 intro k hk
 unfold laws_eqInt64S.f
 rw [if_pos rfl]
 exact eqI_loop l hl l.length k 0 (by omega) hk
end Go.Proofs.YteccfnppbonniaaDoor.Pure

namespace Go.Proofs.YteccfnppbonniaaDoor.Pa
open Go.RowKit Go.Proofs.YteccfnppbonniaaDoorW.PrintWords Go.Proofs.YteccfnppbonniaaDoorW.PrintLast Go.Proofs.YteccfnppbonniaaDoorW.PrintMore
attribute [local go_sem] max2_int min2_int max_two min_two max_three min_three max_four min_four   -- for this text's walks alone
set_option linter.unusedVariables false
set_option linter.unusedSimpArgs false

/-! ### laws_markInt64S: function 9 -/
def laws_markInt64S.l0 : Nat → List Int → Int → Int → Option (Int × List Int)
 | 0, _, _, _ => none
 | k + 1, x0, x1, x5 => if x5 < (x0.length : Int) then (if 0 ≤ x5 then (laws_markInt64S.l0 k (x0.set (x5 : Int).toNat x1) (wrap64 (x1 + 1)) (wrap64 (x5 + 1))) else (none)) else (some (x1, x0))
def laws_markInt64S.f (k : Nat) (l0 : List Int) (a1 : Int) : Option (Int × List Int) := laws_markInt64S.l0 k l0 a1 0
theorem laws_markInt64S.mono_l : ∀ k, (∀ y0 y1 y2, LeO (laws_markInt64S.l0 k y0 y1 y2) (laws_markInt64S.l0 (k + 1) y0 y1 y2))
 | 0 => fun _ _ _ r h => by simp [laws_markInt64S.l0] at h
 | k + 1 => by
  have ih0 := laws_markInt64S.mono_l k
  ·intro y0 y1 y2
   unfold laws_markInt64S.l0
   repeat' first
   | (with_reducible exact ih0 _ _ _)
   | (with_reducible exact LeO.refl _)
   | (with_reducible exact LeO.none _)
   | (with_reducible refine LeO.ite ?_ ?_)
   | (with_reducible refine LeO.bind ?_ (fun _ => ?_))
   | exact ih0 _ _ _
   | exact LeO.none _
   | refine LeO.ite ?_ ?_
   | refine LeO.bind ?_ (fun _ => ?_)
theorem laws_markInt64S.mono : ∀ a0 a1 k, LeO (laws_markInt64S.f k a0 a1) (laws_markInt64S.f (k + 1) a0 a1) := by
 intro a0 a1 k
 have ih0 := laws_markInt64S.mono_l k
 unfold laws_markInt64S.f
 repeat' first
   | (with_reducible exact ih0 _ _ _)
   | (with_reducible exact LeO.refl _)
   | (with_reducible exact LeO.none _)
   | (with_reducible refine LeO.ite ?_ ?_)
   | (with_reducible refine LeO.bind ?_ (fun _ => ?_))
   | exact ih0 _ _ _
   | exact LeO.none _
   | refine LeO.ite ?_ ?_
   | refine LeO.bind ?_ (fun _ => ?_)
set_option maxHeartbeats 8000000 in
set_option maxRecDepth 100000 in
theorem laws_markInt64S.calls (k : Nat) (P0_ : Nat → Prop) (u9000_ : Value) (l0 : List Int) (a1 : Int) (r1 : Int) (r2 : List Int) (w0 w : World) (hB : Below w0.heap.size w0 w) (ho0 : Kd.R (Kd.int .i64) 2 w w0.heap.size P0_ u9000_ l0) (h : laws_markInt64S.f k l0 a1 = some (r1, r2)) :
  Calls Tryd.prog 9 #[u9000_, .int .i64 a1] w fun e w' => e = .returned (.int .i64 r1) ∧ Kd.R (Kd.int .i64) 2 w' w0.heap.size (fun k_ => (P0_ k_ ∨ w.heap.size ≤ k_)) u9000_ r2 ∧ Below w0.heap.size w0 w' ∧ Kept w w' (fun k_ => P0_ k_) := by
 have HO0 := Aside0.mk (show Kd.R (Kd.int .i64) 2 w w0.heap.size (fun k_ => (P0_ k_ ∨ w.heap.size ≤ k_)) u9000_ l0 from Kd.R_mono ho0 (fun k_ hk => (.inl hk)))
 have HK := Aside0.mk (Kept.refl w (fun k_ => P0_ k_))
 have HW0 := Aside0.mk hB.size
 have HB := Aside0.mk hB
 clear hB
 have H : (laws_markInt64S.l0 k l0 a1 0) = some (r1, r2) := h
 clear h
 have H' := Aside0.mk H
 clear H
 go_enter Tryd.func9, Tryd.ntmps9
 go_wp2
 go_loopg [1, 5] k (fun kq v1 v5 w' => ∃ (x0_1 : List Int) (x1_1 : Int) (x5_1 : Int), v1 = .int .i64 x1_1 ∧ v5 = .int .i64 x5_1 ∧ Aside0 (laws_markInt64S.l0 kq x0_1 x1_1 x5_1 = some (r1, r2)) ∧ Aside0 (kq ≤ k) ∧ Aside0 (Kd.R (Kd.int .i64) 2 w' w0.heap.size (fun k_ => (P0_ k_ ∨ w.heap.size ≤ k_)) u9000_ x0_1) ∧ Aside0 (Kept w w' (fun k_ => P0_ k_)) ∧ Aside0 (Below w0.heap.size w0 w'))
 case atStart => exact ⟨(l0), (a1), (0), (by first | rfl | (simp; done) | (simp [*]; done)), (by first | rfl | (simp; done) | (simp [*]; done)), H', ⟨Nat.le_refl _⟩, ⟨by (with_reducible repeat (first | apply Kd.R_alloc | apply Kd.R_drewN | apply Kd.R_drew)); exact HO0.out⟩, ⟨by repeat (first | (with_reducible first | exact HK.out | apply Kept.alloc | apply Kept.drewN | apply Kept.drew) | exact HK.out)⟩, ⟨by repeat (first | (with_reducible first | exact HB.out | apply below_alloc | apply pw_below_drewN | apply below_drew1) | exact HB.out)⟩⟩
 case round =>
  clear H'
  try clear p2
  obtain ⟨x0_1, x1_1, x5_1, rfl, rfl, HA, HK1, HO_0, HK, HB⟩ := hrel
  cases gk with
  | zero => exact absurd HA.out (by simp [laws_markInt64S.l0])
  | succ k1 =>
   have H := HA.out
   clear HA
   simp only [laws_markInt64S.l0] at H
   by_cases c3 : x5_1 < (x0_1.length : Int)
   ·rw [if_pos c3] at H
    have c3b0 : decide (x5_1 < (x0_1.length : Int)) = true := decide_eq_true c3
    clear c3
    by_cases c4 : 0 ≤ x5_1
    ·rw [if_pos c4] at H
     have c4b0 : decide (0 ≤ x5_1) = true := decide_eq_true c4
     clear c4
     obtain ⟨y121, hy121⟩ : ∃ y_ : List Int, y_ = (x0_1.set (x5_1 : Int).toNat x1_1) := ⟨_, rfl⟩
     replace H : (laws_markInt64S.l0 k1 y121 (wrap64 (x1_1 + 1)) (wrap64 (x5_1 + 1))) = some (r1, r2) := by first | (rw [hy121]; with_reducible exact H) | (have H2_ := (Option.bind_some _ _).symm.trans H; rw [hy121]; with_reducible exact H2_) | (have H2_ := (Option.bind_some _ _).symm.trans H; with_reducible exact H2_) | with_reducible exact H | (rw [hy121]; exact H) | exact H
     have Ny121 := Aside0.mk hy121
     clear hy121
     have H' := Aside0.mk H
     clear H
     obtain ⟨Ao6, co6, eo6⟩ := Kd.R_slice HO_0.out
     subst eo6
     have p5 : 0 ≤ (x5_1 : Int) := of_decide_eq_true (by with_reducible assumption)
     have q5 : (x5_1 : Int) < ((x0_1.length : Int) : Int) := of_decide_eq_true (by with_reducible assumption)
     obtain ⟨go5, co5, eo5, gb5, gl5, cl5, HG5⟩ := Kd.R_form HO_0.out (by omega)
     (first | cases eo5 | (injection eo5 with ea_ en_ ec_; (first | subst ea_ | (injection ea_ with ea_; subst ea_)); subst ec_; clear en_))
     have GB5 := Aside0.mk gb5
     have GG5 := Aside0.mk HG5
     clear gb5 gl5 HG5
     have HMgo5 := Aside0.mk (show (P0_ go5 ∨ w.heap.size ≤ go5) from (HO_0.out.1 _ rfl))
     obtain ⟨hx5_0, hf5_0⟩ := Kd.R_celln 0 HO_0.out (x5_1 : Int) p5 q5
     replace p5 := eq_true p5
     replace q5 := eq_true q5
     have HP7 := Kd.R_putg HO_0.out (x5_1 : Int) x1_1
     go_wp2_with (first | ((with_reducible refine gate_store (t := 2) (p := 15) rfl ?_); refine store_event (t := 2) (p := 15) (v := ?vo_w8) (w1 := (wr.setCell ⟨go5, (x5_1 : Int).toNat, none⟩ (.int .i64 x1_1))) ?hg ?ho ?hn ?hr ?_; (case ho => rfl); (case hg => rfl); (case hn => rfl); (case hr => first | (go_simp; done) | (go_simp; rfl)); intro w8 hw; have hg : wr.grownBy w8 (some go5) := (by rw [hw]; exact HP7.2); have hp_ : Kd.R (Kd.int .i64) 2 w8 w0.heap.size (fun k_ => (P0_ k_ ∨ w.heap.size ≤ k_)) (.slice (some ⟨go5, 0, none⟩) x0_1.length co6) y121 := (by rw [hw, Ny121.out]; exact HP7.1); clear HP7; have n0_ := Aside0.mk (hp_); have n1_ := Aside0.mk ((by rw [hw]; exact below_set (HB.out) GB5.out : Below w0.heap.size w0 w8)); have n2_ := Aside0.mk (Kept.of_grown (S := (fun k_ => P0_ k_)) hg (by repeat (first | (with_reducible first | exact HK.out | apply Kept.alloc | apply Kept.drewN | apply Kept.drew) | exact HK.out)) (fun k_ e_ => (HO_0.out.1 k_ e_))); clear HO_0; clear HB; clear HK; have HO_0 := n0_; have HB := n1_; have HK := n2_; clear n0_ n1_ n2_; clear hg hw hp_))
     go_roundg k1
     case measure => have := HK1.out; omega
     case rel => exact ⟨(y121), (wrap64 (x1_1 + 1)), (wrap64 (x5_1 + 1)), (by first | rfl | (simp; done) | (simp [*]; done)), (by first | rfl | (simp; done) | (simp [*]; done)), H', ⟨by have := HK1.out; omega⟩, ⟨by (with_reducible repeat (first | apply Kd.R_alloc | apply Kd.R_drewN | apply Kd.R_drew)); exact HO_0.out⟩, ⟨by repeat (first | (with_reducible first | exact HK.out | apply Kept.alloc | apply Kept.drewN | apply Kept.drew) | exact HK.out)⟩, ⟨by repeat (first | (with_reducible first | exact HB.out | apply below_alloc | apply pw_below_drewN | apply below_drew1) | exact HB.out)⟩⟩
    ·rw [if_neg c4] at H
     exact absurd H (by simp)
   ·rw [if_neg c3] at H
    have c3b0 : decide (x5_1 < (x0_1.length : Int)) = false := decide_eq_false c3
    clear c3
    simp only [Option.some.injEq, Prod.mk.injEq] at H
    obtain ⟨rfl, rfl⟩ := H
    obtain ⟨Ao9, co9, eo9⟩ := Kd.R_slice HO_0.out
    subst eo9
    go_wp2
    go_ret
    exact ⟨by first | rfl | (simp [errW_none, errW_some] <;> rfl) | (simp [*, errW_none, errW_some] <;> rfl), by (with_reducible repeat (first | apply Kd.R_alloc | apply Kd.R_drewN | apply Kd.R_drew)); exact HO_0.out, by repeat (first | (with_reducible first | exact HB.out | apply below_alloc | apply pw_below_drewN | apply below_drew1) | exact HB.out), by repeat (first | (with_reducible first | exact HK.out | apply Kept.alloc | apply Kept.drewN | apply Kept.drew) | exact HK.out)⟩

end Go.Proofs.YteccfnppbonniaaDoor.Pa

namespace Go.Proofs.YteccfnppbonniaaDoor.Pa
open Go.RowKit Go.Proofs.YteccfnppbonniaaDoorW.PrintWords Go.Proofs.YteccfnppbonniaaDoorW.PrintLast Go.Proofs.YteccfnppbonniaaDoorW.PrintMore
attribute [local go_sem] max2_int min2_int max_two min_two max_three min_three max_four min_four   -- for this text's walks alone
set_option linter.unusedVariables false
set_option linter.unusedSimpArgs false

/-! ### laws_heldInt64S: function 10 -/
def laws_heldInt64S.l0 : Nat → List Int → Int → Int → Option (Int)
 | 0, _, _, _ => none
 | k + 1, x0, x1, x5 => if x5 < (x0.length : Int) then (if 0 ≤ x5 then (if (rd x0 x5) = x1 then (laws_heldInt64S.l0 k x0 (wrap64 (x1 + 1)) (wrap64 (x5 + 1))) else (some (-1))) else (none)) else (some x1)
def laws_heldInt64S.f (k : Nat) (l0 : List Int) (a1 : Int) : Option (Int) := laws_heldInt64S.l0 k l0 a1 0
theorem laws_heldInt64S.mono_l : ∀ k, (∀ y0 y1 y2, LeO (laws_heldInt64S.l0 k y0 y1 y2) (laws_heldInt64S.l0 (k + 1) y0 y1 y2))
 | 0 => fun _ _ _ r h => by simp [laws_heldInt64S.l0] at h
 | k + 1 => by
  have ih0 := laws_heldInt64S.mono_l k
  ·intro y0 y1 y2
   unfold laws_heldInt64S.l0
   repeat' first
   | (with_reducible exact ih0 _ _ _)
   | (with_reducible exact LeO.refl _)
   | (with_reducible exact LeO.none _)
   | (with_reducible refine LeO.ite ?_ ?_)
   | (with_reducible refine LeO.bind ?_ (fun _ => ?_))
   | exact ih0 _ _ _
   | exact LeO.none _
   | refine LeO.ite ?_ ?_
   | refine LeO.bind ?_ (fun _ => ?_)
theorem laws_heldInt64S.mono : ∀ a0 a1 k, LeO (laws_heldInt64S.f k a0 a1) (laws_heldInt64S.f (k + 1) a0 a1) := by
 intro a0 a1 k
 have ih0 := laws_heldInt64S.mono_l k
 unfold laws_heldInt64S.f
 repeat' first
   | (with_reducible exact ih0 _ _ _)
   | (with_reducible exact LeO.refl _)
   | (with_reducible exact LeO.none _)
   | (with_reducible refine LeO.ite ?_ ?_)
   | (with_reducible refine LeO.bind ?_ (fun _ => ?_))
   | exact ih0 _ _ _
   | exact LeO.none _
   | refine LeO.ite ?_ ?_
   | refine LeO.bind ?_ (fun _ => ?_)
set_option maxHeartbeats 8000000 in
set_option maxRecDepth 100000 in
theorem laws_heldInt64S.calls (k : Nat) (A0 : Option Addr) (c0 : Nat) (l0 : List Int) (a1 : Int) (r : Int) (w : World) (hr0 : Kd.C (Kd.int .i64) w A0 l0.length l0) (hc0 : l0.length ≤ c0) (h : laws_heldInt64S.f k l0 a1 = some r) :
  Calls Tryd.prog 10 #[.slice A0 l0.length c0, .int .i64 a1] w fun e w' => e = .returned (.int .i64 r) ∧ Drawn0 w w' := by
 have HR0 := Aside0.mk hr0
 have HC0 := Aside0.mk hc0
 clear hr0 hc0
 have H : (laws_heldInt64S.l0 k l0 a1 0) = some r := h
 clear h
 have H' := Aside0.mk H
 clear H
 go_enter Tryd.func10, Tryd.ntmps10
 go_wp2
 go_loopg [1, 5] k (fun kq v1 v5 w' => ∃ (x1_1 : Int) (x5_1 : Int), v1 = .int .i64 x1_1 ∧ v5 = .int .i64 x5_1 ∧ Aside0 (laws_heldInt64S.l0 kq l0 x1_1 x5_1 = some r) ∧ Aside0 (kq ≤ k) ∧ Drawn0 w w')
 case atStart => exact ⟨(a1), (0), (by first | rfl | (simp; done) | (simp [*]; done)), (by first | rfl | (simp; done) | (simp [*]; done)), H', ⟨Nat.le_refl _⟩, by repeat (first | exact Drawn0.refl _ | apply Drawn0.step)⟩
 case round =>
  clear H'
  try clear c1
  try clear p2
  obtain ⟨x1_1, x5_1, rfl, rfl, HA, HK1, ⟨m1, rfl⟩⟩ := hrel
  cases gk with
  | zero => exact absurd HA.out (by simp [laws_heldInt64S.l0])
  | succ k1 =>
   have H := HA.out
   clear HA
   simp only [laws_heldInt64S.l0] at H
   by_cases c3 : x5_1 < (l0.length : Int)
   ·rw [if_pos c3] at H
    have c3b0 : decide (x5_1 < (l0.length : Int)) = true := decide_eq_true c3
    clear c3
    by_cases c4 : 0 ≤ x5_1
    ·rw [if_pos c4] at H
     have c4b0 : decide (0 ≤ x5_1) = true := decide_eq_true c4
     clear c4
     by_cases c5 : (rd l0 x5_1) = x1_1
     ·rw [if_pos c5] at H
      have c5b0 : ((rd l0 x5_1) == x1_1) = true := beq_iff_eq.mpr c5
      have c5b1 : ((rd l0 x5_1) != x1_1) = false := bne_eq_false_iff_eq.mpr c5
      clear c5
      have H' := Aside0.mk H
      clear H
      have p122 : 0 ≤ (x5_1 : Int) := of_decide_eq_true (by with_reducible assumption)
      have q122 : x5_1 < (l0.length : Int) := of_decide_eq_true (by with_reducible assumption)
      obtain ⟨ad122, e122, hx122_0⟩ := Kd.at_int HR0.out x5_1 p122 q122
      cases e122
      replace p122 := eq_true p122
      replace q122 := eq_true q122
      go_wp2
      go_roundg k1
      case measure => have := HK1.out; omega
      case rel => exact ⟨(wrap64 (x1_1 + 1)), (wrap64 (x5_1 + 1)), (by first | rfl | (simp; done) | (simp [*]; done)), (by first | rfl | (simp; done) | (simp [*]; done)), H', ⟨by have := HK1.out; omega⟩, by repeat (first | exact Drawn0.refl _ | apply Drawn0.step)⟩
     ·rw [if_neg c5] at H
      have c5b0 : ((rd l0 x5_1) == x1_1) = false := beq_eq_false_iff_ne.mpr c5
      have c5b1 : ((rd l0 x5_1) != x1_1) = true := bne_iff_ne.mpr c5
      obtain rfl := Option.some.inj H
      have p122 : 0 ≤ (x5_1 : Int) := of_decide_eq_true (by with_reducible assumption)
      have q122 : x5_1 < (l0.length : Int) := of_decide_eq_true (by with_reducible assumption)
      obtain ⟨ad122, e122, hx122_0⟩ := Kd.at_int HR0.out x5_1 p122 q122
      cases e122
      replace p122 := eq_true p122
      replace q122 := eq_true q122
      go_wp2
      go_ret
      exact ⟨by first | rfl | (simp; done) | (simp [*]; done), by repeat (first | exact Drawn0.refl _ | apply Drawn0.step)⟩
    ·rw [if_neg c4] at H
     exact absurd H (by simp)
   ·rw [if_neg c3] at H
    have c3b0 : decide (x5_1 < (l0.length : Int)) = false := decide_eq_false c3
    clear c3
    obtain rfl := Option.some.inj H
    go_wp2
    go_ret
    exact ⟨by first | rfl | (simp; done) | (simp [*]; done), by repeat (first | exact Drawn0.refl _ | apply Drawn0.step)⟩

end Go.Proofs.YteccfnppbonniaaDoor.Pa

/- Lists of whole numbers that are compared, marked and looked at again by a law. -/
namespace Go.Proofs.YteccfnppbonniaaDoor.Pure
open Go.RowKit Go.Proofs.YteccfnppbonniaaDoor.Pa Go.Proofs.YteccfnppbonniaaDoorW.PrintWords Go.Proofs.YteccfnppbonniaaDoorW.PrintLast
set_option linter.unusedVariables false
set_option linter.unusedSimpArgs false

theorem markI_loop (d : Nat) : ∀ (k : Nat) (l : List Int) (a : Int) (i : Nat), i + d = l.length → d < k → 0 ≤ a → a + d ≤ 4611686018427387904 → l.length ≤ 4611686018427387904 →
  laws_markInt64S.l0 k l a (i : Int) = some (a + d, l.take i ++ numsFrom a d) := by
 induction d with
 | zero =>
  intro k l a i h hk h0 ha hl
  obtain ⟨k, rfl⟩ : ∃ m, k = m + 1 := ⟨k - 1, by omega⟩
  simp only [laws_markInt64S.l0]
  rw [if_neg (by omega), List.take_of_length_le (by omega)]
  simp [numsFrom]
 | succ d ih =>
  intro k l a i h hk h0 ha hl
  obtain ⟨k, rfl⟩ : ∃ m, k = m + 1 := ⟨k - 1, by omega⟩
  simp only [laws_markInt64S.l0]
  rw [if_pos (by omega), if_pos (by omega), wrap_id (by omega) (by omega), wrap_id (by omega) (by omega)]
  have := ih k (l.set i a) (a + 1) (i + 1) (by simp; omega) (by omega) (by omega) (by omega) (by simpa using hl)
  rw [Int.toNat_natCast]
  push_cast at this
  rw [this]
  have ht : (l.set i a).take (i + 1) = l.take i ++ [a] := by
   rw [List.take_succ_eq_append_getElem (by simp; omega), List.take_set_of_le (by omega)]
   simp
  rw [ht]
  simp only [Option.some.injEq, Prod.mk.injEq]
  exact ⟨by omega, by simp [numsFrom]⟩
theorem markI (l : List Int) (hl : l.length ≤ 4611686018427387) : ∀ k, l.length < k → laws_markInt64S.f k l 1 = some (1 + (l.length : Int), numsFrom 1 l.length) := by
 intro k hk
 unfold laws_markInt64S.f
 have := markI_loop l.length k l 1 0 (by omega) hk (by omega) (by omega) (by omega)
 simpa using this
theorem heldI_loop (d : Nat) : ∀ (k : Nat) (l : List Int) (a : Int) (i : Nat), i + d = l.length → d < k → 0 ≤ a → a + d ≤ 4611686018427387904 → l.length ≤ 4611686018427387904 →
  l.drop i = numsFrom a d → laws_heldInt64S.l0 k l a (i : Int) = some (a + d) := by
 induction d with
 | zero =>
  intro k l a i h hk h0 ha hl hd
  obtain ⟨k, rfl⟩ : ∃ m, k = m + 1 := ⟨k - 1, by omega⟩
  simp only [laws_heldInt64S.l0]
  rw [if_neg (by omega)]
  simp
 | succ d ih =>
  intro k l a i h hk h0 ha hl hd
  obtain ⟨k, rfl⟩ : ∃ m, k = m + 1 := ⟨k - 1, by omega⟩
  rw [List.drop_eq_getElem_cons (by omega), numsFrom, List.cons.injEq] at hd
  simp only [laws_heldInt64S.l0]
  rw [if_pos (by omega), if_pos (by omega), if_pos (by rw [rd_get (by omega)]; exact hd.1), wrap_id (by omega) (by omega), wrap_id (by omega) (by omega)]
  have := ih k l (a + 1) (i + 1) (by omega) (by omega) (by omega) (by omega) hl hd.2
  push_cast at this
  rw [this]
  simp only [Option.some.injEq]
  omega
theorem heldI (n : Nat) (hl : n ≤ 4611686018427387) : ∀ k, n < k → laws_heldInt64S.f k (numsFrom 1 n) 1 = some (1 + (n : Int)) := by
 intro k hk
 unfold laws_heldInt64S.f
 have := heldI_loop n k (numsFrom 1 n) 1 0 (by simp [numsFrom_length]) hk (by omega) (by omega) (by simp [numsFrom_length]; omega) (by simp)
 simpa using this
end Go.Proofs.YteccfnppbonniaaDoor.Pure

