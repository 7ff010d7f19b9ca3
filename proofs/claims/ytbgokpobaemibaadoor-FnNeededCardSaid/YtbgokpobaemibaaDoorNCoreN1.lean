-- Written for this claim by a program of this session.
import Derived.Test.YtbgokpobaemibaaDoorNPax0
import Derived.Laws.CopyOwn
import Derived.Deep.RegionLaw
import Derived.IntWalk
/- Small laws of whole numbers and lists that the plain statements of this seat use. -/
namespace Go.Proofs.YtbgokpobaemibaaDoor.Pure
open Go.RowKit Go.Proofs.YtbgokpobaemibaaDoor.Pa Go.Proofs.YtbgokpobaemibaaDoorW.PrintWords Go.Proofs.YtbgokpobaemibaaDoorW.PrintLast
set_option linter.unusedVariables false
set_option linter.unusedSimpArgs false

theorem wrap_id {x : Int} (h0 : -9223372036854775808 ≤ x) (h1 : x ≤ 9223372036854775807) : wrap64 x = x := by
 unfold wrap64
 omega
theorem rd_get {l : List Int} {i : Nat} (h : i < l.length) : rd l (i : Int) = l[i] := by
 unfold rd
 rw [List.getD_eq_getElem?_getD, Int.toNat_natCast, List.getElem?_eq_getElem h]
 rfl
/-- The numbers a, a + 1, .. -/
def numsFrom (a : Int) : Nat → List Int
 | 0 => []
 | n + 1 => a :: numsFrom (a + 1) n
end Go.Proofs.YtbgokpobaemibaaDoor.Pure

namespace Go.Proofs.YtbgokpobaemibaaDoor.Pa
open Go.RowKit Go.Proofs.YtbgokpobaemibaaDoorW.PrintWords Go.Proofs.YtbgokpobaemibaaDoorW.PrintLast Go.Proofs.YtbgokpobaemibaaDoorW.PrintMore
attribute [local go_sem] max2_int min2_int max_two min_two max_three min_three max_four min_four   -- for this text's walks alone
set_option linter.unusedVariables false
set_option linter.unusedSimpArgs false

/-! ### bits_Mul64: function 62 -/
def bits_Mul64.f (a0 : Int) (a1 : Int) : Option (Int × Int) := some (IntKind.u64.wrap ((IntKind.u64.wrap ((IntKind.u64.wrap ((a0 / 4294967296) * (a1 / 4294967296))) + ((IntKind.u64.wrap ((IntKind.u64.wrap ((a0 / 4294967296) * (Go.bits .and .u64 a1 4294967295))) + ((IntKind.u64.wrap ((Go.bits .and .u64 a0 4294967295) * (Go.bits .and .u64 a1 4294967295))) / 4294967296))) / 4294967296))) + ((IntKind.u64.wrap ((Go.bits .and .u64 (IntKind.u64.wrap ((IntKind.u64.wrap ((a0 / 4294967296) * (Go.bits .and .u64 a1 4294967295))) + ((IntKind.u64.wrap ((Go.bits .and .u64 a0 4294967295) * (Go.bits .and .u64 a1 4294967295))) / 4294967296))) 4294967295) + (IntKind.u64.wrap ((Go.bits .and .u64 a0 4294967295) * (a1 / 4294967296))))) / 4294967296)), IntKind.u64.wrap (a0 * a1))
set_option maxHeartbeats 8000000 in
set_option maxRecDepth 100000 in
theorem bits_Mul64.calls (a0 : Int) (a1 : Int) (r1 : Int) (r2 : Int) (w : World) (h : bits_Mul64.f a0 a1 = some (r1, r2)) :
  Calls Tryd.prog 62 #[.int .u64 a0, .int .u64 a1] w fun e w' => e = .returned (.tuple #[.int .u64 r1, .int .u64 r2]) ∧ Drawn0 w w' := by
 have H : (some (IntKind.u64.wrap ((IntKind.u64.wrap ((IntKind.u64.wrap ((a0 / 4294967296) * (a1 / 4294967296))) + ((IntKind.u64.wrap ((IntKind.u64.wrap ((a0 / 4294967296) * (Go.bits .and .u64 a1 4294967295))) + ((IntKind.u64.wrap ((Go.bits .and .u64 a0 4294967295) * (Go.bits .and .u64 a1 4294967295))) / 4294967296))) / 4294967296))) + ((IntKind.u64.wrap ((Go.bits .and .u64 (IntKind.u64.wrap ((IntKind.u64.wrap ((a0 / 4294967296) * (Go.bits .and .u64 a1 4294967295))) + ((IntKind.u64.wrap ((Go.bits .and .u64 a0 4294967295) * (Go.bits .and .u64 a1 4294967295))) / 4294967296))) 4294967295) + (IntKind.u64.wrap ((Go.bits .and .u64 a0 4294967295) * (a1 / 4294967296))))) / 4294967296)), IntKind.u64.wrap (a0 * a1))) = some (r1, r2) := h
 clear h
 simp only [Option.some.injEq, Prod.mk.injEq] at H
 obtain ⟨rfl, rfl⟩ := H
 go_enter Tryd.func62, Tryd.ntmps62
 go_wp2
 go_ret2
 exact ⟨by first | rfl | (simp; done) | (simp [*]; done), by repeat (first | exact Drawn0.refl _ | apply Drawn0.step)⟩

end Go.Proofs.YtbgokpobaemibaaDoor.Pa

namespace Go.Proofs.YtbgokpobaemibaaDoor.Pa
open Go.RowKit Go.Proofs.YtbgokpobaemibaaDoorW.PrintWords Go.Proofs.YtbgokpobaemibaaDoorW.PrintLast Go.Proofs.YtbgokpobaemibaaDoorW.PrintMore
attribute [local go_sem] max2_int min2_int max_two min_two max_three min_three max_four min_four   -- for this text's walks alone
set_option linter.unusedVariables false
set_option linter.unusedSimpArgs false

/-! ### bits_Mul: function 54 -/
def bits_Mul.f (a0 : Int) (a1 : Int) : Option (Int × Int) := (bits_Mul64.f a0 a1).bind fun bt176 => (some (bt176.1, bt176.2))
set_option maxHeartbeats 8000000 in
set_option maxRecDepth 100000 in
theorem bits_Mul.calls (a0 : Int) (a1 : Int) (r1 : Int) (r2 : Int) (w : World) (h : bits_Mul.f a0 a1 = some (r1, r2)) :
  Calls Tryd.prog 54 #[.int .u64 a0, .int .u64 a1] w fun e w' => e = .returned (.tuple #[.int .u64 r1, .int .u64 r2]) ∧ Drawn0 w w' := by
 have H : ((bits_Mul64.f a0 a1).bind fun bt176 => (some (bt176.1, bt176.2))) = some (r1, r2) := h
 clear h
 replace H := Option.bind_eq_some_iff.mp H
 obtain ⟨⟨t176, t177⟩, A30, H⟩ := H
 replace H : (some (t176, t177)) = some (r1, r2) := H
 have A3 := Aside0.mk A30
 clear A30
 simp only [Option.some.injEq, Prod.mk.injEq] at H
 obtain ⟨rfl, rfl⟩ := H
 go_enter Tryd.func54, Tryd.ntmps54
 go_wp2_with (first | ((with_reducible refine gate_callee (f := 62) rfl ?_); refine goesL_ (some 25) rfl rfl Tryd.func62 (by kernel_rfl) rfl #[.int .u64 a0, .int .u64 a1] rfl (by (try simp only [List.map_toArray, List.map_cons, List.map_nil]); first | done | rfl | (simp only [List.length_drop, List.length_take]; rfl)) ?_; (with_reducible refine (bits_Mul64.calls a0 a1 t176 t177 _ A3.out).mono ?_); rintro e w' ⟨rfl, ⟨nd, rfl⟩⟩; refine ⟨_, rfl, ?_⟩))
 go_ret2
 exact ⟨by first | rfl | (simp; done) | (simp [*]; done), by repeat (first | exact Drawn0.refl _ | apply Drawn0.step)⟩

end Go.Proofs.YtbgokpobaemibaaDoor.Pa

namespace Go.Proofs.YtbgokpobaemibaaDoor.Pa
open Go.RowKit Go.Proofs.YtbgokpobaemibaaDoorW.PrintWords Go.Proofs.YtbgokpobaemibaaDoorW.PrintLast Go.Proofs.YtbgokpobaemibaaDoorW.PrintMore
attribute [local go_sem] max2_int min2_int max_two min_two max_three min_three max_four min_four   -- for this text's walks alone
set_option linter.unusedVariables false
set_option linter.unusedSimpArgs false

/-! ### slices_Repeat_int64_int64: function 42 -/
/-- Repeat, of one number, up to 64 times. -/
def slices_Repeat_int64_int64.f (l0 : List Int) (a1 : Int) : Option (List Int) := if l0.length = 1 ∧ 1 ≤ a1 ∧ a1 ≤ 64 then some (List.replicate a1.toNat (rd l0 0)) else none
theorem mul_one (n : Nat) (h : n ≤ 64) : bits_Mul.f 1 (n : Int) = some (0, (n : Int)) := by
 have key : ∀ n : Fin 65, bits_Mul.f 1 ((n.val : Nat) : Int) = some (0, ((n.val : Nat) : Int)) := by decide
 exact key ⟨n, by omega⟩
/-- A row whose first m numbers are v and the others 0. -/
def half (v : Int) (m n : Nat) : List Value := List.replicate m (.int .i64 v) ++ List.replicate (n - m) (.int .i64 0)
theorem half_length (v : Int) (m n : Nat) (h : m ≤ n) : (half v m n).length = n := by simp [half]; omega
theorem half_get (v : Int) (m n j : Nat) (h : j < m) : (half v m n)[j]? = some (.int .i64 v) := by
 unfold half
 rw [List.getElem?_append_left (by simpa using h)]
 simp [h]
theorem half_splice (v : Int) (m n q : Nat) (h : m + q ≤ n) : splice (half v m n) m (List.replicate q (.int .i64 v)) = half v (m + q) n := by
 unfold splice half
 rw [List.take_append_of_le_length (by simp), List.take_of_length_le (by simp), List.length_replicate, List.drop_append, List.drop_of_length_le (by simp), List.nil_append]
 simp only [List.length_replicate, List.drop_replicate, ← List.append_assoc, List.replicate_append_replicate]
 congr 2
 omega
theorem full_block {w : World} {base g e n : Nat} {xs : List Value} (h : w.ownsRow base e 1 (.slice (some ⟨g, 0, none⟩) n n) n xs) : w.heap[g]? = some (.cells xs.toArray e (0, 0)) ∧ base ≤ g := by
 obtain ⟨hl, h | ⟨g', cap, cur, he, hb, hh, h1, h2, hs, ht⟩⟩ := h
 ·exact absurd h.1 (by simp)
 ·simp only [Value.slice.injEq, Option.some.injEq, Addr.mk.injEq] at he
  obtain ⟨⟨rfl, _⟩, _, rfl⟩ := he
  refine ⟨?_, hb⟩
  rw [hh]
  have : cur.toList = xs := by rw [← ht, List.take_of_length_le (by simp; omega)]
  rw [← this]
theorem below_of_grown_none {w w1 : World} {nd : Nat} (h : (w.drewN nd).grownBy w1 none) : Below w.heap.size w w1 := ⟨h.os, h.tape, h.output, h.size, fun k hk => h.block k hk (by simp)⟩
theorem made_zeros (n : Nat) : (madeCells (Value.int IntKind.i64 0).cells (n * 1)).toList = half 0 0 n := by
 apply List.ext_getElem
 ·simp [madeCells, half]
 ·intro i h1 h2
  simp [madeCells, half, Value.cells, Nat.mod_one]
theorem half_zero (v : Int) (n : Nat) : half v 0 n = half 0 0 n := by simp [half]
theorem splice_first (v : Int) (n : Nat) (h : 1 ≤ n) : splice (half 0 0 n) 0 [.int .i64 v] = half v 1 n := by
 have := half_splice v 0 n 1 (by omega)
 rw [half_zero] at this
 simpa using this
set_option maxHeartbeats 4000000 in
set_option maxRecDepth 100000 in
theorem Repeat_walk (A0 : Option Addr) (c0 : Nat) (v : Int) (n : Nat) (w : World) (hr0 : ∃ ad, A0 = some ad ∧ w.cell? ad = some (.int .i64 v)) (h1 : 1 ≤ n) (h2 : n ≤ 64) :
  Calls Tryd.prog 42 #[.slice A0 1 c0, .int .i64 (n : Int)] w fun e w' => ∃ g, e = .returned (.slice (some ⟨g, 0, none⟩) n n) ∧ w.heap.size ≤ g ∧ w'.heap[g]? = some (.cells (half v n n).toArray 2 (0, 0)) ∧ Below w.heap.size w w' := by
 obtain ⟨ad, rfl, hcell⟩ := hr0
 have HCell := Aside0.mk hcell
 clear hcell
 have HM := Aside0.mk (mul_one n h2)
 have HS1 : Aside0 ([Value.int .i64 v].length = Nat.min 1 n) := ⟨(Nat.min_eq_left h1).symm⟩
 have HS2 : Aside0 (0 + [Value.int .i64 v].length ≤ (half 0 0 n).length) := ⟨by rw [half_length _ _ _ (by omega)]; simpa using h1⟩
 have HS3 : Aside0 (∀ u ∈ [Value.int .i64 v], u.oneCell' = true) := ⟨by intro u hu; rw [List.mem_singleton.1 hu]; rfl⟩
 have HS4 : Aside0 ((Tryd.prog.info? 2).map (·.size) = some 1) := ⟨by kernel_rfl⟩
 have HS5 : Aside0 (∀ W : World, Below w.heap.size w W → ∀ j u, [Value.int .i64 v][j]? = some u → W.cell? (ad.add j) = some u) := ⟨by
  intro W hW j u hu
  cases j with
  | zero =>
   simp only [List.getElem?_cons_zero, Option.some.injEq] at hu
   subst hu
   rw [Addr.add_zero']
   exact pw_cell_below hW HCell.out
  | succ j => simp at hu⟩
 obtain ⟨i0, hi0, hi1⟩ := Option.map_eq_some_iff.1 info2
 simp only [Prod.mk.injEq] at hi1
 obtain ⟨hz0, hz1, hz2⟩ := hi1
 have HI := Aside0.mk (And.intro hi0 (And.intro hz0 (And.intro hz1 hz2)))
 clear hi0 hz0 hz1 hz2
 have d0 : decide ((n : Int) < 0) = false := decide_eq_false (by omega)
 have d1 : decide ((9223372036854775807 : Int) < (n : Int)) = false := decide_eq_false (by omega)
 go_enter Tryd.func42, Tryd.ntmps42
 go_wp2_with (first | (go_at_call 54; refine (bits_Mul.calls 1 (n : Int) 0 (n : Int) _ HM.out).mono ?_; rintro e w' ⟨rfl, ⟨nd, rfl⟩⟩) | ((with_reducible refine gate_dst (N := 30) rfl ?_); refine wpList_make_full _ rfl (.tmp 29) (.tmp 29) 28 rfl w.heap.size 2 i0 (.int .i64 0) 1 Tryd.underlying28 HI.out.1 HI.out.2.1 HI.out.2.2.1 _ _ _ _ n rfl rfl rfl rfl (by rw [HI.out.2.2.2]; omega) (by unfold maxLen; omega) (by simp) ?_; intro w5 hown5 hgr5; rw [made_zeros] at hown5; have HF5 := Aside0.mk (full_block hown5); have HB5 := Aside0.mk (below_of_grown_none (nd := nd) hgr5); clear hown5 hgr5; generalize (w.drewN nd).heap.size = g at HF5 ⊢) | (refine wpList_copy_splice rfl (.tmp 31) (.tmp 32) 28 28 rfl 2 Tryd.underlying28 HS4.out (some ⟨g, 0, none⟩) (some ad) n n 1 c0 rfl rfl g 0 (half 0 0 n) 2 HF5.out.1 [.int .i64 v] HS1.out (fun _ => ⟨rfl, ad, rfl, HS5.out _ HB5.out⟩) HS2.out HS3.out w.heap.size w HB5.out HF5.out.2 ?_; intro w6 hg6 hb6; have HG6 : Aside0 (w6.heap[g]? = some (.cells (half v 1 n).toArray 2 (0, 0))) := ⟨by rw [← splice_first v n h1]; exact hg6⟩; have HB6 := Aside0.mk hb6; have HGE := Aside0.mk HF5.out.2; clear hg6 hb6 HF5 HB5))
 go_loopg [8] n (fun gg s8 wr => ∃ m : Nat, s8 = .int .i64 (m : Int) ∧ Aside0 (1 ≤ m ∧ m ≤ n ∧ n - m ≤ gg) ∧ Aside0 (wr.heap[g]? = some (.cells (half v m n).toArray 2 (0, 0))) ∧ Aside0 (Below w.heap.size w wr))
 case atStart => exact ⟨1, rfl, ⟨by omega⟩, HG6, HB6⟩
 case round =>
  obtain ⟨m, rfl, HX, HG, HB⟩ := hrel
  by_cases hlt : m < n
  ·have t1 : decide ((m : Int) < (n : Int)) = true := decide_eq_true (by omega)
   have t2 : decide (m < n) = true := decide_eq_true hlt
   have hx := HX.out
   obtain ⟨q, hq⟩ : ∃ q, q = Nat.min m (n - m) := ⟨_, rfl⟩
   have hq1 : q ≤ m := by rw [hq]; exact Nat.min_le_left _ _
   have hq2 : q ≤ n - m := by rw [hq]; exact Nat.min_le_right _ _
   have hq3 : 1 ≤ q := by rw [hq]; exact (Nat.le_min.2 ⟨hx.1, by omega⟩)
   have HQ1 : Aside0 ((List.replicate q (Value.int .i64 v)).length = Nat.min m (n - m)) := ⟨by rw [List.length_replicate, hq]⟩
   have HQ2 : Aside0 (m + (List.replicate q (Value.int .i64 v)).length ≤ (half v m n).length) := ⟨by rw [List.length_replicate, half_length _ _ _ (by omega)]; omega⟩
   have HQ3 : Aside0 (∀ u ∈ List.replicate q (Value.int .i64 v), u.oneCell' = true) := ⟨by intro u hu; rw [(List.mem_replicate.1 hu).2]; rfl⟩
   have HQ4 : Aside0 (∀ j u, (List.replicate q (Value.int .i64 v))[j]? = some u → wr.drew.cell? ((⟨g, 0, none⟩ : Addr).add j) = some u) := ⟨by
    intro j u hu
    have hj : j < q := by simpa using (List.getElem?_eq_some_iff.1 hu).1
    have hu2 : u = .int .i64 v := by
     have := (List.getElem?_eq_some_iff.1 hu).2
     simpa using this.symm
    subst hu2
    have hc := (blk_cell HG.out j).trans (by simpa using half_get v m n j (by omega))
    rw [Addr.add_lit, Nat.zero_add]
    exact hc⟩
   have HQ5 : Aside0 (1 ≤ q ∧ q ≤ n - m) := ⟨⟨hq3, hq2⟩⟩
   have hwr : IntKind.i64.wrap ((m : Int) + (q : Int)) = (m : Int) + (q : Int) := IntWalk.i64_in _ ⟨by omega, by omega⟩
   have p0 : (0 : Int) ≤ (m : Int) := by omega
   have p1 : (m : Int) ≤ (n : Int) := by omega
   clear hx hq hq1 hq2 hq3
   go_wp2
   go_region_law (refine step_copy_splice rfl (.tmp 41) (.tmp 44) 28 28 rfl 2 Tryd.underlying28 HS4.out (some ⟨g, m, none⟩) (some ⟨g, 0, none⟩) (n - m) (n - m) m n (by simp [Act.eval, Act.put]; omega) (by simp [Act.eval, Act.put]) g m (half v m n) 2 HG.out (List.replicate q (.int .i64 v)) HQ1.out (fun _ => ⟨rfl, ⟨g, 0, none⟩, rfl, HQ4.out⟩) HQ2.out HQ3.out w.heap.size w (below_drew HB.out) HGE.out ?_; intro w6 hg6 hb6)
   have HG6 : Aside0 (w6.heap[g]? = some (.cells (half v (m + q) n).toArray 2 (0, 0))) := ⟨by have hh := HQ5.out; rw [← half_splice v m n q (by omega)]; exact hg6⟩
   have HB6 := Aside0.mk hb6
   clear hg6 hb6
   go_wp2
   have hh := HQ5.out
   have hx := HX.out
   go_roundg (n - (m + q))
   case measure => omega
   case rel => exact ⟨m + q, by go_num, ⟨by omega⟩, HG6, HB6⟩
  ·have t1 : decide ((m : Int) < (n : Int)) = false := decide_eq_false (by omega)
   have t2 : decide (m < n) = false := decide_eq_false hlt
   go_wp2
   go_ret
   have hx := HX.out
   obtain rfl : m = n := by omega
   exact ⟨g, rfl, HGE.out, HG.out, HB.out⟩
theorem slices_Repeat_int64_int64.calls (A0 : Option Addr) (c0 : Nat) (l0 : List Int) (a1 : Int) (r : List Int) (w : World) (hr0 : Kd.C (Kd.int .i64) w A0 l0.length l0) (hc0 : l0.length ≤ c0) (h : slices_Repeat_int64_int64.f l0 a1 = some r) :
  Calls Tryd.prog 42 #[.slice A0 l0.length c0, .int .i64 a1] w fun e w' => ∃ v0_ : Value, e = .returned v0_ ∧ Kd.R (Kd.int .i64) 2 w' w.heap.size (fun _ => True) v0_ r ∧ Below w.heap.size w w' := by
 unfold slices_Repeat_int64_int64.f at h
 by_cases hc : l0.length = 1 ∧ 1 ≤ a1 ∧ a1 ≤ 64
 ·rw [if_pos hc] at h
  obtain rfl := Option.some.inj h
  obtain ⟨hl, ha, hb⟩ := hc
  obtain ⟨ad, e, e0⟩ := Kd.at_int hr0 0 (by omega) (by omega)
  obtain ⟨n, rfl⟩ := Int.eq_ofNat_of_zero_le (show 0 ≤ a1 by omega)
  obtain ⟨_, c, he, _⟩ : ∃ (_ : Nat) (c : Nat), c = c0 ∧ c ≤ c0 := ⟨0, c0, rfl, Nat.le_refl _⟩
  rw [hl]
  refine (Repeat_walk A0 c0 (rd l0 0) n w ⟨ad, e, by simpa [Addr.add_zero'] using e0⟩ (by omega) (by omega)).mono fun e w' ⟨g, he, hg, hh, hb'⟩ => ?_
  refine ⟨_, he, ?_, hb'⟩
  have hown : w'.ownsRow w.heap.size 2 1 (.slice (some ⟨g, 0, none⟩) n n) (List.replicate (n : Int).toNat (rd l0 0)).length (encs (Value.int .i64) (List.replicate (n : Int).toNat (rd l0 0))) :=
   ⟨by simp [encs], .inr ⟨g, n, _, by simp, hg, hh, by simp, by unfold maxLen; omega, by simp [half], by simp [encs, half]⟩⟩
  exact Kd.R_of_own (enc := Value.int .i64) (h1 := fun _ => rfl) hown (fun _ _ => trivial)
 ·rw [if_neg hc] at h
  cases h

end Go.Proofs.YtbgokpobaemibaaDoor.Pa

namespace Go.Proofs.YtbgokpobaemibaaDoor.Pa
open Go.RowKit Go.Proofs.YtbgokpobaemibaaDoorW.PrintWords Go.Proofs.YtbgokpobaemibaaDoorW.PrintLast Go.Proofs.YtbgokpobaemibaaDoorW.PrintMore
attribute [local go_sem] max2_int min2_int max_two min_two max_three min_three max_four min_four   -- for this text's walks alone
set_option linter.unusedVariables false
set_option linter.unusedSimpArgs false

/-! ### impl_tightest: function 23 -/
mutual
def impl_tightest.l0 : Nat → Int → List (S39) → List (List Int) → Int → Int → Option ((List (List Int)) × Bool)
 | 0, _, _, _, _, _ => none
 | k + 1, x0, x1, x6, x16, x17 => if x17 < x16 then ((slices_Repeat_int64_int64.f (([1000000] : List Int)) x0).bind fun t184 => (if 0 ≤ x17 then (if x17 < (t184.length : Int) then (if x6.length < 5864062014805 then (impl_tightest.l0 k x0 x1 (x6 ++ [(t184.set (x17 : Int).toNat 0)]) x16 (wrap64 (x17 + 1))) else (none)) else (none)) else (none))) else (impl_tightest.l1 k x6 x1 (x1.length : Int) 0)
def impl_tightest.l1 : Nat → List (List Int) → List (S39) → Int → Int → Option ((List (List Int)) × Bool)
 | 0, _, _, _, _ => none
 | k + 1, x6, x31, x32, x33 => if x33 < x32 then (if 0 ≤ x33 then (if x33 < (x31.length : Int) then (if 0 ≤ ((rd_T39 x31 x33).f0) then (if ((rd_T39 x31 x33).f0) < (x6.length : Int) then (if 0 ≤ ((rd_T39 x31 x33).f1) then (if ((rd_T39 x31 x33).f1) < ((rd_L6 x6 ((rd_T39 x31 x33).f0)).length : Int) then (impl_tightest.l1 k (x6.set (((rd_T39 x31 x33).f0) : Int).toNat ((rd_L6 x6 ((rd_T39 x31 x33).f0)).set (((rd_T39 x31 x33).f1) : Int).toNat (mn (rd (rd_L6 x6 ((rd_T39 x31 x33).f0)) ((rd_T39 x31 x33).f1)) ((rd_T39 x31 x33).f2)))) x31 x32 (wrap64 (x33 + 1))) else (none)) else (none)) else (none)) else (none)) else (none)) else (none)) else (impl_tightest.l2 k x6 (x6.length : Int) 0)
def impl_tightest.l2 : Nat → List (List Int) → Int → Int → Option ((List (List Int)) × Bool)
 | 0, _, _, _ => none
 | k + 1, x6, x59, x60 => if x60 < x59 then (impl_tightest.l3 k x6 x60 x59 x60 (x6.length : Int) 0) else (impl_tightest.l5 k x6 (x6.length : Int) 0)
def impl_tightest.l3 : Nat → List (List Int) → Int → Int → Int → Int → Int → Option ((List (List Int)) × Bool)
 | 0, _, _, _, _, _, _ => none
 | k + 1, x6, x11, x59, x60, x64, x65 => if x65 < x64 then (impl_tightest.l4 k x6 x11 x65 x59 x60 x64 x65 (x6.length : Int) 0) else (impl_tightest.l2 k x6 x59 (wrap64 (x60 + 1)))
def impl_tightest.l4 : Nat → List (List Int) → Int → Int → Int → Int → Int → Int → Int → Int → Option ((List (List Int)) × Bool)
 | 0, _, _, _, _, _, _, _, _, _ => none
 | k + 1, x6, x11, x12, x59, x60, x64, x65, x69, x70 => if x70 < x69 then (if 0 ≤ x12 then (if x12 < (x6.length : Int) then (if 0 ≤ x11 then (if x11 < ((rd_L6 x6 x12).length : Int) then (if (rd (rd_L6 x6 x12) x11) < 1000000 then (if x11 < (x6.length : Int) then (if 0 ≤ x70 then (if x70 < ((rd_L6 x6 x11).length : Int) then (if (rd (rd_L6 x6 x11) x70) < 1000000 then (if x70 < ((rd_L6 x6 x12).length : Int) then (impl_tightest.l4 k (x6.set (x12 : Int).toNat ((rd_L6 x6 x12).set (x70 : Int).toNat (mn (rd (rd_L6 x6 x12) x70) (wrap64 ((rd (rd_L6 x6 x12) x11) + (rd (rd_L6 x6 x11) x70)))))) x11 x12 x59 x60 x64 x65 x69 (wrap64 (x70 + 1))) else (none)) else (impl_tightest.l4 k x6 x11 x12 x59 x60 x64 x65 x69 (wrap64 (x70 + 1)))) else (none)) else (none)) else (none)) else (impl_tightest.l4 k x6 x11 x12 x59 x60 x64 x65 x69 (wrap64 (x70 + 1)))) else (none)) else (none)) else (none)) else (none)) else (impl_tightest.l3 k x6 x11 x59 x60 x64 (wrap64 (x65 + 1)))
def impl_tightest.l5 : Nat → List (List Int) → Int → Int → Option ((List (List Int)) × Bool)
 | 0, _, _, _ => none
 | k + 1, x6, x124, x125 => if x125 < x124 then (if 0 ≤ x125 then (if x125 < (x6.length : Int) then (if x125 < ((rd_L6 x6 x125).length : Int) then (if (rd (rd_L6 x6 x125) x125) < 0 then (some (([] : List (List Int)), false)) else (impl_tightest.l5 k x6 x124 (wrap64 (x125 + 1)))) else (none)) else (none)) else (none)) else (some (x6, true))
end
def impl_tightest.f (k : Nat) (a0 : Int) (l1 : List (S39)) : Option ((List (List Int)) × Bool) := impl_tightest.l0 k a0 l1 (([] : List (List Int))) a0 0
def impl_tightest.T12 : Bool × List (List Nat × List Nat) := (true, [([], []), ([], []), ([1], [1]), ([0, 2], [0, 2]), ([3], [3]), ([], []), ([5], [5]), ([], []), ([], []), ([8], [8]), ([7, 9], [7, 9]), ([10], [10]), ([], []), ([12], [12]), ([11, 13], [11, 13]), ([14], [14]), ([], []), ([16], [16]), ([15, 17], [15, 17]), ([4, 6, 0, 1, 2, 3, 4, 5, 6, 7, 8, 9, 10, 11, 12, 13, 14, 15, 16, 17, 18], [4, 6]), ([19, 18, 0, 1, 2, 3, 4, 5, 6, 7, 8, 9, 10, 11, 12, 13, 14, 15, 16, 17, 18], [18, 19])])
def impl_tightest.B12 : List Nat := [0, 0, 2, 7, 15, 0, 32, 0, 0, 256, 896, 1920, 0, 4096, 16256, 32640, 0, 65536, 262016, 524287, 1048575]
theorem impl_tightest.tab12 : rtab .any (opsOf Tryd.f23 12) = impl_tightest.T12 := by kernel_rfl
theorem impl_tightest.bits12 : waitsOk impl_tightest.T12.2 impl_tightest.B12 = true := by kernel_rfl
def impl_tightest.T24 : Bool × List (List Nat × List Nat) := (true, [([], []), ([], []), ([0, 1], [0, 1]), ([2], [2]), ([], []), ([], []), ([], []), ([5, 6], [5, 6]), ([7], [7]), ([], []), ([8, 9], [8, 9]), ([10], [10]), ([], []), ([], []), ([12, 13], [12, 13]), ([14], [14]), ([], []), ([15, 16], [15, 16]), ([17], [17]), ([], []), ([], []), ([19, 20], [19, 20]), ([21], [21]), ([], []), ([22, 23], [22, 23]), ([24], [24]), ([18, 25], [18, 25]), ([11, 26], [11, 26]), ([3, 4, 0, 1, 2, 3, 4, 5, 6, 7, 8, 9, 10, 11, 12, 13, 14, 15, 16, 17, 18, 19, 20, 21, 22, 23, 24, 25, 26, 27], [3, 4]), ([28, 27, 0, 1, 2, 3, 4, 5, 6, 7, 8, 9, 10, 11, 12, 13, 14, 15, 16, 17, 18, 19, 20, 21, 22, 23, 24, 25, 26, 27], [27, 28])])
def impl_tightest.B24 : List Nat := [0, 0, 3, 7, 0, 0, 0, 96, 224, 0, 992, 2016, 0, 0, 12288, 28672, 0, 126976, 258048, 0, 0, 1572864, 3670016, 0, 16252928, 33030144, 67104768, 134217696, 268435455, 536870911]
theorem impl_tightest.tab24 : rtab .any (opsOf Tryd.f23 24) = impl_tightest.T24 := by kernel_rfl
theorem impl_tightest.bits24 : waitsOk impl_tightest.T24.2 impl_tightest.B24 = true := by kernel_rfl
set_option maxHeartbeats 8000000 in
set_option maxRecDepth 100000 in
theorem impl_tightest.calls (k : Nat) (a0 : Int) (A1 : Option Addr) (c1 : Nat) (l1 : List (S39)) (r1 : List (List Int)) (r2 : Bool) (w : World) (hr1 : Kd.C k39 w A1 l1.length l1) (hc1 : l1.length ≤ c1) (h : impl_tightest.f k a0 l1 = some (r1, r2)) :
  Calls Tryd.prog 23 #[.int .i64 a0, .slice A1 l1.length c1] w fun e w' => ∃ v0_ : Value, e = .returned (.tuple #[v0_, .bool r2]) ∧ Kd.S (Kd.slice 2 (Kd.int .i64)) 28 w' w.heap.size (fun _ => True) v0_ r1 ∧ Below w.heap.size w w' := by
 have hu39 := Tryd.underlying39
 have HR1 := Aside0.mk hr1
 have HC1 := Aside0.mk hc1
 clear hr1 hc1
 have HB := Aside0.mk (Below.refl w.heap.size w)
 have H : (impl_tightest.l0 k a0 l1 (([] : List (List Int))) a0 0) = some (r1, r2) := h
 clear h
 obtain ⟨y178, hy178⟩ : ∃ y_ : List (List Int), y_ = (([] : List (List Int))) := ⟨_, rfl⟩
 replace H : (impl_tightest.l0 k a0 l1 y178 a0 0) = some (r1, r2) := by first | (rw [hy178]; with_reducible exact H) | (have H2_ := (Option.bind_some _ _).symm.trans H; rw [hy178]; with_reducible exact H2_) | (have H2_ := (Option.bind_some _ _).symm.trans H; with_reducible exact H2_) | with_reducible exact H | (rw [hy178]; exact H) | exact H
 have Ny178 := Aside0.mk hy178
 clear hy178
 have H' := Aside0.mk H
 clear H
 go_enter Tryd.func23, Tryd.ntmps23
 go_wp2_with (first | ((with_reducible refine gate_dst (N := 15) rfl ?_); refine Kd.S_lit (Kd.slice 2 (Kd.int .i64)) _ 28 ?hg (N := 15) ?hd (xs := ([] : List (List Int))) (inner := []) (ok := fun _ => True) (okp := fun _ => True) ?hr ?hp (fun _ hk => hk) trivial (Below.refl _ _) (Nat.le_refl _) (by simp) ?_; (case hd => rfl); (case hg => rfl); (case hr => first | (go_simp; done) | (go_simp; rfl)); (case hp => exact (Reps.none _ _)); intro v179 w3 ho4 hb hg_ hnew_; clear hg_ hnew_; (first | rw [← Ny178.out] at ho4 | (simp only [Int.reduceToNat] at ho4; rw [← Ny178.out] at ho4)); have n0_ := Aside0.mk (Kd.S_lower ho4 (below_size (by repeat (first | (with_reducible first | exact HB.out | apply below_alloc | apply pw_below_drewN | apply below_drew1) | exact HB.out)))); have n1_ := Aside0.mk (below_step (by repeat (first | (with_reducible first | exact HB.out | apply below_alloc | apply pw_below_drewN | apply below_drew1) | exact HB.out)) hb); clear HB; have HO180 := n0_; have HB := n1_; clear n0_ n1_; clear hb ho4))
 go_loopg [6, 17] k (fun kq v6 v17 w' => ∃ (x6_1 : List (List Int)) (x17_1 : Int), v17 = .int .i64 x17_1 ∧ Aside0 (impl_tightest.l0 kq a0 l1 x6_1 a0 x17_1 = some (r1, r2)) ∧ Aside0 (kq ≤ k) ∧ Aside0 (Kd.S (Kd.slice 2 (Kd.int .i64)) 28 w' w.heap.size (fun _ => True) v6 x6_1) ∧ Aside0 (Below w.heap.size w w'))
 case atStart => exact ⟨(y178), (0), (by first | rfl | (simp; done) | (simp [*]; done)), H', ⟨Nat.le_refl _⟩, ⟨by (with_reducible repeat (first | apply Kd.S_alloc | apply Kd.S_drewN | apply Kd.S_drew)); exact HO180.out⟩, ⟨by repeat (first | (with_reducible first | exact HB.out | apply below_alloc | apply pw_below_drewN | apply below_drew1) | exact HB.out)⟩⟩
 case round =>
  clear H'
  try clear c1
  try clear c2
  try clear p2
  obtain ⟨x6_1, x17_1, rfl, HA, HK1, HO_6, HB⟩ := hrel
  cases gk with
  | zero => exact absurd HA.out (by simp [impl_tightest.l0])
  | succ k1 =>
   have H := HA.out
   clear HA
   simp only [impl_tightest.l0] at H
   by_cases c5 : x17_1 < a0
   ·rw [if_pos c5] at H
    have c5b0 : decide (x17_1 < a0) = true := decide_eq_true c5
    clear c5
    obtain ⟨y181, hy181⟩ : ∃ y_ : List Int, y_ = (([1000000] : List Int)) := ⟨_, rfl⟩
    replace H : ((slices_Repeat_int64_int64.f y181 a0).bind fun t184 => (if 0 ≤ x17_1 then (if x17_1 < (t184.length : Int) then (if x6_1.length < 5864062014805 then (impl_tightest.l0 k1 a0 l1 (x6_1 ++ [(t184.set (x17_1 : Int).toNat 0)]) a0 (wrap64 (x17_1 + 1))) else (none)) else (none)) else (none))) = some (r1, r2) := by first | (rw [hy181]; with_reducible exact H) | (have H2_ := (Option.bind_some _ _).symm.trans H; rw [hy181]; with_reducible exact H2_) | (have H2_ := (Option.bind_some _ _).symm.trans H; with_reducible exact H2_) | with_reducible exact H | (rw [hy181]; exact H) | exact H
    have Ny181 := Aside0.mk hy181
    clear hy181
    replace H := Option.bind_eq_some_iff.mp H
    obtain ⟨t184, A60, H⟩ := H
    replace H : (if 0 ≤ x17_1 then (if x17_1 < (t184.length : Int) then (if x6_1.length < 5864062014805 then (impl_tightest.l0 k1 a0 l1 (x6_1 ++ [(t184.set (x17_1 : Int).toNat 0)]) a0 (wrap64 (x17_1 + 1))) else (none)) else (none)) else (none)) = some (r1, r2) := H
    have A6 := Aside0.mk A60
    clear A60
    by_cases c7 : 0 ≤ x17_1
    ·rw [if_pos c7] at H
     have c7b0 : decide (0 ≤ x17_1) = true := decide_eq_true c7
     clear c7
     by_cases c8 : x17_1 < (t184.length : Int)
     ·rw [if_pos c8] at H
      have c8b0 : decide (x17_1 < (t184.length : Int)) = true := decide_eq_true c8
      clear c8
      obtain ⟨y187, hy187⟩ : ∃ y_ : List Int, y_ = (t184.set (x17_1 : Int).toNat 0) := ⟨_, rfl⟩
      replace H : (if x6_1.length < 5864062014805 then (impl_tightest.l0 k1 a0 l1 (x6_1 ++ [y187]) a0 (wrap64 (x17_1 + 1))) else (none)) = some (r1, r2) := by first | (rw [hy187]; with_reducible exact H) | (have H2_ := (Option.bind_some _ _).symm.trans H; rw [hy187]; with_reducible exact H2_) | (have H2_ := (Option.bind_some _ _).symm.trans H; with_reducible exact H2_) | with_reducible exact H | (rw [hy187]; exact H) | exact H
      have Ny187 := Aside0.mk hy187
      clear hy187
      by_cases c10 : x6_1.length < 5864062014805
      ·rw [if_pos c10] at H
       have LMc10 := Aside0.mk c10
       clear c10
       obtain ⟨y188, hy188⟩ : ∃ y_ : List (List Int), y_ = (x6_1 ++ [y187]) := ⟨_, rfl⟩
       replace H : (impl_tightest.l0 k1 a0 l1 y188 a0 (wrap64 (x17_1 + 1))) = some (r1, r2) := by first | (rw [hy188]; with_reducible exact H) | (have H2_ := (Option.bind_some _ _).symm.trans H; rw [hy188]; with_reducible exact H2_) | (have H2_ := (Option.bind_some _ _).symm.trans H; with_reducible exact H2_) | with_reducible exact H | (rw [hy188]; exact H) | exact H
       have Ny188 := Aside0.mk hy188
       clear hy188
       have H' := Aside0.mk H
       clear H
       go_wp2_with (first | ((with_reducible refine gate_dst (N := 20) rfl ?_); refine Kd.R_lit (Kd.int .i64) _ 2 ?hg (N := 20) ?hd (xs := ([1000000] : List Int)) (inner := [.int .i64 1000000]) (ok := fun _ => True) (okp := fun _ => True) ?hr ?hp (fun _ hk => hk) trivial (Below.refl _ _) (Nat.le_refl _) (by simp) ?_; (case hd => rfl); (case hg => rfl); (case hr => first | (go_simp; done) | (go_simp; rfl)); (case hp => exact (Reps.one (show Kd.M (Kd.int .i64) _ _ _ 1000000 [.int .i64 1000000] from rfl) (Reps.none _ _))); intro v182 w11 ho12 hb hg_ hnew_; clear hg_ hnew_; (first | rw [← Ny181.out] at ho12 | (simp only [Int.reduceToNat] at ho12; rw [← Ny181.out] at ho12)); have n0_ := Aside0.mk (Kd.S_elder' (by (with_reducible repeat (first | apply Kd.S_alloc | apply Kd.S_drewN | apply Kd.S_drew)); exact HO_6.out) (Kd.R_base ho12) hb); have n1_ := Aside0.mk (Kd.R_lower ho12 (below_size (by repeat (first | (with_reducible first | exact HB.out | apply below_alloc | apply pw_below_drewN | apply below_drew1) | exact HB.out)))); have n2_ := Aside0.mk (below_step (by repeat (first | (with_reducible first | exact HB.out | apply below_alloc | apply pw_below_drewN | apply below_drew1) | exact HB.out)) hb); clear HO_6; clear HB; have HO_6 := n0_; have HO183 := n1_; have HB := n2_; clear n0_ n1_ n2_; clear hb ho12; obtain ⟨Ao13, co13, eo13⟩ := Kd.R_slice HO183.out; subst eo13) | ((with_reducible refine gate_callee (f := 42) rfl ?_); refine goesL_ (some 22) rfl rfl Tryd.func42 (by kernel_rfl) rfl #[.slice Ao13 y181.length co13, .int .i64 a0] rfl (by (try simp only [List.map_toArray, List.map_cons, List.map_nil]); first | done | rfl | (simp only [List.length_drop, List.length_take]; rfl)) ?_; (with_reducible refine (slices_Repeat_int64_int64.calls _ _ y181 a0 t184 _ ?side1 ?side2 A6.out).mono ?_); (case side1 => repeat (first | exact (Kd.R_reads' HO183.out).2.2 | (with_reducible refine Kd.C_alloc ?_ _) | (with_reducible refine Kd.C_drewN ?_ _) | (with_reducible refine Kd.C_drew ?_))); (case side2 => exact (Kd.R_reads' HO183.out).2.1); rintro e w14 ⟨v185, rfl, ho0, hb⟩; refine ⟨_, rfl, ?_⟩; have n0_ := Aside0.mk (Kd.S_elder' (by (with_reducible repeat (first | apply Kd.S_alloc | apply Kd.S_drewN | apply Kd.S_drew)); exact HO_6.out) (Kd.R_base ho0) hb); have n1_ := Aside0.mk (Kd.R_elder' (by (with_reducible repeat (first | apply Kd.R_alloc | apply Kd.R_drewN | apply Kd.R_drew)); exact HO183.out) (Kd.R_base ho0) hb); have n2_ := Aside0.mk (Kd.R_lower (Kd.R_new' ho0 (Kd.R_lt (by (with_reducible repeat (first | apply Kd.R_alloc | apply Kd.R_drewN | apply Kd.R_drew)); exact HO183.out))) (below_size (by repeat (first | (with_reducible first | exact HB.out | apply below_alloc | apply pw_below_drewN | apply below_drew1) | exact HB.out)))); have n3_ := Aside0.mk (below_step (by repeat (first | (with_reducible first | exact HB.out | apply below_alloc | apply pw_below_drewN | apply below_drew1) | exact HB.out)) hb); clear HO_6; clear HO183; clear HB; have HO_6 := n0_; have HO183 := n1_; have HO186 := n2_; have HB := n3_; clear n0_ n1_ n2_ n3_; (try clear hb); (try clear hb2); (try clear hk); (try clear hi); (try clear ho0); have p9 : 0 ≤ (x17_1 : Int) := of_decide_eq_true (by with_reducible assumption); have q9 : (x17_1 : Int) < ((t184.length : Int) : Int) := of_decide_eq_true (by with_reducible assumption); obtain ⟨go9, co9, eo9, gb9, gl9, cl9, HG9⟩ := Kd.R_form HO186.out (by omega); (first | cases eo9 | (injection eo9 with ea_ en_ ec_; (first | subst ea_ | (injection ea_ with ea_; subst ea_)); subst ec_; clear en_)); have GB9 := Aside0.mk gb9; have GG9 := Aside0.mk HG9; clear gb9 gl9 HG9; obtain ⟨hx9_0, hf9_0⟩ := Kd.R_celln 0 HO186.out (x17_1 : Int) p9 q9; replace p9 := eq_true p9; replace q9 := eq_true q9; have n_ := Aside0.mk (Kd.R_mono (ok' := (fun k_ => some k_ ≠ (.slice Ao13 y181.length co13 : Value).ownBlock)) HO186.out (fun k_ hk => hk.2)); clear HO186; have HO186 := n_; clear n_; obtain ⟨hy15_, hz15_⟩ := Kd.R_celln 0 HO186.out (x17_1 : Int) (of_decide_eq_true (by with_reducible assumption)) (of_decide_eq_true (by with_reducible assumption)); have HP15 := Kd.R_putg HO186.out (x17_1 : Int) 0) | ((with_reducible refine gate_store (t := 2) (p := 25) rfl ?_); refine store_event (t := 2) (p := 25) (v := ?vo_w16) (w1 := (w14.setCell ⟨go9, (x17_1 : Int).toNat, none⟩ (.int .i64 0))) ?hg ?ho ?hn ?hr ?_; (case ho => rfl); (case hg => rfl); (case hn => rfl); (case hr => first | (go_simp; done) | (go_simp; rfl)); intro w16 hw; have hg : w14.grownBy w16 (some go9) := (by rw [hw]; exact HP15.2); have hp_ : Kd.R (Kd.int .i64) 2 w16 w.heap.size (fun k_ => some k_ ≠ (.slice Ao13 y181.length co13 : Value).ownBlock) (.slice (some ⟨go9, 0, none⟩) t184.length co9) y187 := (by rw [hw, Ny187.out]; exact HP15.1); clear HP15; have n0_ := Aside0.mk (Kd.S_after (v := (.slice (some ⟨go9, 0, none⟩) t184.length co9)) (v1 := (.slice (some ⟨go9, 0, none⟩) t184.length co9)) (ok := (fun k_ => some k_ ≠ (.slice Ao13 y181.length co13 : Value).ownBlock)) (by (with_reducible repeat (first | apply Kd.S_alloc | apply Kd.S_drewN | apply Kd.S_drew)); exact Kd.S_mono HO_6.out (fun _ hk => ⟨hk.1.2, hk.2⟩)) hg (.inl rfl)); have n1_ := Aside0.mk (Kd.R_after (v := (.slice (some ⟨go9, 0, none⟩) t184.length co9)) (v1 := (.slice (some ⟨go9, 0, none⟩) t184.length co9)) (ok := (fun _ => True)) (by (with_reducible repeat (first | apply Kd.R_alloc | apply Kd.R_drewN | apply Kd.R_drew)); exact HO183.out) hg (.inl rfl)); have n2_ := Aside0.mk (hp_); have n3_ := Aside0.mk ((by rw [hw]; exact below_set (HB.out) GB9.out : Below w.heap.size w w16)); clear HO_6; clear HO183; clear HO186; clear HB; have HO_6 := n0_; have HO183 := n1_; have HO186 := n2_; have HB := n3_; clear n0_ n1_ n2_ n3_; clear hg hw hp_) | ((with_reducible refine gate_builtin (b := .append) (xs := #[.tmp 26, .tmp 28]) rfl ?_); at_builtin; refine Kd.S_append (Kd.slice 2 (Kd.int .i64)) (w0 := w) w.heap.size rfl (.tmp 26) (.tmp 28) 31 28 (.slice none 0 0) 24 rfl Tryd.underlying31 info28 rfl (by decide) (by omega) u6 x6_1 y187 [.slice (some ⟨go9, 0, none⟩) t184.length co9] (fun k_ => some k_ ≠ (.slice Ao13 y181.length co13 : Value).ownBlock) (fun k_ => some k_ = (.slice (some ⟨go9, 0, none⟩) t184.length co9 : Value).ownBlock) rfl rfl ?aP (fun k_ hk_ => ((Kd.R_mono (ok' := fun k_ => ((fun k_ => some k_ ≠ (.slice Ao13 y181.length co13 : Value).ownBlock)) k_ ∧ some k_ ≠ (u6 : Value).ownBlock) (Kd.R_apart' (HO186.out) (Kd.S_typed HO_6.out) (by decide)) (fun k_ hk => ⟨hk.1, hk.2⟩))).1 k_ hk_.symm) ?aF ?aO ?aB ?aS ?aL ?_; (case aP => exact Kd.M_row (Kd.R_mono (Kd.R_tight rfl (Kd.R_mono (ok' := fun k_ => ((fun k_ => some k_ ≠ (.slice Ao13 y181.length co13 : Value).ownBlock)) k_ ∧ some k_ ≠ (u6 : Value).ownBlock) (Kd.R_apart' (HO186.out) (Kd.S_typed HO_6.out) (by decide)) (fun k_ hk => ⟨hk.1, hk.2⟩))) (fun _ h_ => h_))); (case aB => exact (by repeat (first | (with_reducible first | exact HB.out | apply below_alloc | apply pw_below_drewN | apply below_drew1) | exact HB.out))); (case aF => exact (fun k_ hk => Kd.fresh' (Kd.R_lt (by (with_reducible repeat (first | apply Kd.R_alloc | apply Kd.R_drewN | apply Kd.R_drew)); exact HO183.out)) k_ hk)); (case aO => exact (by (with_reducible repeat (first | apply Kd.S_alloc | apply Kd.S_drewN | apply Kd.S_drew)); exact Kd.S_mono HO_6.out (fun k_ hk => ⟨hk.1, fun e_ => hk.2 e_⟩))); (case aS => exact (below_size (by repeat (first | (with_reducible first | exact HB.out | apply below_alloc | apply pw_below_drewN | apply below_drew1) | exact HB.out)))); (case aL => have := LMc10.out; omega); intro v189 w17 ho hb hg hat; rw [← Ny188.out] at ho; have n0_ := Aside0.mk (Kd.R_over' (by (with_reducible repeat (first | apply Kd.R_alloc | apply Kd.R_drewN | apply Kd.R_drew)); exact HO183.out) (Kd.S_typed (by (with_reducible repeat (first | apply Kd.S_alloc | apply Kd.S_drewN | apply Kd.S_drew)); exact HO_6.out)) (by decide) hg); have n1_ := Aside0.mk (hb); have n2_ := Aside0.mk (ho); clear HO183; clear HB; clear HO_6; clear HO186; have HO183 := n0_; have HB := n1_; have HO190 := n2_; clear n0_ n1_ n2_; clear ho hb hg hat))
       go_roundg k1
       case measure => have := HK1.out; omega
       case rel => exact ⟨(y188), (wrap64 (x17_1 + 1)), (by first | rfl | (simp; done) | (simp [*]; done)), H', ⟨by have := HK1.out; omega⟩, ⟨by (with_reducible repeat (first | apply Kd.S_alloc | apply Kd.S_drewN | apply Kd.S_drew)); exact Kd.S_mono HO190.out (fun _ hk => trivial)⟩, ⟨by repeat (first | (with_reducible first | exact HB.out | apply below_alloc | apply pw_below_drewN | apply below_drew1) | exact HB.out)⟩⟩
      ·rw [if_neg c10] at H
       exact absurd H (by simp)
     ·rw [if_neg c8] at H
      exact absurd H (by simp)
    ·rw [if_neg c7] at H
     exact absurd H (by simp)
   ·rw [if_neg c5] at H
    have c5b0 : decide (x17_1 < a0) = false := decide_eq_false c5
    clear c5
    have H' := Aside0.mk H
    clear H
    go_wp2
    go_loopg [33] k1 (fun kq v33 w' => ∃ (x6_2 : List (List Int)) (x33_2 : Int), v33 = .int .i64 x33_2 ∧ Aside0 (impl_tightest.l1 kq x6_2 l1 (l1.length : Int) x33_2 = some (r1, r2)) ∧ Aside0 (kq ≤ k1) ∧ Aside0 (Kd.S (Kd.slice 2 (Kd.int .i64)) 28 w' w.heap.size (fun _ => True) u6 x6_2) ∧ Aside0 (Below w.heap.size w w'))
    case atStart => exact ⟨(x6_1), (0), (by first | rfl | (simp; done) | (simp [*]; done)), H', ⟨Nat.le_refl _⟩, ⟨by (with_reducible repeat (first | apply Kd.S_alloc | apply Kd.S_drewN | apply Kd.S_drew)); exact HO_6.out⟩, ⟨by repeat (first | (with_reducible first | exact HB.out | apply below_alloc | apply pw_below_drewN | apply below_drew1) | exact HB.out)⟩⟩
    case round =>
     clear H'
     try clear c1
     try clear c2
     try clear p2
     try clear c4
     try clear c5
     try clear c5b0
     try clear p6
     try clear c7
     try clear c7b0
     try clear c8
     try clear c8b0
     try clear p9
     try clear q9
     try clear hx9
     try clear hf9
     try clear c10
     try clear hx9_0
     try clear p2
     try clear p9
     try clear q9
     obtain ⟨x6_2, x33_2, rfl, HA, HK2, HO_6, HB⟩ := hrel
     cases gk with
     | zero => exact absurd HA.out (by simp [impl_tightest.l1])
     | succ k2 =>
      have H := HA.out
      clear HA
      simp only [impl_tightest.l1] at H
      by_cases c18 : x33_2 < (l1.length : Int)
      ·rw [if_pos c18] at H
       have c18b0 : decide (x33_2 < (l1.length : Int)) = true := decide_eq_true c18
       clear c18
       by_cases c19 : 0 ≤ x33_2
       ·rw [if_pos c19] at H
        have c19b0 : decide (0 ≤ x33_2) = true := decide_eq_true c19
        clear c19
        by_cases c20 : x33_2 < (l1.length : Int)
        ·rw [if_pos c20] at H
         have c20b0 : decide (x33_2 < (l1.length : Int)) = true := decide_eq_true c20
         clear c20
         by_cases c21 : 0 ≤ ((rd_T39 l1 x33_2).f0)
         ·rw [if_pos c21] at H
          have c21b0 : decide (0 ≤ ((rd_T39 l1 x33_2).f0)) = true := decide_eq_true c21
          clear c21
          by_cases c22 : ((rd_T39 l1 x33_2).f0) < (x6_2.length : Int)
          ·rw [if_pos c22] at H
           have c22b0 : decide (((rd_T39 l1 x33_2).f0) < (x6_2.length : Int)) = true := decide_eq_true c22
           clear c22
           by_cases c23 : 0 ≤ ((rd_T39 l1 x33_2).f1)
           ·rw [if_pos c23] at H
            have c23b0 : decide (0 ≤ ((rd_T39 l1 x33_2).f1)) = true := decide_eq_true c23
            clear c23
            by_cases c24 : ((rd_T39 l1 x33_2).f1) < ((rd_L6 x6_2 ((rd_T39 l1 x33_2).f0)).length : Int)
            ·rw [if_pos c24] at H
             have c24b0 : decide (((rd_T39 l1 x33_2).f1) < ((rd_L6 x6_2 ((rd_T39 l1 x33_2).f0)).length : Int)) = true := decide_eq_true c24
             clear c24
             obtain ⟨ji25, hji25⟩ : ∃ j_ : Int, (mn (rd (rd_L6 x6_2 ((rd_T39 l1 x33_2).f0)) ((rd_T39 l1 x33_2).f1)) ((rd_T39 l1 x33_2).f2)) = j_ := ⟨_, rfl⟩
             replace H : (impl_tightest.l1 k2 (x6_2.set (((rd_T39 l1 x33_2).f0) : Int).toNat ((rd_L6 x6_2 ((rd_T39 l1 x33_2).f0)).set (((rd_T39 l1 x33_2).f1) : Int).toNat (ji25))) l1 (l1.length : Int) (wrap64 (x33_2 + 1))) = some (r1, r2) := by first | (rw [hji25] at H; exact H) | (simp only [hji25] at H ⊢; exact H)
             have hji25_ : (if ((rd_T39 l1 x33_2).f2) < (rd (rd_L6 x6_2 ((rd_T39 l1 x33_2).f0)) ((rd_T39 l1 x33_2).f1)) then ((rd_T39 l1 x33_2).f2) else (rd (rd_L6 x6_2 ((rd_T39 l1 x33_2).f0)) ((rd_T39 l1 x33_2).f1))) = ji25 := hji25
             obtain ⟨y196, hy196⟩ : ∃ y_ : List Int, y_ = ((rd_L6 x6_2 ((rd_T39 l1 x33_2).f0)).set (((rd_T39 l1 x33_2).f1) : Int).toNat (ji25)) := ⟨_, rfl⟩
             replace H : (impl_tightest.l1 k2 (x6_2.set (((rd_T39 l1 x33_2).f0) : Int).toNat y196) l1 (l1.length : Int) (wrap64 (x33_2 + 1))) = some (r1, r2) := by first | (rw [hy196]; with_reducible exact H) | (have H2_ := (Option.bind_some _ _).symm.trans H; rw [hy196]; with_reducible exact H2_) | (have H2_ := (Option.bind_some _ _).symm.trans H; with_reducible exact H2_) | with_reducible exact H | (rw [hy196]; exact H) | exact H
             have Ny196 := Aside0.mk hy196
             clear hy196
             obtain ⟨y198, hy198⟩ : ∃ y_ : List (List Int), y_ = (x6_2.set (((rd_T39 l1 x33_2).f0) : Int).toNat y196) := ⟨_, rfl⟩
             replace H : (impl_tightest.l1 k2 y198 l1 (l1.length : Int) (wrap64 (x33_2 + 1))) = some (r1, r2) := by first | (rw [hy198]; with_reducible exact H) | (have H2_ := (Option.bind_some _ _).symm.trans H; rw [hy198]; with_reducible exact H2_) | (have H2_ := (Option.bind_some _ _).symm.trans H; with_reducible exact H2_) | with_reducible exact H | (rw [hy198]; exact H) | exact H
             have Ny198 := Aside0.mk hy198
             clear hy198
             have H' := Aside0.mk H
             clear H
             have p191 : 0 ≤ (x33_2 : Int) := of_decide_eq_true (by with_reducible assumption)
             have q191 : x33_2 < (l1.length : Int) := of_decide_eq_true (by with_reducible assumption)
             obtain ⟨ad191, e191, hx191_0, hx191_1, hx191_2⟩ := at_T39 HR1.out x33_2 p191 q191
             cases e191
             replace hx191_0 := (HB.out.cell (World.block_lt_of_cell? w _ hx191_0)).trans hx191_0
             replace hx191_1 := (HB.out.cell (World.block_lt_of_cell? w _ hx191_1)).trans hx191_1
             replace hx191_2 := (HB.out.cell (World.block_lt_of_cell? w _ hx191_2)).trans hx191_2
             replace p191 := eq_true p191
             replace q191 := eq_true q191
             try go_wp2_with (first | ((with_reducible refine gate_dst (N := 10) rfl ?_); refine box_event ?hg (N := 10) ?hd (cs := #[.int .i64 0, .int .i64 0, .int .i64 0]) (t := 39) ?hr ?_; (case hd => rfl); (case hg => rfl); (case hr => first | (go_simp; done) | (go_simp; rfl)); intro gb192 hg w27 hbox hb; have n0_ := Aside0.mk (Kd.S_below (by (with_reducible repeat (first | apply Kd.S_alloc | apply Kd.S_drewN | apply Kd.S_drew)); exact HO_6.out) hb); have n1_ := Aside0.mk (below_step (by repeat (first | (with_reducible first | exact HB.out | apply below_alloc | apply pw_below_drewN | apply below_drew1) | exact HB.out)) hb); have n2_ := Aside0.mk (hbox); have n3_ := Aside0.mk ((by rw [hg]; exact (below_size (by repeat (first | (with_reducible first | exact HB.out | apply below_alloc | apply pw_below_drewN | apply below_drew1) | exact HB.out))) : w.heap.size ≤ gb192)); have n4_ := Aside0.mk ((by rw [hg]; exact (below_size (by repeat (first | (with_reducible first | exact HB.out | apply below_alloc | apply pw_below_drewN | apply below_drew1) | exact HB.out))) : w.heap.size ≤ gb192)); clear HO_6; clear HB; have HO_6 := n0_; have HB := n1_; have BK192 := n2_; have GW192 := n3_; have GE192 := n4_; clear n0_ n1_ n2_ n3_ n4_; clear hb hbox hg; have hcz28_0 : w27.cell? ⟨gb192, 0, none⟩ = some (.int .i64 0) := (blk_cell BK192.out 0).trans rfl; have hcz28_1 : w27.cell? ⟨gb192, 1, none⟩ = some (.int .i64 0) := (blk_cell BK192.out 1).trans rfl; have hcz28_2 : w27.cell? ⟨gb192, 2, none⟩ = some (.int .i64 0) := (blk_cell BK192.out 2).trans rfl; have hfz28_0 := blk_frozen BK192.out 0; have hfz28_1 := blk_frozen BK192.out 1; have hfz28_2 := blk_frozen BK192.out 2))
             have n0_ : Aside0 (Kd.S (Kd.slice 2 (Kd.int .i64)) 28 (((w27.setCell ⟨gb192, 0, none⟩ (.int .i64 ((rd_T39 l1 x33_2).f0))).setCell ⟨gb192, 1, none⟩ (.int .i64 ((rd_T39 l1 x33_2).f1))).setCell ⟨gb192, 2, none⟩ (.int .i64 ((rd_T39 l1 x33_2).f2))) w.heap.size (fun _ => True) u6 x6_2) := ⟨by (with_reducible repeat (first | apply Kd.S_alloc | apply Kd.S_drewN | apply Kd.S_drew)); exact Kd.S_mono (Kd.S_far (p := ⟨gb192, 2, none⟩) (Kd.S_far (p := ⟨gb192, 1, none⟩) (Kd.S_far (p := ⟨gb192, 0, none⟩) (Kd.S_types HO_6.out BK192.out (by decide)) (fun _ hk => hk.2) (.int .i64 ((rd_T39 l1 x33_2).f0))) (fun _ hk => hk.2) (.int .i64 ((rd_T39 l1 x33_2).f1))) (fun _ hk => hk.2) (.int .i64 ((rd_T39 l1 x33_2).f2))) (fun _ hk => trivial)⟩
             have n1_ : Aside0 ((((w27.setCell ⟨gb192, 0, none⟩ (.int .i64 ((rd_T39 l1 x33_2).f0))).setCell ⟨gb192, 1, none⟩ (.int .i64 ((rd_T39 l1 x33_2).f1))).setCell ⟨gb192, 2, none⟩ (.int .i64 ((rd_T39 l1 x33_2).f2))).heap[gb192]? = some (.cells #[.int .i64 ((rd_T39 l1 x33_2).f0), .int .i64 ((rd_T39 l1 x33_2).f1), .int .i64 ((rd_T39 l1 x33_2).f2)] 39 (0, 0))) := ⟨by (with_reducible repeat (first | refine blk_drewN ?_ _ | refine blk_drew ?_ | refine blk_alloc ?_ _)); refine blk_put (cs := #[.int .i64 ((rd_T39 l1 x33_2).f0), .int .i64 ((rd_T39 l1 x33_2).f1), .int .i64 0]) ?_ 2 _ rfl; (with_reducible repeat (first | refine blk_drewN ?_ _ | refine blk_drew ?_ | refine blk_alloc ?_ _)); refine blk_put (cs := #[.int .i64 ((rd_T39 l1 x33_2).f0), .int .i64 0, .int .i64 0]) ?_ 1 _ rfl; (with_reducible repeat (first | refine blk_drewN ?_ _ | refine blk_drew ?_ | refine blk_alloc ?_ _)); refine blk_put (cs := #[.int .i64 0, .int .i64 0, .int .i64 0]) ?_ 0 _ rfl; (with_reducible repeat (first | refine blk_drewN ?_ _ | refine blk_drew ?_ | refine blk_alloc ?_ _)); exact BK192.out⟩
             have n2_ : Aside0 (Below w.heap.size w (((w27.setCell ⟨gb192, 0, none⟩ (.int .i64 ((rd_T39 l1 x33_2).f0))).setCell ⟨gb192, 1, none⟩ (.int .i64 ((rd_T39 l1 x33_2).f1))).setCell ⟨gb192, 2, none⟩ (.int .i64 ((rd_T39 l1 x33_2).f2)))) := ⟨by repeat (first | (with_reducible first | exact HB.out | apply below_alloc | apply pw_below_drewN | apply below_drew1 | refine below_set ?_ GE192.out) | exact HB.out)⟩
             (try clear HO_6)
             (try clear BK192)
             (try clear HB)
             generalize (((w27.setCell ⟨gb192, 0, none⟩ (.int .i64 ((rd_T39 l1 x33_2).f0))).setCell ⟨gb192, 1, none⟩ (.int .i64 ((rd_T39 l1 x33_2).f1))).setCell ⟨gb192, 2, none⟩ (.int .i64 ((rd_T39 l1 x33_2).f2))) = w29 at n0_ n1_ n2_ ⊢
             have HO_6 := n0_
             have BK192 := n1_
             have HB := n2_
             clear n0_ n1_ n2_
             have n0_ := Aside0.mk (Kd.S_drew HO_6.out)
             have n1_ := Aside0.mk (blk_drew BK192.out)
             have n2_ := Aside0.mk (below_drew1 HB.out)
             clear HO_6
             clear BK192
             clear HB
             have HO_6 := n0_
             have BK192 := n1_
             have HB := n2_
             clear n0_ n1_ n2_
             obtain ⟨Ao31, co31, eo31⟩ := Kd.S_slice HO_6.out
             (first | subst eo31 | (injection eo31 with f1_ f2_ f3_; have f4_ := f1_.symm; have f5_ := f3_.symm; clear f1_ f2_ f3_; subst f4_; subst f5_))
             have p193 : 0 ≤ (((rd_T39 l1 x33_2).f0) : Int) := of_decide_eq_true (by with_reducible assumption)
             have q193 : ((rd_T39 l1 x33_2).f0) < (x6_2.length : Int) := of_decide_eq_true (by with_reducible assumption)
             obtain ⟨ad193, A193_0, c193_0, e193, hx193_0, hl193_0, hi193_0⟩ := at_L6 (Kd.S_reads' HO_6.out).2.2 ((rd_T39 l1 x33_2).f0) p193 q193
             cases e193
             obtain ⟨ce193, hce193, hMe193, hcc193⟩ := Kd.S_get HO_6.out [] ((rd_T39 l1 x33_2).f0) p193 (by first | exact q193 | exact of_decide_eq_true (by with_reducible assumption) | (have e_ := (Kd.S_reads' HO_6.out).1; omega))
             obtain ⟨ve193_0, rfl, ge193_0⟩ := hMe193
             have hv193_0 := hcc193 0 _ rfl
             rw [Nat.add_zero, show ((Kd.slice 2 (Kd.int .i64))).sz = 1 from rfl, Nat.mul_one] at hv193_0
             replace hv193_0 := Option.some.inj (hv193_0.symm.trans hx193_0)
             rw [hv193_0] at ge193_0
             have HL193_0 := Aside0.mk (show Kd.R (Kd.int .i64) 2 _ _ _ _ (rd_L6 x6_2 ((rd_T39 l1 x33_2).f0)) from ge193_0)
             clear hv193_0 ge193_0
             have HX193_0 := Aside0.mk hx193_0
             clear hcc193 hce193
             have HR193_0 := Aside0.mk hi193_0
             have HC193_0 := Aside0.mk hl193_0
             clear hi193_0 hl193_0
             replace p193 := eq_true p193
             replace q193 := eq_true q193
             have p194 : 0 ≤ (((rd_T39 l1 x33_2).f0) : Int) := of_decide_eq_true (by with_reducible assumption)
             have q194 : ((rd_T39 l1 x33_2).f0) < (x6_2.length : Int) := of_decide_eq_true (by with_reducible assumption)
             obtain ⟨ad194, A194_0, c194_0, e194, hx194_0, hl194_0, hi194_0⟩ := at_L6 (Kd.S_reads' HO_6.out).2.2 ((rd_T39 l1 x33_2).f0) p194 q194
             obtain rfl : ad193 = ad194 := (by injection e194)
             obtain ⟨ce194, hce194, hMe194, hcc194⟩ := Kd.S_get HO_6.out [] ((rd_T39 l1 x33_2).f0) p194 (by first | exact q194 | exact of_decide_eq_true (by with_reducible assumption) | (have e_ := (Kd.S_reads' HO_6.out).1; omega))
             obtain ⟨ve194_0, rfl, ge194_0⟩ := hMe194
             have hv194_0 := hcc194 0 _ rfl
             rw [Nat.add_zero, show ((Kd.slice 2 (Kd.int .i64))).sz = 1 from rfl, Nat.mul_one] at hv194_0
             replace hv194_0 := Option.some.inj (hv194_0.symm.trans hx194_0)
             rw [hv194_0] at ge194_0
             have HL194_0 := Aside0.mk (show Kd.R (Kd.int .i64) 2 _ _ _ _ (rd_L6 x6_2 ((rd_T39 l1 x33_2).f0)) from ge194_0)
             clear hv194_0 ge194_0
             have HX194_0 := Aside0.mk hx194_0
             clear hcc194 hce194
             have HR194_0 := Aside0.mk hi194_0
             have HC194_0 := Aside0.mk hl194_0
             clear hi194_0 hl194_0
             replace p194 := eq_true p194
             replace q194 := eq_true q194
             have ea_ := Option.some.inj (hx193_0.symm.trans hx194_0)
             injection ea_ with ea_ en_ ec_
             subst ea_
             subst ec_
             clear en_
             have p195 : 0 ≤ (((rd_T39 l1 x33_2).f1) : Int) := of_decide_eq_true (by with_reducible assumption)
             have q195 : ((rd_T39 l1 x33_2).f1) < ((rd_L6 x6_2 ((rd_T39 l1 x33_2).f0)).length : Int) := of_decide_eq_true (by with_reducible assumption)
             obtain ⟨ad195, e195, hx195_0⟩ := Kd.at_int (by repeat (first | (with_reducible exact HR194_0.out) | (with_reducible refine Kd.C_alloc ?_ _) | (with_reducible refine Kd.C_drewN ?_ _) | (with_reducible refine Kd.C_drew ?_) | exact HR194_0.out)) ((rd_T39 l1 x33_2).f1) p195 q195
             cases e195
             replace p195 := eq_true p195
             replace q195 := eq_true q195
             have p26 : 0 ≤ (((rd_T39 l1 x33_2).f1) : Int) := of_decide_eq_true (by with_reducible assumption)
             have q26 : (((rd_T39 l1 x33_2).f1) : Int) < (((rd_L6 x6_2 ((rd_T39 l1 x33_2).f0)).length : Int) : Int) := of_decide_eq_true (by with_reducible assumption)
             obtain ⟨go26, co26, eo26, gb26, gl26, cl26, HG26⟩ := Kd.R_form HL193_0.out (by omega)
             (first | cases eo26 | (injection eo26 with ea_ en_ ec_; (first | subst ea_ | (injection ea_ with ea_; subst ea_)); subst ec_; clear en_))
             have GB26 := Aside0.mk gb26
             have GG26 := Aside0.mk HG26
             clear gb26 gl26 HG26
             (first | simp only [add_plain] at hx195_0 | skip)
             obtain ⟨hx26_0, hf26_0⟩ := Kd.R_celln 0 HL193_0.out (((rd_T39 l1 x33_2).f1) : Int) p26 q26
             replace p26 := eq_true p26
             replace q26 := eq_true q26
             have hq32 : (((rd_T39 l1 x33_2).f0) : Int) < (x6_2.length : Int) := (by have h_ : (((rd_T39 l1 x33_2).f0) : Int) < ((x6_2.length : Int) : Int) := of_decide_eq_true (by with_reducible assumption); first | exact h_ | (have e_ := (Kd.S_reads' HO_6.out).1; omega) | simpa only [List.length_set, List.length_set] using h_)
             obtain ⟨oki32, ce32, hcl32, hM32, hcc32, hok32, hbk32⟩ := Kd.S_borrow HO_6.out [] (((rd_T39 l1 x33_2).f0) : Int) (of_decide_eq_true (by with_reducible assumption)) hq32
             obtain ⟨ve32_0, rfl, ge32_0⟩ := hM32
             have hv32 := hcc32 0 _ rfl
             rw [Nat.add_zero, show ((Kd.slice 2 (Kd.int .i64))).sz = 1 from rfl, Nat.mul_one] at hv32
             replace hv32 := Option.some.inj (hv32.symm.trans HX193_0.out)
             subst hv32
             clear hcc32 hcl32
             replace ge32_0 := (show Kd.R (Kd.int .i64) 2 _ _ _ _ (rd_L6 x6_2 ((rd_T39 l1 x33_2).f0)) from ge32_0)
             have HP32 := Kd.R_putg ge32_0 (((rd_T39 l1 x33_2).f1) : Int) ji25
             rw [← Ny196.out] at HP32
             have HS32 := hbk32 HP32.2 (fun k_ e_ => by injection e_ with e_; subst e_; exact ge32_0.1 _ rfl) (x' := y196) (Kd.M_row HP32.1)
             rw [← Ny198.out] at HS32
             have HQ32 := Aside0.mk HS32
             clear HP32 HS32 hbk32 hok32
             refine start_ (n := 21) (S := fun w' => w'.cell? ⟨gb192, 0, none⟩ = some (.int .i64 ((rd_T39 l1 x33_2).f0)) ∧ w'.cell? ⟨gb192, 1, none⟩ = some (.int .i64 ((rd_T39 l1 x33_2).f1)) ∧ w'.cell? ⟨gb192, 2, none⟩ = some (.int .i64 ((rd_T39 l1 x33_2).f2)) ∧ w'.cell? (ad193.add (((rd_T39 l1 x33_2).f0)).toNat) = some (.slice (some (⟨go26, 0, none⟩ : Addr)) (rd_L6 x6_2 ((rd_T39 l1 x33_2).f0)).length c193_0) ∧ w'.cell? (ad193.add (((rd_T39 l1 x33_2).f0)).toNat) = some (.slice (some (⟨go26, 0, none⟩ : Addr)) (rd_L6 x6_2 ((rd_T39 l1 x33_2).f0)).length c193_0) ∧ w'.cell? ((⟨go26, (((rd_T39 l1 x33_2).f1)).toNat, none⟩ : Addr)) = some (.int .i64 (rd (rd_L6 x6_2 ((rd_T39 l1 x33_2).f0)) ((rd_T39 l1 x33_2).f1)))) (ds := [20]) #[false, false, false, false, false, false, false, false, false, false, false, false, false, false, false, false, false, false, false, false, false] (by kernel_rfl) rfl rfl ⟨(blk_cell BK192.out 0).trans rfl, (blk_cell BK192.out 1).trans rfl, (blk_cell BK192.out 2).trans rfl, hx193_0, hx194_0, hx195_0⟩ (fun hHeld => ?_); refine with_tabW impl_tightest.tab12 impl_tightest.bits12 (fun HT_ HW_ => ?_)
             generalize w29.drew = w30 at HO_6 BK192 HB GG26 HL193_0 HL194_0 HQ32 HR193_0 HR194_0 HX193_0 HX194_0 hf26_0 hx193_0 hx194_0 hx195_0 hx26_0 hHeld ⊢
             refine pure_ (i := 0) (N := some 37) (v := ?_) (a' := ?_) #[true, false, false, false, false, false, false, false, false, false, false, false, false, false, false, false, false, false, false, false, false] rfl rfl (any_of HT_.out (by kernel_rfl)) (fun _ _ _ h => h) (Or.inl ⟨by rfl, ?_⟩) ?_ ?_
             rotate_left
             ·intro w'
              go_simp
              with_reducible rfl
             rotate_left
             ·simp only [Act.put, List.setIfInBounds_toArray, List.set_cons_zero, List.set_cons_succ, i64_w, i32_w]
              rfl
             refine pure_ (i := 1) (N := some 38) (v := ?_) (a' := ?_) #[true, true, false, false, false, false, false, false, false, false, false, false, false, false, false, false, false, false, false, false, false] rfl rfl (any_of HT_.out (by kernel_rfl)) (fun _ _ _ h => h) (Or.inl ⟨by rfl, ?_⟩) ?_ ?_
             rotate_left
             ·intro w'
              go_simp
              with_reducible rfl
             rotate_left
             ·simp only [Act.put, List.setIfInBounds_toArray, List.set_cons_zero, List.set_cons_succ, i64_w, i32_w]
              rfl
             refine pure_ (i := 5) (N := some 42) (v := ?_) (a' := ?_) #[true, true, false, false, false, true, false, false, false, false, false, false, false, false, false, false, false, false, false, false, false] rfl rfl (any_of HT_.out (by kernel_rfl)) (fun _ _ _ h => h) (Or.inl ⟨by rfl, ?_⟩) ?_ ?_
             rotate_left
             ·intro w'
              go_simp
              with_reducible rfl
             rotate_left
             ·simp only [Act.put, List.setIfInBounds_toArray, List.set_cons_zero, List.set_cons_succ, i64_w, i32_w]
              rfl
             refine pure_ (i := 7) (N := some 44) (v := ?_) (a' := ?_) #[true, true, false, false, false, true, false, true, false, false, false, false, false, false, false, false, false, false, false, false, false] rfl rfl (any_of HT_.out (by kernel_rfl)) (fun _ _ _ h => h) (Or.inl ⟨by rfl, ?_⟩) ?_ ?_
             rotate_left
             ·intro w'
              go_simp
              with_reducible rfl
             rotate_left
             ·simp only [Act.put, List.setIfInBounds_toArray, List.set_cons_zero, List.set_cons_succ, i64_w, i32_w]
              rfl
             refine pure_ (i := 8) (N := some 45) (v := ?_) (a' := ?_) #[true, true, false, false, false, true, false, true, true, false, false, false, false, false, false, false, false, false, false, false, false] rfl rfl (any_of HT_.out (by kernel_rfl)) (fun _ _ _ h => h) (Or.inl ⟨by rfl, ?_⟩) ?_ ?_
             rotate_left
             ·intro w'
              go_simp
              with_reducible rfl
             rotate_left
             ·simp only [Act.put, List.setIfInBounds_toArray, List.set_cons_zero, List.set_cons_succ, i64_w, i32_w]
              rfl
             refine pure_ (i := 12) (N := some 49) (v := ?_) (a' := ?_) #[true, true, false, false, false, true, false, true, true, false, false, false, true, false, false, false, false, false, false, false, false] rfl rfl (any_of HT_.out (by kernel_rfl)) (fun _ _ _ h => h) (Or.inl ⟨by rfl, ?_⟩) ?_ ?_
             rotate_left
             ·intro w'
              go_simp
              with_reducible rfl
             rotate_left
             ·simp only [Act.put, List.setIfInBounds_toArray, List.set_cons_zero, List.set_cons_succ, i64_w, i32_w]
              rfl
             refine pure_ (i := 16) (N := some 53) (v := ?_) (a' := ?_) #[true, true, false, false, false, true, false, true, true, false, false, false, true, false, false, false, true, false, false, false, false] rfl rfl (any_of HT_.out (by kernel_rfl)) (fun _ _ _ h => h) (Or.inl ⟨by rfl, ?_⟩) ?_ ?_
             rotate_left
             ·intro w'
              go_simp
              with_reducible rfl
             rotate_left
             ·simp only [Act.put, List.setIfInBounds_toArray, List.set_cons_zero, List.set_cons_succ, i64_w, i32_w]
              rfl
             refine take_ (i := 2) (N := some 39) (v := ?_) (a' := ?_) #[true, true, true, false, false, true, false, true, true, false, false, false, true, false, false, false, true, false, false, false, false] rfl rfl (take_ofW HT_.out HW_.out (by kernel_rfl)) (fun _ _ _ h => h) (Or.inl ⟨by rfl, ?_⟩) hHeld ?_ ?_
             rotate_left
             ·rintro w' ⟨s0, s1, s2, s3, s4, s5⟩
              go_simp
              with_reducible rfl
             rotate_left
             ·simp only [Act.put, List.setIfInBounds_toArray, List.set_cons_zero, List.set_cons_succ, i64_w, i32_w]
              rfl
             refine pure_ (i := 3) (N := some 40) (v := ?_) (a' := ?_) #[true, true, true, true, false, true, false, true, true, false, false, false, true, false, false, false, true, false, false, false, false] rfl rfl (any_of HT_.out (by kernel_rfl)) (fun _ _ _ h => h) (Or.inl ⟨by rfl, ?_⟩) ?_ ?_
             rotate_left
             ·intro w'
              go_simp
              with_reducible rfl
             rotate_left
             ·simp only [Act.put, List.setIfInBounds_toArray, List.set_cons_zero, List.set_cons_succ, i64_w, i32_w]
              rfl
             refine take_ (i := 4) (N := some 41) (v := ?_) (a' := ?_) #[true, true, true, true, true, true, false, true, true, false, false, false, true, false, false, false, true, false, false, false, false] rfl rfl (take_ofW HT_.out HW_.out (by kernel_rfl)) (fun _ _ _ h => h) (Or.inl ⟨by rfl, ?_⟩) hHeld ?_ ?_
             rotate_left
             ·rintro w' ⟨s0, s1, s2, s3, s4, s5⟩
              go_simp
              with_reducible rfl
             rotate_left
             ·simp only [Act.put, List.setIfInBounds_toArray, List.set_cons_zero, List.set_cons_succ, i64_w, i32_w]
              rfl
             refine take_ (i := 6) (N := some 43) (v := ?_) (a' := ?_) #[true, true, true, true, true, true, true, true, true, false, false, false, true, false, false, false, true, false, false, false, false] rfl rfl (take_ofW HT_.out HW_.out (by kernel_rfl)) (fun _ _ _ h => h) (Or.inl ⟨by rfl, ?_⟩) hHeld ?_ ?_
             rotate_left
             ·rintro w' ⟨s0, s1, s2, s3, s4, s5⟩
              go_simp
              with_reducible rfl
             rotate_left
             ·simp only [Act.put, List.setIfInBounds_toArray, List.set_cons_zero, List.set_cons_succ, i64_w, i32_w]
              rfl
             refine take_ (i := 9) (N := some 46) (v := ?_) (a' := ?_) #[true, true, true, true, true, true, true, true, true, true, false, false, true, false, false, false, true, false, false, false, false] rfl rfl (take_ofW HT_.out HW_.out (by kernel_rfl)) (fun _ _ _ h => h) (Or.inl ⟨by rfl, ?_⟩) hHeld ?_ ?_
             rotate_left
             ·rintro w' ⟨s0, s1, s2, s3, s4, s5⟩
              go_simp
              with_reducible rfl
             rotate_left
             ·simp only [Act.put, List.setIfInBounds_toArray, List.set_cons_zero, List.set_cons_succ, i64_w, i32_w]
              rfl
             refine pure_ (i := 10) (N := some 47) (v := ?_) (a' := ?_) #[true, true, true, true, true, true, true, true, true, true, true, false, true, false, false, false, true, false, false, false, false] rfl rfl (any_of HT_.out (by kernel_rfl)) (fun _ _ _ h => h) (Or.inl ⟨by rfl, ?_⟩) ?_ ?_
             rotate_left
             ·intro w'
              go_simp
              with_reducible rfl
             rotate_left
             ·simp only [Act.put, List.setIfInBounds_toArray, List.set_cons_zero, List.set_cons_succ, i64_w, i32_w]
              rfl
             refine take_ (i := 11) (N := some 48) (v := ?_) (a' := ?_) #[true, true, true, true, true, true, true, true, true, true, true, true, true, false, false, false, true, false, false, false, false] rfl rfl (take_ofW HT_.out HW_.out (by kernel_rfl)) (fun _ _ _ h => h) (Or.inl ⟨by rfl, ?_⟩) hHeld ?_ ?_
             rotate_left
             ·rintro w' ⟨s0, s1, s2, s3, s4, s5⟩
              go_simp
              with_reducible rfl
             rotate_left
             ·simp only [Act.put, List.setIfInBounds_toArray, List.set_cons_zero, List.set_cons_succ, i64_w, i32_w]
              rfl
             refine take_ (i := 13) (N := some 50) (v := ?_) (a' := ?_) #[true, true, true, true, true, true, true, true, true, true, true, true, true, true, false, false, true, false, false, false, false] rfl rfl (take_ofW HT_.out HW_.out (by kernel_rfl)) (fun _ _ _ h => h) (Or.inl ⟨by rfl, ?_⟩) hHeld ?_ ?_
             rotate_left
             ·rintro w' ⟨s0, s1, s2, s3, s4, s5⟩
              go_simp
              with_reducible rfl
             rotate_left
             ·simp only [Act.put, List.setIfInBounds_toArray, List.set_cons_zero, List.set_cons_succ, i64_w, i32_w]
              rfl
             refine pure_ (i := 14) (N := some 51) (v := ?_) (a' := ?_) #[true, true, true, true, true, true, true, true, true, true, true, true, true, true, true, false, true, false, false, false, false] rfl rfl (any_of HT_.out (by kernel_rfl)) (fun _ _ _ h => h) (Or.inl ⟨by rfl, ?_⟩) ?_ ?_
             rotate_left
             ·intro w'
              go_simp
              with_reducible rfl
             rotate_left
             ·simp only [Act.put, List.setIfInBounds_toArray, List.set_cons_zero, List.set_cons_succ, i64_w, i32_w]
              rfl
             refine take_ (i := 15) (N := some 52) (v := ?_) (a' := ?_) #[true, true, true, true, true, true, true, true, true, true, true, true, true, true, true, true, true, false, false, false, false] rfl rfl (take_ofW HT_.out HW_.out (by kernel_rfl)) (fun _ _ _ h => h) (Or.inl ⟨by rfl, ?_⟩) hHeld ?_ ?_
             rotate_left
             ·rintro w' ⟨s0, s1, s2, s3, s4, s5⟩
              go_simp
              with_reducible rfl
             rotate_left
             ·simp only [Act.put, List.setIfInBounds_toArray, List.set_cons_zero, List.set_cons_succ, i64_w, i32_w]
              rfl
             refine take_ (i := 17) (N := some 54) (v := ?_) (a' := ?_) #[true, true, true, true, true, true, true, true, true, true, true, true, true, true, true, true, true, true, false, false, false] rfl rfl (take_ofW HT_.out HW_.out (by kernel_rfl)) (fun _ _ _ h => h) (Or.inl ⟨by rfl, ?_⟩) hHeld ?_ ?_
             rotate_left
             ·rintro w' ⟨s0, s1, s2, s3, s4, s5⟩
              go_simp
              with_reducible rfl
             rotate_left
             ·simp only [Act.put, List.setIfInBounds_toArray, List.set_cons_zero, List.set_cons_succ, i64_w, i32_w]
              rfl
             refine pure_ (i := 18) (N := some 55) (v := ?_) (a' := ?_) #[true, true, true, true, true, true, true, true, true, true, true, true, true, true, true, true, true, true, true, false, false] rfl rfl (any_of HT_.out (by kernel_rfl)) (fun _ _ _ h => h) (Or.inl ⟨by rfl, ?_⟩) ?_ ?_
             rotate_left
             ·intro w'
              go_simp
              with_reducible rfl
             rotate_left
             ·simp only [Act.put, List.setIfInBounds_toArray, List.set_cons_zero, List.set_cons_succ, i64_w, i32_w]
              rfl
             refine pure_ (i := 19) (N := some 56) (v := ?_) (a' := ?_) #[true, true, true, true, true, true, true, true, true, true, true, true, true, true, true, true, true, true, true, true, false] rfl rfl (any_of HT_.out (by kernel_rfl)) (fun _ _ _ h => h) (Or.inl ⟨by rfl, ?_⟩) ?_ ?_
             rotate_left
             ·intro w'
              go_simp
              with_reducible rfl
             rotate_left
             ·simp only [Act.put, List.setIfInBounds_toArray, List.set_cons_zero, List.set_cons_succ, i64_w, i32_w]
              rfl
             refine last_ (i := 20) (N := none) #[true, true, true, true, true, true, true, true, true, true, true, true, true, true, true, true, true, true, true, true, true] rfl rfl (one_of HT_.out (by kernel_rfl)) (by decide) (fun K hK => ?_)
             refine skip_ (w1 := ?_) (by rfl) rfl ?_ ?_
             rotate_left
             ·go_simp
              rfl
             refine hK.out _ _ ?_
             clear hK K
             refine done_ (done_of HT_.out (by kernel_rfl)) ?_
             try go_wp2
             go_roundg k2
             case measure => have := HK1.out; have := HK2.out; omega
             case rel => exact ⟨(y198), (wrap64 (x33_2 + 1)), (by first | rfl | (simp; done) | (simp [*]; done)), H', ⟨by have := HK1.out; have := HK2.out; omega⟩, ⟨by (with_reducible repeat (first | apply Kd.S_alloc | apply Kd.S_drewN | apply Kd.S_drew)); exact HQ32.out⟩, ⟨by repeat (first | (with_reducible first | exact HB.out | apply below_alloc | apply pw_below_drewN | apply below_drew1 | refine below_set ?_ GB26.out | refine below_set ?_ GE192.out) | exact HB.out)⟩⟩
            ·rw [if_neg c24] at H
             exact absurd H (by simp)
           ·rw [if_neg c23] at H
            exact absurd H (by simp)
          ·rw [if_neg c22] at H
           exact absurd H (by simp)
         ·rw [if_neg c21] at H
          exact absurd H (by simp)
        ·rw [if_neg c20] at H
         exact absurd H (by simp)
       ·rw [if_neg c19] at H
        exact absurd H (by simp)
      ·rw [if_neg c18] at H
       have c18b0 : decide (x33_2 < (l1.length : Int)) = false := decide_eq_false c18
       clear c18
       have H' := Aside0.mk H
       clear H
       obtain ⟨Ao34, co34, eo34⟩ := Kd.S_slice HO_6.out
       subst eo34
       go_wp2
       go_loopg [60] k2 (fun kq v60 w' => ∃ (x6_3 : List (List Int)) (x60_3 : Int), v60 = .int .i64 x60_3 ∧ Aside0 (impl_tightest.l2 kq x6_3 (x6_2.length : Int) x60_3 = some (r1, r2)) ∧ Aside0 (kq ≤ k2) ∧ Aside0 (Kd.S (Kd.slice 2 (Kd.int .i64)) 28 w' w.heap.size (fun _ => True) (.slice Ao34 x6_2.length co34) x6_3) ∧ Aside0 (Below w.heap.size w w'))
       case atStart => exact ⟨(x6_2), (0), (by first | rfl | (simp; done) | (simp [*]; done)), H', ⟨Nat.le_refl _⟩, ⟨by (with_reducible repeat (first | apply Kd.S_alloc | apply Kd.S_drewN | apply Kd.S_drew)); exact HO_6.out⟩, ⟨by repeat (first | (with_reducible first | exact HB.out | apply below_alloc | apply pw_below_drewN | apply below_drew1) | exact HB.out)⟩⟩
       case round =>
        clear H'
        try clear c1
        try clear p1
        try clear q1
        try clear hx1
        try clear c2
        try clear p2
        try clear q2
        try clear hx2
        try clear hf2
        try clear c3
        try clear q3
        try clear c4
        try clear c5
        try clear c5b0
        try clear p6
        try clear c7
        try clear c7b0
        try clear c8
        try clear c8b0
        try clear p9
        try clear q9
        try clear hx9
        try clear hf9
        try clear c10
        try clear c18
        try clear c18b0
        try clear c19
        try clear c19b0
        try clear p19
        try clear q19
        try clear hx19
        try clear c20
        try clear c20b0
        try clear c21
        try clear c21b0
        try clear c22
        try clear c22b0
        try clear c23
        try clear c23b0
        try clear c24
        try clear c24b0
        try clear p26
        try clear q26
        try clear hx26
        try clear hf26
        try clear c32
        try clear q32
        try clear hcz28_0
        try clear hcz28_1
        try clear hcz28_2
        try clear hfz28_0
        try clear hfz28_1
        try clear hfz28_2
        try clear hx191_0
        try clear hx191_1
        try clear hx191_2
        try clear hx193_0
        try clear hx194_0
        try clear hx195_0
        try clear hx26_0
        try clear hx9_0
        try clear p191
        try clear p193
        try clear p194
        try clear p195
        try clear p2
        try clear p26
        try clear p6
        try clear p9
        try clear q191
        try clear q193
        try clear q194
        try clear q195
        try clear q26
        try clear q9
        obtain ⟨x6_3, x60_3, rfl, HA, HK3, HO_6, HB⟩ := hrel
        have hl6_3 := (Kd.S_reads' HO_6.out).1
        rw [hl6_3] at HO_6
        (try simp only [hl6_3])
        cases gk with
        | zero => exact absurd HA.out (by simp [impl_tightest.l2])
        | succ k3 =>
         have H := HA.out
         clear HA
         simp only [impl_tightest.l2] at H
         by_cases c35 : x60_3 < (x6_2.length : Int)
         ·rw [if_pos c35] at H
          have c35b0 : decide (x60_3 < (x6_2.length : Int)) = true := decide_eq_true c35
          have c35b0l := c35b0; (try simp only [hl6_3] at c35b0l)
          clear c35
          have H' := Aside0.mk H
          clear H
          go_wp2
          go_loopg [65] k3 (fun kq v65 w' => ∃ (x6_4 : List (List Int)) (x65_4 : Int), v65 = .int .i64 x65_4 ∧ Aside0 (impl_tightest.l3 kq x6_4 x60_3 (x6_2.length : Int) x60_3 (x6_3.length : Int) x65_4 = some (r1, r2)) ∧ Aside0 (kq ≤ k3) ∧ Aside0 (Kd.S (Kd.slice 2 (Kd.int .i64)) 28 w' w.heap.size (fun _ => True) (.slice Ao34 x6_3.length co34) x6_4) ∧ Aside0 (Below w.heap.size w w'))
          case atStart => exact ⟨(x6_3), (0), (by first | rfl | (simp; done) | (simp [*]; done)), H', ⟨Nat.le_refl _⟩, ⟨by (try simp only [hl6_3]); (with_reducible repeat (first | apply Kd.S_alloc | apply Kd.S_drewN | apply Kd.S_drew)); exact HO_6.out⟩, ⟨by repeat (first | (with_reducible first | exact HB.out | apply below_alloc | apply pw_below_drewN | apply below_drew1) | exact HB.out)⟩⟩
          case round =>
           clear H'
           try clear c1
           try clear p1
           try clear q1
           try clear hx1
           try clear c2
           try clear p2
           try clear q2
           try clear hx2
           try clear hf2
           try clear c3
           try clear q3
           try clear c4
           try clear c5
           try clear c5b0
           try clear p6
           try clear c7
           try clear c7b0
           try clear c8
           try clear c8b0
           try clear p9
           try clear q9
           try clear hx9
           try clear hf9
           try clear c10
           try clear c18
           try clear c18b0
           try clear c19
           try clear c19b0
           try clear p19
           try clear q19
           try clear hx19
           try clear c20
           try clear c20b0
           try clear c21
           try clear c21b0
           try clear c22
           try clear c22b0
           try clear c23
           try clear c23b0
           try clear c24
           try clear c24b0
           try clear p26
           try clear q26
           try clear hx26
           try clear hf26
           try clear c32
           try clear q32
           try clear c35
           try clear c35b0
           try clear hcz28_0
           try clear hcz28_1
           try clear hcz28_2
           try clear hfz28_0
           try clear hfz28_1
           try clear hfz28_2
           try clear hx191_0
           try clear hx191_1
           try clear hx191_2
           try clear hx193_0
           try clear hx194_0
           try clear hx195_0
           try clear hx26_0
           try clear hx9_0
           try clear p1
           try clear p19
           try clear p191
           try clear p193
           try clear p194
           try clear p195
           try clear p2
           try clear p26
           try clear p6
           try clear p9
           try clear q1
           try clear q19
           try clear q191
           try clear q193
           try clear q194
           try clear q195
           try clear q2
           try clear q26
           try clear q3
           try clear q32
           try clear q9
           obtain ⟨x6_4, x65_4, rfl, HA, HK4, HO_6, HB⟩ := hrel
           have hl6_4 := (Kd.S_reads' HO_6.out).1
           rw [hl6_4] at HO_6
           (try simp only [hl6_4])
           cases gk with
           | zero => exact absurd HA.out (by simp [impl_tightest.l3])
           | succ k4 =>
            have H := HA.out
            clear HA
            simp only [impl_tightest.l3] at H
            by_cases c36 : x65_4 < (x6_3.length : Int)
            ·rw [if_pos c36] at H
             have c36b0 : decide (x65_4 < (x6_3.length : Int)) = true := decide_eq_true c36
             have c36b0l := c36b0; (try simp only [hl6_4] at c36b0l)
             clear c36
             have H' := Aside0.mk H
             clear H
             go_wp2
             go_loopg [70] k4 (fun kq v70 w' => ∃ (x6_5 : List (List Int)) (x70_5 : Int), v70 = .int .i64 x70_5 ∧ Aside0 (impl_tightest.l4 kq x6_5 x60_3 x65_4 (x6_2.length : Int) x60_3 (x6_3.length : Int) x65_4 (x6_4.length : Int) x70_5 = some (r1, r2)) ∧ Aside0 (kq ≤ k4) ∧ Aside0 (Kd.S (Kd.slice 2 (Kd.int .i64)) 28 w' w.heap.size (fun _ => True) (.slice Ao34 x6_4.length co34) x6_5) ∧ Aside0 (Below w.heap.size w w'))
             case atStart => exact ⟨(x6_4), (0), (by first | rfl | (simp; done) | (simp [*]; done)), H', ⟨Nat.le_refl _⟩, ⟨by (try simp only [hl6_3]); (try simp only [hl6_4]); (with_reducible repeat (first | apply Kd.S_alloc | apply Kd.S_drewN | apply Kd.S_drew)); exact HO_6.out⟩, ⟨by repeat (first | (with_reducible first | exact HB.out | apply below_alloc | apply pw_below_drewN | apply below_drew1) | exact HB.out)⟩⟩
             case round =>
              clear H'
              try clear c1
              try clear p1
              try clear q1
              try clear hx1
              try clear c2
              try clear p2
              try clear q2
              try clear hx2
              try clear hf2
              try clear c3
              try clear q3
              try clear c4
              try clear c5
              try clear c5b0
              try clear p6
              try clear c7
              try clear c7b0
              try clear c8
              try clear c8b0
              try clear p9
              try clear q9
              try clear hx9
              try clear hf9
              try clear c10
              try clear c18
              try clear c18b0
              try clear c19
              try clear c19b0
              try clear p19
              try clear q19
              try clear hx19
              try clear c20
              try clear c20b0
              try clear c21
              try clear c21b0
              try clear c22
              try clear c22b0
              try clear c23
              try clear c23b0
              try clear c24
              try clear c24b0
              try clear p26
              try clear q26
              try clear hx26
              try clear hf26
              try clear c32
              try clear q32
              try clear c35
              try clear c35b0
              try clear c36
              try clear c36b0
              try clear hcz28_0
              try clear hcz28_1
              try clear hcz28_2
              try clear hfz28_0
              try clear hfz28_1
              try clear hfz28_2
              try clear hx191_0
              try clear hx191_1
              try clear hx191_2
              try clear hx193_0
              try clear hx194_0
              try clear hx195_0
              try clear hx26_0
              try clear hx9_0
              try clear p1
              try clear p19
              try clear p191
              try clear p193
              try clear p194
              try clear p195
              try clear p2
              try clear p26
              try clear p6
              try clear p9
              try clear q1
              try clear q19
              try clear q191
              try clear q193
              try clear q194
              try clear q195
              try clear q2
              try clear q26
              try clear q3
              try clear q32
              try clear q9
              obtain ⟨x6_5, x70_5, rfl, HA, HK5, HO_6, HB⟩ := hrel
              have hl6_5 := (Kd.S_reads' HO_6.out).1
              rw [hl6_5] at HO_6
              (try simp only [hl6_5])
              cases gk with
              | zero => exact absurd HA.out (by simp [impl_tightest.l4])
              | succ k5 =>
               have H := HA.out
               clear HA
               simp only [impl_tightest.l4] at H
               by_cases c37 : x70_5 < (x6_4.length : Int)
               ·rw [if_pos c37] at H
                have c37b0 : decide (x70_5 < (x6_4.length : Int)) = true := decide_eq_true c37
                have c37b0l := c37b0; (try simp only [hl6_5] at c37b0l)
                clear c37
                by_cases c38 : 0 ≤ x65_4
                ·rw [if_pos c38] at H
                 have c38b0 : decide (0 ≤ x65_4) = true := decide_eq_true c38
                 clear c38
                 by_cases c39 : x65_4 < (x6_5.length : Int)
                 ·rw [if_pos c39] at H
                  have c39b0 : decide (x65_4 < (x6_5.length : Int)) = true := decide_eq_true c39
                  clear c39
                  by_cases c40 : 0 ≤ x60_3
                  ·rw [if_pos c40] at H
                   have c40b0 : decide (0 ≤ x60_3) = true := decide_eq_true c40
                   clear c40
                   by_cases c41 : x60_3 < ((rd_L6 x6_5 x65_4).length : Int)
                   ·rw [if_pos c41] at H
                    have c41b0 : decide (x60_3 < ((rd_L6 x6_5 x65_4).length : Int)) = true := decide_eq_true c41
                    clear c41
                    by_cases c42 : (rd (rd_L6 x6_5 x65_4) x60_3) < 1000000
                    ·rw [if_pos c42] at H
                     have c42b0 : decide ((rd (rd_L6 x6_5 x65_4) x60_3) < 1000000) = true := decide_eq_true c42
                     clear c42
                     by_cases c43 : x60_3 < (x6_5.length : Int)
                     ·rw [if_pos c43] at H
                      have c43b0 : decide (x60_3 < (x6_5.length : Int)) = true := decide_eq_true c43
                      clear c43
                      by_cases c44 : 0 ≤ x70_5
                      ·rw [if_pos c44] at H
                       have c44b0 : decide (0 ≤ x70_5) = true := decide_eq_true c44
                       clear c44
                       by_cases c45 : x70_5 < ((rd_L6 x6_5 x60_3).length : Int)
                       ·rw [if_pos c45] at H
                        have c45b0 : decide (x70_5 < ((rd_L6 x6_5 x60_3).length : Int)) = true := decide_eq_true c45
                        clear c45
                        by_cases c46 : (rd (rd_L6 x6_5 x60_3) x70_5) < 1000000
                        ·rw [if_pos c46] at H
                         have c46b0 : decide ((rd (rd_L6 x6_5 x60_3) x70_5) < 1000000) = true := decide_eq_true c46
                         clear c46
                         by_cases c47 : x70_5 < ((rd_L6 x6_5 x65_4).length : Int)
                         ·rw [if_pos c47] at H
                          have c47b0 : decide (x70_5 < ((rd_L6 x6_5 x65_4).length : Int)) = true := decide_eq_true c47
                          clear c47
                          obtain ⟨ji48, hji48⟩ : ∃ j_ : Int, (mn (rd (rd_L6 x6_5 x65_4) x70_5) (wrap64 ((rd (rd_L6 x6_5 x65_4) x60_3) + (rd (rd_L6 x6_5 x60_3) x70_5)))) = j_ := ⟨_, rfl⟩
                          replace H : (impl_tightest.l4 k5 (x6_5.set (x65_4 : Int).toNat ((rd_L6 x6_5 x65_4).set (x70_5 : Int).toNat (ji48))) x60_3 x65_4 (x6_2.length : Int) x60_3 (x6_3.length : Int) x65_4 (x6_4.length : Int) (wrap64 (x70_5 + 1))) = some (r1, r2) := by first | (rw [hji48] at H; exact H) | (simp only [hji48] at H ⊢; exact H)
                          have hji48_ : (if (wrap64 ((rd (rd_L6 x6_5 x65_4) x60_3) + (rd (rd_L6 x6_5 x60_3) x70_5))) < (rd (rd_L6 x6_5 x65_4) x70_5) then (wrap64 ((rd (rd_L6 x6_5 x65_4) x60_3) + (rd (rd_L6 x6_5 x60_3) x70_5))) else (rd (rd_L6 x6_5 x65_4) x70_5)) = ji48 := hji48
                          obtain ⟨y210, hy210⟩ : ∃ y_ : List Int, y_ = ((rd_L6 x6_5 x65_4).set (x70_5 : Int).toNat (ji48)) := ⟨_, rfl⟩
                          replace H : (impl_tightest.l4 k5 (x6_5.set (x65_4 : Int).toNat y210) x60_3 x65_4 (x6_2.length : Int) x60_3 (x6_3.length : Int) x65_4 (x6_4.length : Int) (wrap64 (x70_5 + 1))) = some (r1, r2) := by first | (rw [hy210]; with_reducible exact H) | (have H2_ := (Option.bind_some _ _).symm.trans H; rw [hy210]; with_reducible exact H2_) | (have H2_ := (Option.bind_some _ _).symm.trans H; with_reducible exact H2_) | with_reducible exact H | (rw [hy210]; exact H) | exact H
                          have Ny210 := Aside0.mk hy210
                          clear hy210
                          obtain ⟨y212, hy212⟩ : ∃ y_ : List (List Int), y_ = (x6_5.set (x65_4 : Int).toNat y210) := ⟨_, rfl⟩
                          replace H : (impl_tightest.l4 k5 y212 x60_3 x65_4 (x6_2.length : Int) x60_3 (x6_3.length : Int) x65_4 (x6_4.length : Int) (wrap64 (x70_5 + 1))) = some (r1, r2) := by first | (rw [hy212]; with_reducible exact H) | (have H2_ := (Option.bind_some _ _).symm.trans H; rw [hy212]; with_reducible exact H2_) | (have H2_ := (Option.bind_some _ _).symm.trans H; with_reducible exact H2_) | with_reducible exact H | (rw [hy212]; exact H) | exact H
                          have Ny212 := Aside0.mk hy212
                          clear hy212
                          have H' := Aside0.mk H
                          clear H
                          have p199 : 0 ≤ (x65_4 : Int) := of_decide_eq_true (by with_reducible assumption)
                          have q199 : x65_4 < (x6_5.length : Int) := of_decide_eq_true (by with_reducible assumption)
                          obtain ⟨ad199, A199_0, c199_0, e199, hx199_0, hl199_0, hi199_0⟩ := at_L6 (Kd.S_reads' HO_6.out).2.2 x65_4 p199 q199
                          cases e199
                          obtain ⟨ce199, hce199, hMe199, hcc199⟩ := Kd.S_get HO_6.out [] x65_4 p199 (by first | exact q199 | exact of_decide_eq_true (by with_reducible assumption) | (have e_ := (Kd.S_reads' HO_6.out).1; omega))
                          obtain ⟨ve199_0, rfl, ge199_0⟩ := hMe199
                          have hv199_0 := hcc199 0 _ rfl
                          rw [Nat.add_zero, show ((Kd.slice 2 (Kd.int .i64))).sz = 1 from rfl, Nat.mul_one] at hv199_0
                          replace hv199_0 := Option.some.inj (hv199_0.symm.trans hx199_0)
                          rw [hv199_0] at ge199_0
                          have HL199_0 := Aside0.mk (show Kd.R (Kd.int .i64) 2 _ _ _ _ (rd_L6 x6_5 x65_4) from ge199_0)
                          clear hv199_0 ge199_0
                          have HX199_0 := Aside0.mk hx199_0
                          clear hcc199 hce199
                          have HR199_0 := Aside0.mk hi199_0
                          have HC199_0 := Aside0.mk hl199_0
                          clear hi199_0 hl199_0
                          replace p199 := eq_true p199
                          replace q199 := eq_true q199
                          have p200 : 0 ≤ (x60_3 : Int) := of_decide_eq_true (by with_reducible assumption)
                          have q200 : x60_3 < ((rd_L6 x6_5 x65_4).length : Int) := of_decide_eq_true (by with_reducible assumption)
                          obtain ⟨ad200, e200, hx200_0⟩ := Kd.at_int (by repeat (first | (with_reducible exact HR199_0.out) | (with_reducible refine Kd.C_alloc ?_ _) | (with_reducible refine Kd.C_drewN ?_ _) | (with_reducible refine Kd.C_drew ?_) | exact HR199_0.out)) x60_3 p200 q200
                          cases e200
                          replace p200 := eq_true p200
                          replace q200 := eq_true q200
                          have p201 : 0 ≤ (x60_3 : Int) := of_decide_eq_true (by with_reducible assumption)
                          have q201 : x60_3 < (x6_5.length : Int) := of_decide_eq_true (by with_reducible assumption)
                          obtain ⟨ad201, A201_0, c201_0, e201, hx201_0, hl201_0, hi201_0⟩ := at_L6 (Kd.S_reads' HO_6.out).2.2 x60_3 p201 q201
                          obtain rfl : ad199 = ad201 := (by injection e201)
                          obtain ⟨ce201, hce201, hMe201, hcc201⟩ := Kd.S_get HO_6.out [] x60_3 p201 (by first | exact q201 | exact of_decide_eq_true (by with_reducible assumption) | (have e_ := (Kd.S_reads' HO_6.out).1; omega))
                          obtain ⟨ve201_0, rfl, ge201_0⟩ := hMe201
                          have hv201_0 := hcc201 0 _ rfl
                          rw [Nat.add_zero, show ((Kd.slice 2 (Kd.int .i64))).sz = 1 from rfl, Nat.mul_one] at hv201_0
                          replace hv201_0 := Option.some.inj (hv201_0.symm.trans hx201_0)
                          rw [hv201_0] at ge201_0
                          have HL201_0 := Aside0.mk (show Kd.R (Kd.int .i64) 2 _ _ _ _ (rd_L6 x6_5 x60_3) from ge201_0)
                          clear hv201_0 ge201_0
                          have HX201_0 := Aside0.mk hx201_0
                          clear hcc201 hce201
                          have HR201_0 := Aside0.mk hi201_0
                          have HC201_0 := Aside0.mk hl201_0
                          clear hi201_0 hl201_0
                          replace p201 := eq_true p201
                          replace q201 := eq_true q201
                          have p202 : 0 ≤ (x70_5 : Int) := of_decide_eq_true (by with_reducible assumption)
                          have q202 : x70_5 < ((rd_L6 x6_5 x60_3).length : Int) := of_decide_eq_true (by with_reducible assumption)
                          obtain ⟨ad202, e202, hx202_0⟩ := Kd.at_int (by repeat (first | (with_reducible exact HR201_0.out) | (with_reducible refine Kd.C_alloc ?_ _) | (with_reducible refine Kd.C_drewN ?_ _) | (with_reducible refine Kd.C_drew ?_) | exact HR201_0.out)) x70_5 p202 q202
                          cases e202
                          replace p202 := eq_true p202
                          replace q202 := eq_true q202
                          try go_wp2
                          have n0_ := Aside0.mk (Kd.S_drew HO_6.out)
                          have n1_ := Aside0.mk (Kd.R_drew HL199_0.out)
                          have n2_ := Aside0.mk (Kd.R_drew HL201_0.out)
                          have n3_ := Aside0.mk (Kd.C_drew HR199_0.out)
                          have n4_ := Aside0.mk (Kd.C_drew HR201_0.out)
                          have n5_ := Aside0.mk (below_drew1 HB.out)
                          clear HO_6
                          clear HL199_0
                          clear HL201_0
                          clear HR199_0
                          clear HR201_0
                          clear HB
                          have HO_6 := n0_
                          have HL199_0 := n1_
                          have HL201_0 := n2_
                          have HR199_0 := n3_
                          have HR201_0 := n4_
                          have HB := n5_
                          clear n0_ n1_ n2_ n3_ n4_ n5_
                          have p203 : 0 ≤ (x65_4 : Int) := of_decide_eq_true (by with_reducible assumption)
                          have q203 : x65_4 < (x6_5.length : Int) := of_decide_eq_true (by with_reducible assumption)
                          obtain ⟨ad203, A203_0, c203_0, e203, hx203_0, hl203_0, hi203_0⟩ := at_L6 (Kd.S_reads' HO_6.out).2.2 x65_4 p203 q203
                          obtain rfl : ad199 = ad203 := (by injection e203)
                          obtain ⟨ce203, hce203, hMe203, hcc203⟩ := Kd.S_get HO_6.out [] x65_4 p203 (by first | exact q203 | exact of_decide_eq_true (by with_reducible assumption) | (have e_ := (Kd.S_reads' HO_6.out).1; omega))
                          obtain ⟨ve203_0, rfl, ge203_0⟩ := hMe203
                          have hv203_0 := hcc203 0 _ rfl
                          rw [Nat.add_zero, show ((Kd.slice 2 (Kd.int .i64))).sz = 1 from rfl, Nat.mul_one] at hv203_0
                          replace hv203_0 := Option.some.inj (hv203_0.symm.trans hx203_0)
                          rw [hv203_0] at ge203_0
                          have HL203_0 := Aside0.mk (show Kd.R (Kd.int .i64) 2 _ _ _ _ (rd_L6 x6_5 x65_4) from ge203_0)
                          clear hv203_0 ge203_0
                          have HX203_0 := Aside0.mk hx203_0
                          clear hcc203 hce203
                          have HR203_0 := Aside0.mk hi203_0
                          have HC203_0 := Aside0.mk hl203_0
                          clear hi203_0 hl203_0
                          replace p203 := eq_true p203
                          replace q203 := eq_true q203
                          have p204 : 0 ≤ (x65_4 : Int) := of_decide_eq_true (by with_reducible assumption)
                          have q204 : x65_4 < (x6_5.length : Int) := of_decide_eq_true (by with_reducible assumption)
                          obtain ⟨ad204, A204_0, c204_0, e204, hx204_0, hl204_0, hi204_0⟩ := at_L6 (Kd.S_reads' HO_6.out).2.2 x65_4 p204 q204
                          obtain rfl : ad199 = ad204 := (by injection e204)
                          obtain ⟨ce204, hce204, hMe204, hcc204⟩ := Kd.S_get HO_6.out [] x65_4 p204 (by first | exact q204 | exact of_decide_eq_true (by with_reducible assumption) | (have e_ := (Kd.S_reads' HO_6.out).1; omega))
                          obtain ⟨ve204_0, rfl, ge204_0⟩ := hMe204
                          have hv204_0 := hcc204 0 _ rfl
                          rw [Nat.add_zero, show ((Kd.slice 2 (Kd.int .i64))).sz = 1 from rfl, Nat.mul_one] at hv204_0
                          replace hv204_0 := Option.some.inj (hv204_0.symm.trans hx204_0)
                          rw [hv204_0] at ge204_0
                          have HL204_0 := Aside0.mk (show Kd.R (Kd.int .i64) 2 _ _ _ _ (rd_L6 x6_5 x65_4) from ge204_0)
                          clear hv204_0 ge204_0
                          have HX204_0 := Aside0.mk hx204_0
                          clear hcc204 hce204
                          have HR204_0 := Aside0.mk hi204_0
                          have HC204_0 := Aside0.mk hl204_0
                          clear hi204_0 hl204_0
                          replace p204 := eq_true p204
                          replace q204 := eq_true q204
                          have ea_ := Option.some.inj (hx203_0.symm.trans hx204_0)
                          injection ea_ with ea_ en_ ec_
                          subst ea_
                          subst ec_
                          clear en_
                          have p205 : 0 ≤ (x70_5 : Int) := of_decide_eq_true (by with_reducible assumption)
                          have q205 : x70_5 < ((rd_L6 x6_5 x65_4).length : Int) := of_decide_eq_true (by with_reducible assumption)
                          obtain ⟨ad205, e205, hx205_0⟩ := Kd.at_int (by repeat (first | (with_reducible exact HR204_0.out) | (with_reducible refine Kd.C_alloc ?_ _) | (with_reducible refine Kd.C_drewN ?_ _) | (with_reducible refine Kd.C_drew ?_) | exact HR204_0.out)) x70_5 p205 q205
                          cases e205
                          replace p205 := eq_true p205
                          replace q205 := eq_true q205
                          have p206 : 0 ≤ (x65_4 : Int) := of_decide_eq_true (by with_reducible assumption)
                          have q206 : x65_4 < (x6_5.length : Int) := of_decide_eq_true (by with_reducible assumption)
                          obtain ⟨ad206, A206_0, c206_0, e206, hx206_0, hl206_0, hi206_0⟩ := at_L6 (Kd.S_reads' HO_6.out).2.2 x65_4 p206 q206
                          obtain rfl : ad199 = ad206 := (by injection e206)
                          obtain ⟨ce206, hce206, hMe206, hcc206⟩ := Kd.S_get HO_6.out [] x65_4 p206 (by first | exact q206 | exact of_decide_eq_true (by with_reducible assumption) | (have e_ := (Kd.S_reads' HO_6.out).1; omega))
                          obtain ⟨ve206_0, rfl, ge206_0⟩ := hMe206
                          have hv206_0 := hcc206 0 _ rfl
                          rw [Nat.add_zero, show ((Kd.slice 2 (Kd.int .i64))).sz = 1 from rfl, Nat.mul_one] at hv206_0
                          replace hv206_0 := Option.some.inj (hv206_0.symm.trans hx206_0)
                          rw [hv206_0] at ge206_0
                          have HL206_0 := Aside0.mk (show Kd.R (Kd.int .i64) 2 _ _ _ _ (rd_L6 x6_5 x65_4) from ge206_0)
                          clear hv206_0 ge206_0
                          have HX206_0 := Aside0.mk hx206_0
                          clear hcc206 hce206
                          have HR206_0 := Aside0.mk hi206_0
                          have HC206_0 := Aside0.mk hl206_0
                          clear hi206_0 hl206_0
                          replace p206 := eq_true p206
                          replace q206 := eq_true q206
                          have ea_ := Option.some.inj (hx203_0.symm.trans hx206_0)
                          injection ea_ with ea_ en_ ec_
                          subst ea_
                          subst ec_
                          clear en_
                          have p207 : 0 ≤ (x60_3 : Int) := of_decide_eq_true (by with_reducible assumption)
                          have q207 : x60_3 < ((rd_L6 x6_5 x65_4).length : Int) := of_decide_eq_true (by with_reducible assumption)
                          obtain ⟨ad207, e207, hx207_0⟩ := Kd.at_int (by repeat (first | (with_reducible exact HR206_0.out) | (with_reducible refine Kd.C_alloc ?_ _) | (with_reducible refine Kd.C_drewN ?_ _) | (with_reducible refine Kd.C_drew ?_) | exact HR206_0.out)) x60_3 p207 q207
                          cases e207
                          replace p207 := eq_true p207
                          replace q207 := eq_true q207
                          have p208 : 0 ≤ (x60_3 : Int) := of_decide_eq_true (by with_reducible assumption)
                          have q208 : x60_3 < (x6_5.length : Int) := of_decide_eq_true (by with_reducible assumption)
                          obtain ⟨ad208, A208_0, c208_0, e208, hx208_0, hl208_0, hi208_0⟩ := at_L6 (Kd.S_reads' HO_6.out).2.2 x60_3 p208 q208
                          obtain rfl : ad199 = ad208 := (by injection e208)
                          obtain ⟨ce208, hce208, hMe208, hcc208⟩ := Kd.S_get HO_6.out [] x60_3 p208 (by first | exact q208 | exact of_decide_eq_true (by with_reducible assumption) | (have e_ := (Kd.S_reads' HO_6.out).1; omega))
                          obtain ⟨ve208_0, rfl, ge208_0⟩ := hMe208
                          have hv208_0 := hcc208 0 _ rfl
                          rw [Nat.add_zero, show ((Kd.slice 2 (Kd.int .i64))).sz = 1 from rfl, Nat.mul_one] at hv208_0
                          replace hv208_0 := Option.some.inj (hv208_0.symm.trans hx208_0)
                          rw [hv208_0] at ge208_0
                          have HL208_0 := Aside0.mk (show Kd.R (Kd.int .i64) 2 _ _ _ _ (rd_L6 x6_5 x60_3) from ge208_0)
                          clear hv208_0 ge208_0
                          have HX208_0 := Aside0.mk hx208_0
                          clear hcc208 hce208
                          have HR208_0 := Aside0.mk hi208_0
                          have HC208_0 := Aside0.mk hl208_0
                          clear hi208_0 hl208_0
                          replace p208 := eq_true p208
                          replace q208 := eq_true q208
                          have p209 : 0 ≤ (x70_5 : Int) := of_decide_eq_true (by with_reducible assumption)
                          have q209 : x70_5 < ((rd_L6 x6_5 x60_3).length : Int) := of_decide_eq_true (by with_reducible assumption)
                          obtain ⟨ad209, e209, hx209_0⟩ := Kd.at_int (by repeat (first | (with_reducible exact HR208_0.out) | (with_reducible refine Kd.C_alloc ?_ _) | (with_reducible refine Kd.C_drewN ?_ _) | (with_reducible refine Kd.C_drew ?_) | exact HR208_0.out)) x70_5 p209 q209
                          cases e209
                          replace p209 := eq_true p209
                          replace q209 := eq_true q209
                          have p49 : 0 ≤ (x70_5 : Int) := of_decide_eq_true (by with_reducible assumption)
                          have q49 : (x70_5 : Int) < (((rd_L6 x6_5 x65_4).length : Int) : Int) := of_decide_eq_true (by with_reducible assumption)
                          obtain ⟨go49, co49, eo49, gb49, gl49, cl49, HG49⟩ := Kd.R_form HL203_0.out (by omega)
                          (first | cases eo49 | (injection eo49 with ea_ en_ ec_; (first | subst ea_ | (injection ea_ with ea_; subst ea_)); subst ec_; clear en_))
                          have GB49 := Aside0.mk gb49
                          have GG49 := Aside0.mk HG49
                          clear gb49 gl49 HG49
                          (first | simp only [add_plain] at hx207_0 | skip)
                          (first | simp only [add_plain] at hx205_0 | skip)
                          obtain ⟨hx49_0, hf49_0⟩ := Kd.R_celln 0 HL203_0.out (x70_5 : Int) p49 q49
                          replace p49 := eq_true p49
                          replace q49 := eq_true q49
                          have hq51 : (x65_4 : Int) < (x6_5.length : Int) := (by have h_ : (x65_4 : Int) < ((x6_5.length : Int) : Int) := of_decide_eq_true (by with_reducible assumption); first | exact h_ | (have e_ := (Kd.S_reads' HO_6.out).1; omega) | simpa only [List.length_set, List.length_set] using h_)
                          obtain ⟨oki51, ce51, hcl51, hM51, hcc51, hok51, hbk51⟩ := Kd.S_borrow HO_6.out [] (x65_4 : Int) (of_decide_eq_true (by with_reducible assumption)) hq51
                          obtain ⟨ve51_0, rfl, ge51_0⟩ := hM51
                          have hv51 := hcc51 0 _ rfl
                          rw [Nat.add_zero, show ((Kd.slice 2 (Kd.int .i64))).sz = 1 from rfl, Nat.mul_one] at hv51
                          replace hv51 := Option.some.inj (hv51.symm.trans HX203_0.out)
                          subst hv51
                          clear hcc51 hcl51
                          replace ge51_0 := (show Kd.R (Kd.int .i64) 2 _ _ _ _ (rd_L6 x6_5 x65_4) from ge51_0)
                          have HP51 := Kd.R_putg ge51_0 (x70_5 : Int) ji48
                          rw [← Ny210.out] at HP51
                          have HS51 := hbk51 HP51.2 (fun k_ e_ => by injection e_ with e_; subst e_; exact ge51_0.1 _ rfl) (x' := y210) (Kd.M_row HP51.1)
                          rw [← Ny212.out] at HS51
                          have HQ51 := Aside0.mk HS51
                          clear HP51 HS51 hbk51 hok51
                          refine start_ (n := 30) (S := fun w' => w'.cell? (ad199.add (x65_4).toNat) = some (.slice (some (⟨go49, 0, none⟩ : Addr)) (rd_L6 x6_5 x65_4).length c203_0) ∧ w'.cell? (ad199.add (x65_4).toNat) = some (.slice (some (⟨go49, 0, none⟩ : Addr)) (rd_L6 x6_5 x65_4).length c203_0) ∧ w'.cell? ((⟨go49, (x70_5).toNat, none⟩ : Addr)) = some (.int .i64 (rd (rd_L6 x6_5 x65_4) x70_5)) ∧ w'.cell? (ad199.add (x65_4).toNat) = some (.slice (some (⟨go49, 0, none⟩ : Addr)) (rd_L6 x6_5 x65_4).length c203_0) ∧ w'.cell? ⟨go49, (x60_3).toNat, none⟩ = some (.int .i64 (rd (rd_L6 x6_5 x65_4) x60_3)) ∧ w'.cell? (ad199.add (x60_3).toNat) = some (.slice (some ad209) (rd_L6 x6_5 x60_3).length c208_0) ∧ w'.cell? (ad209.add (x70_5).toNat) = some (.int .i64 (rd (rd_L6 x6_5 x60_3) x70_5))) (ds := [29]) #[false, false, false, false, false, false, false, false, false, false, false, false, false, false, false, false, false, false, false, false, false, false, false, false, false, false, false, false, false, false] (by kernel_rfl) rfl rfl ⟨hx203_0, hx204_0, hx205_0, hx206_0, hx207_0, hx208_0, hx209_0⟩ (fun hHeld => ?_); refine with_tabW impl_tightest.tab24 impl_tightest.bits24 (fun HT_ HW_ => ?_)
                          generalize wr.drew = w50 at HO_6 HL199_0 HL201_0 HR199_0 HR201_0 HB GG49 HL203_0 HL204_0 HL206_0 HL208_0 HQ51 HR203_0 HR204_0 HR206_0 HR208_0 HX203_0 HX204_0 HX206_0 HX208_0 hf49_0 hx203_0 hx204_0 hx205_0 hx206_0 hx207_0 hx208_0 hx209_0 hx49_0 hHeld ⊢
                          refine pure_ (i := 0) (N := some 91) (v := ?_) (a' := ?_) #[true, false, false, false, false, false, false, false, false, false, false, false, false, false, false, false, false, false, false, false, false, false, false, false, false, false, false, false, false, false] rfl rfl (any_of HT_.out (by kernel_rfl)) (fun _ _ _ h => h) (Or.inl ⟨by rfl, ?_⟩) ?_ ?_
                          rotate_left
                          ·intro w'
                           go_simp
                           with_reducible rfl
                          rotate_left
                          ·simp only [Act.put, List.setIfInBounds_toArray, List.set_cons_zero, List.set_cons_succ, i64_w, i32_w]
                           rfl
                          refine pure_ (i := 1) (N := some 92) (v := ?_) (a' := ?_) #[true, true, false, false, false, false, false, false, false, false, false, false, false, false, false, false, false, false, false, false, false, false, false, false, false, false, false, false, false, false] rfl rfl (any_of HT_.out (by kernel_rfl)) (fun _ _ _ h => h) (Or.inl ⟨by rfl, ?_⟩) ?_ ?_
                          rotate_left
                          ·intro w'
                           go_simp
                           with_reducible rfl
                          rotate_left
                          ·simp only [Act.put, List.setIfInBounds_toArray, List.set_cons_zero, List.set_cons_succ, i64_w, i32_w]
                           rfl
                          refine pure_ (i := 2) (N := some 93) (v := ?_) (a' := ?_) #[true, true, true, false, false, false, false, false, false, false, false, false, false, false, false, false, false, false, false, false, false, false, false, false, false, false, false, false, false, false] rfl rfl (any_of HT_.out (by kernel_rfl)) (fun _ _ _ h => h) (Or.inl ⟨by rfl, ?_⟩) ?_ ?_
                          rotate_left
                          ·intro w'
                           go_simp
                           with_reducible rfl
                          rotate_left
                          ·simp only [Act.put, List.setIfInBounds_toArray, List.set_cons_zero, List.set_cons_succ, i64_w, i32_w]
                           rfl
                          refine pure_ (i := 4) (N := some 95) (v := ?_) (a' := ?_) #[true, true, true, false, true, false, false, false, false, false, false, false, false, false, false, false, false, false, false, false, false, false, false, false, false, false, false, false, false, false] rfl rfl (any_of HT_.out (by kernel_rfl)) (fun _ _ _ h => h) (Or.inl ⟨by rfl, ?_⟩) ?_ ?_
                          rotate_left
                          ·intro w'
                           go_simp
                           with_reducible rfl
                          rotate_left
                          ·simp only [Act.put, List.setIfInBounds_toArray, List.set_cons_zero, List.set_cons_succ, i64_w, i32_w]
                           rfl
                          refine pure_ (i := 5) (N := some 96) (v := ?_) (a' := ?_) #[true, true, true, false, true, true, false, false, false, false, false, false, false, false, false, false, false, false, false, false, false, false, false, false, false, false, false, false, false, false] rfl rfl (any_of HT_.out (by kernel_rfl)) (fun _ _ _ h => h) (Or.inl ⟨by rfl, ?_⟩) ?_ ?_
                          rotate_left
                          ·intro w'
                           go_simp
                           with_reducible rfl
                          rotate_left
                          ·simp only [Act.put, List.setIfInBounds_toArray, List.set_cons_zero, List.set_cons_succ, i64_w, i32_w]
                           rfl
                          refine pure_ (i := 6) (N := some 97) (v := ?_) (a' := ?_) #[true, true, true, false, true, true, true, false, false, false, false, false, false, false, false, false, false, false, false, false, false, false, false, false, false, false, false, false, false, false] rfl rfl (any_of HT_.out (by kernel_rfl)) (fun _ _ _ h => h) (Or.inl ⟨by rfl, ?_⟩) ?_ ?_
                          rotate_left
                          ·intro w'
                           go_simp
                           with_reducible rfl
                          rotate_left
                          ·simp only [Act.put, List.setIfInBounds_toArray, List.set_cons_zero, List.set_cons_succ, i64_w, i32_w]
                           rfl
                          refine pure_ (i := 7) (N := some 98) (v := ?_) (a' := ?_) #[true, true, true, false, true, true, true, true, false, false, false, false, false, false, false, false, false, false, false, false, false, false, false, false, false, false, false, false, false, false] rfl rfl (any_of HT_.out (by kernel_rfl)) (fun _ _ _ h => h) (Or.inl ⟨by rfl, ?_⟩) ?_ ?_
                          rotate_left
                          ·intro w'
                           go_simp
                           with_reducible rfl
                          rotate_left
                          ·simp only [Act.put, List.setIfInBounds_toArray, List.set_cons_zero, List.set_cons_succ, i64_w, i32_w]
                           rfl
                          refine pure_ (i := 9) (N := some 100) (v := ?_) (a' := ?_) #[true, true, true, false, true, true, true, true, false, true, false, false, false, false, false, false, false, false, false, false, false, false, false, false, false, false, false, false, false, false] rfl rfl (any_of HT_.out (by kernel_rfl)) (fun _ _ _ h => h) (Or.inl ⟨by rfl, ?_⟩) ?_ ?_
                          rotate_left
                          ·intro w'
                           go_simp
                           with_reducible rfl
                          rotate_left
                          ·simp only [Act.put, List.setIfInBounds_toArray, List.set_cons_zero, List.set_cons_succ, i64_w, i32_w]
                           rfl
                          refine pure_ (i := 12) (N := some 103) (v := ?_) (a' := ?_) #[true, true, true, false, true, true, true, true, false, true, false, false, true, false, false, false, false, false, false, false, false, false, false, false, false, false, false, false, false, false] rfl rfl (any_of HT_.out (by kernel_rfl)) (fun _ _ _ h => h) (Or.inl ⟨by rfl, ?_⟩) ?_ ?_
                          rotate_left
                          ·intro w'
                           go_simp
                           with_reducible rfl
                          rotate_left
                          ·simp only [Act.put, List.setIfInBounds_toArray, List.set_cons_zero, List.set_cons_succ, i64_w, i32_w]
                           rfl
                          refine pure_ (i := 13) (N := some 104) (v := ?_) (a' := ?_) #[true, true, true, false, true, true, true, true, false, true, false, false, true, true, false, false, false, false, false, false, false, false, false, false, false, false, false, false, false, false] rfl rfl (any_of HT_.out (by kernel_rfl)) (fun _ _ _ h => h) (Or.inl ⟨by rfl, ?_⟩) ?_ ?_
                          rotate_left
                          ·intro w'
                           go_simp
                           with_reducible rfl
                          rotate_left
                          ·simp only [Act.put, List.setIfInBounds_toArray, List.set_cons_zero, List.set_cons_succ, i64_w, i32_w]
                           rfl
                          refine pure_ (i := 14) (N := some 105) (v := ?_) (a' := ?_) #[true, true, true, false, true, true, true, true, false, true, false, false, true, true, true, false, false, false, false, false, false, false, false, false, false, false, false, false, false, false] rfl rfl (any_of HT_.out (by kernel_rfl)) (fun _ _ _ h => h) (Or.inl ⟨by rfl, ?_⟩) ?_ ?_
                          rotate_left
                          ·intro w'
                           go_simp
                           with_reducible rfl
                          rotate_left
                          ·simp only [Act.put, List.setIfInBounds_toArray, List.set_cons_zero, List.set_cons_succ, i64_w, i32_w]
                           rfl
                          refine pure_ (i := 16) (N := some 107) (v := ?_) (a' := ?_) #[true, true, true, false, true, true, true, true, false, true, false, false, true, true, true, false, true, false, false, false, false, false, false, false, false, false, false, false, false, false] rfl rfl (any_of HT_.out (by kernel_rfl)) (fun _ _ _ h => h) (Or.inl ⟨by rfl, ?_⟩) ?_ ?_
                          rotate_left
                          ·intro w'
                           go_simp
                           with_reducible rfl
                          rotate_left
                          ·simp only [Act.put, List.setIfInBounds_toArray, List.set_cons_zero, List.set_cons_succ, i64_w, i32_w]
                           rfl
                          refine pure_ (i := 19) (N := some 110) (v := ?_) (a' := ?_) #[true, true, true, false, true, true, true, true, false, true, false, false, true, true, true, false, true, false, false, true, false, false, false, false, false, false, false, false, false, false] rfl rfl (any_of HT_.out (by kernel_rfl)) (fun _ _ _ h => h) (Or.inl ⟨by rfl, ?_⟩) ?_ ?_
                          rotate_left
                          ·intro w'
                           go_simp
                           with_reducible rfl
                          rotate_left
                          ·simp only [Act.put, List.setIfInBounds_toArray, List.set_cons_zero, List.set_cons_succ, i64_w, i32_w]
                           rfl
                          refine pure_ (i := 20) (N := some 111) (v := ?_) (a' := ?_) #[true, true, true, false, true, true, true, true, false, true, false, false, true, true, true, false, true, false, false, true, true, false, false, false, false, false, false, false, false, false] rfl rfl (any_of HT_.out (by kernel_rfl)) (fun _ _ _ h => h) (Or.inl ⟨by rfl, ?_⟩) ?_ ?_
                          rotate_left
                          ·intro w'
                           go_simp
                           with_reducible rfl
                          rotate_left
                          ·simp only [Act.put, List.setIfInBounds_toArray, List.set_cons_zero, List.set_cons_succ, i64_w, i32_w]
                           rfl
                          refine pure_ (i := 21) (N := some 112) (v := ?_) (a' := ?_) #[true, true, true, false, true, true, true, true, false, true, false, false, true, true, true, false, true, false, false, true, true, true, false, false, false, false, false, false, false, false] rfl rfl (any_of HT_.out (by kernel_rfl)) (fun _ _ _ h => h) (Or.inl ⟨by rfl, ?_⟩) ?_ ?_
                          rotate_left
                          ·intro w'
                           go_simp
                           with_reducible rfl
                          rotate_left
                          ·simp only [Act.put, List.setIfInBounds_toArray, List.set_cons_zero, List.set_cons_succ, i64_w, i32_w]
                           rfl
                          refine pure_ (i := 23) (N := some 114) (v := ?_) (a' := ?_) #[true, true, true, false, true, true, true, true, false, true, false, false, true, true, true, false, true, false, false, true, true, true, false, true, false, false, false, false, false, false] rfl rfl (any_of HT_.out (by kernel_rfl)) (fun _ _ _ h => h) (Or.inl ⟨by rfl, ?_⟩) ?_ ?_
                          rotate_left
                          ·intro w'
                           go_simp
                           with_reducible rfl
                          rotate_left
                          ·simp only [Act.put, List.setIfInBounds_toArray, List.set_cons_zero, List.set_cons_succ, i64_w, i32_w]
                           rfl
                          refine take_ (i := 3) (N := some 94) (v := ?_) (a' := ?_) #[true, true, true, true, true, true, true, true, false, true, false, false, true, true, true, false, true, false, false, true, true, true, false, true, false, false, false, false, false, false] rfl rfl (take_ofW HT_.out HW_.out (by kernel_rfl)) (fun _ _ _ h => h) (Or.inl ⟨by rfl, ?_⟩) hHeld ?_ ?_
                          rotate_left
                          ·rintro w' ⟨s0, s1, s2, s3, s4, s5, s6⟩
                           go_simp
                           with_reducible rfl
                          rotate_left
                          ·simp only [Act.put, List.setIfInBounds_toArray, List.set_cons_zero, List.set_cons_succ, i64_w, i32_w]
                           rfl
                          refine take_ (i := 8) (N := some 99) (v := ?_) (a' := ?_) #[true, true, true, true, true, true, true, true, true, true, false, false, true, true, true, false, true, false, false, true, true, true, false, true, false, false, false, false, false, false] rfl rfl (take_ofW HT_.out HW_.out (by kernel_rfl)) (fun _ _ _ h => h) (Or.inl ⟨by rfl, ?_⟩) hHeld ?_ ?_
                          rotate_left
                          ·rintro w' ⟨s0, s1, s2, s3, s4, s5, s6⟩
                           go_simp
                           with_reducible rfl
                          rotate_left
                          ·simp only [Act.put, List.setIfInBounds_toArray, List.set_cons_zero, List.set_cons_succ, i64_w, i32_w]
                           rfl
                          refine pure_ (i := 10) (N := some 101) (v := ?_) (a' := ?_) #[true, true, true, true, true, true, true, true, true, true, true, false, true, true, true, false, true, false, false, true, true, true, false, true, false, false, false, false, false, false] rfl rfl (any_of HT_.out (by kernel_rfl)) (fun _ _ _ h => h) (Or.inl ⟨by rfl, ?_⟩) ?_ ?_
                          rotate_left
                          ·intro w'
                           go_simp
                           with_reducible rfl
                          rotate_left
                          ·simp only [Act.put, List.setIfInBounds_toArray, List.set_cons_zero, List.set_cons_succ, i64_w, i32_w]
                           rfl
                          refine take_ (i := 11) (N := some 102) (v := ?_) (a' := ?_) #[true, true, true, true, true, true, true, true, true, true, true, true, true, true, true, false, true, false, false, true, true, true, false, true, false, false, false, false, false, false] rfl rfl (take_ofW HT_.out HW_.out (by kernel_rfl)) (fun _ _ _ h => h) (Or.inl ⟨by rfl, ?_⟩) hHeld ?_ ?_
                          rotate_left
                          ·rintro w' ⟨s0, s1, s2, s3, s4, s5, s6⟩
                           go_simp
                           with_reducible rfl
                          rotate_left
                          ·simp only [Act.put, List.setIfInBounds_toArray, List.set_cons_zero, List.set_cons_succ, i64_w, i32_w]
                           rfl
                          refine take_ (i := 15) (N := some 106) (v := ?_) (a' := ?_) #[true, true, true, true, true, true, true, true, true, true, true, true, true, true, true, true, true, false, false, true, true, true, false, true, false, false, false, false, false, false] rfl rfl (take_ofW HT_.out HW_.out (by kernel_rfl)) (fun _ _ _ h => h) (Or.inl ⟨by rfl, ?_⟩) hHeld ?_ ?_
                          rotate_left
                          ·rintro w' ⟨s0, s1, s2, s3, s4, s5, s6⟩
                           go_simp
                           with_reducible rfl
                          rotate_left
                          ·simp only [Act.put, List.setIfInBounds_toArray, List.set_cons_zero, List.set_cons_succ, i64_w, i32_w]
                           rfl
                          refine pure_ (i := 17) (N := some 108) (v := ?_) (a' := ?_) #[true, true, true, true, true, true, true, true, true, true, true, true, true, true, true, true, true, true, false, true, true, true, false, true, false, false, false, false, false, false] rfl rfl (any_of HT_.out (by kernel_rfl)) (fun _ _ _ h => h) (Or.inl ⟨by rfl, ?_⟩) ?_ ?_
                          rotate_left
                          ·intro w'
                           go_simp
                           with_reducible rfl
                          rotate_left
                          ·simp only [Act.put, List.setIfInBounds_toArray, List.set_cons_zero, List.set_cons_succ, i64_w, i32_w]
                           rfl
                          refine take_ (i := 18) (N := some 109) (v := ?_) (a' := ?_) #[true, true, true, true, true, true, true, true, true, true, true, true, true, true, true, true, true, true, true, true, true, true, false, true, false, false, false, false, false, false] rfl rfl (take_ofW HT_.out HW_.out (by kernel_rfl)) (fun _ _ _ h => h) (Or.inl ⟨by rfl, ?_⟩) hHeld ?_ ?_
                          rotate_left
                          ·rintro w' ⟨s0, s1, s2, s3, s4, s5, s6⟩
                           go_simp
                           with_reducible rfl
                          rotate_left
                          ·simp only [Act.put, List.setIfInBounds_toArray, List.set_cons_zero, List.set_cons_succ, i64_w, i32_w]
                           rfl
                          refine take_ (i := 22) (N := some 113) (v := ?_) (a' := ?_) #[true, true, true, true, true, true, true, true, true, true, true, true, true, true, true, true, true, true, true, true, true, true, true, true, false, false, false, false, false, false] rfl rfl (take_ofW HT_.out HW_.out (by kernel_rfl)) (fun _ _ _ h => h) (Or.inl ⟨by rfl, ?_⟩) hHeld ?_ ?_
                          rotate_left
                          ·rintro w' ⟨s0, s1, s2, s3, s4, s5, s6⟩
                           go_simp
                           with_reducible rfl
                          rotate_left
                          ·simp only [Act.put, List.setIfInBounds_toArray, List.set_cons_zero, List.set_cons_succ, i64_w, i32_w]
                           rfl
                          refine pure_ (i := 24) (N := some 115) (v := ?_) (a' := ?_) #[true, true, true, true, true, true, true, true, true, true, true, true, true, true, true, true, true, true, true, true, true, true, true, true, true, false, false, false, false, false] rfl rfl (any_of HT_.out (by kernel_rfl)) (fun _ _ _ h => h) (Or.inl ⟨by rfl, ?_⟩) ?_ ?_
                          rotate_left
                          ·intro w'
                           go_simp
                           with_reducible rfl
                          rotate_left
                          ·simp only [Act.put, List.setIfInBounds_toArray, List.set_cons_zero, List.set_cons_succ, i64_w, i32_w]
                           rfl
                          refine take_ (i := 25) (N := some 116) (v := ?_) (a' := ?_) #[true, true, true, true, true, true, true, true, true, true, true, true, true, true, true, true, true, true, true, true, true, true, true, true, true, true, false, false, false, false] rfl rfl (take_ofW HT_.out HW_.out (by kernel_rfl)) (fun _ _ _ h => h) (Or.inl ⟨by rfl, ?_⟩) hHeld ?_ ?_
                          rotate_left
                          ·rintro w' ⟨s0, s1, s2, s3, s4, s5, s6⟩
                           go_simp
                           with_reducible rfl
                          rotate_left
                          ·simp only [Act.put, List.setIfInBounds_toArray, List.set_cons_zero, List.set_cons_succ, i64_w, i32_w]
                           rfl
                          refine pure_ (i := 26) (N := some 117) (v := ?_) (a' := ?_) #[true, true, true, true, true, true, true, true, true, true, true, true, true, true, true, true, true, true, true, true, true, true, true, true, true, true, true, false, false, false] rfl rfl (any_of HT_.out (by kernel_rfl)) (fun _ _ _ h => h) (Or.inl ⟨by rfl, ?_⟩) ?_ ?_
                          rotate_left
                          ·intro w'
                           go_simp
                           with_reducible rfl
                          rotate_left
                          ·simp only [Act.put, List.setIfInBounds_toArray, List.set_cons_zero, List.set_cons_succ, i64_w, i32_w]
                           rfl
                          refine pure_ (i := 27) (N := some 118) (v := ?_) (a' := ?_) #[true, true, true, true, true, true, true, true, true, true, true, true, true, true, true, true, true, true, true, true, true, true, true, true, true, true, true, true, false, false] rfl rfl (any_of HT_.out (by kernel_rfl)) (fun _ _ _ h => h) (Or.inl ⟨by rfl, ?_⟩) ?_ ?_
                          rotate_left
                          ·intro w'
                           go_simp
                           with_reducible rfl
                          rotate_left
                          ·simp only [Act.put, List.setIfInBounds_toArray, List.set_cons_zero, List.set_cons_succ, i64_w, i32_w]
                           rfl
                          refine pure_ (i := 28) (N := some 119) (v := ?_) (a' := ?_) #[true, true, true, true, true, true, true, true, true, true, true, true, true, true, true, true, true, true, true, true, true, true, true, true, true, true, true, true, true, false] rfl rfl (any_of HT_.out (by kernel_rfl)) (fun _ _ _ h => h) (Or.inl ⟨by rfl, ?_⟩) ?_ ?_
                          rotate_left
                          ·intro w'
                           go_simp
                           with_reducible rfl
                          rotate_left
                          ·simp only [Act.put, List.setIfInBounds_toArray, List.set_cons_zero, List.set_cons_succ, i64_w, i32_w]
                           rfl
                          refine last_ (i := 29) (N := none) #[true, true, true, true, true, true, true, true, true, true, true, true, true, true, true, true, true, true, true, true, true, true, true, true, true, true, true, true, true, true] rfl rfl (one_of HT_.out (by kernel_rfl)) (by decide) (fun K hK => ?_)
                          refine skip_ (w1 := ?_) (by rfl) rfl ?_ ?_
                          rotate_left
                          ·go_simp
                           rfl
                          refine hK.out _ _ ?_
                          clear hK K
                          refine done_ (done_of HT_.out (by kernel_rfl)) ?_
                          try go_wp2
                          (try simp only [← hl6_5])
                          go_roundg k5
                          case measure => have := HK1.out; have := HK2.out; have := HK3.out; have := HK4.out; have := HK5.out; omega
                          case rel => exact ⟨(y212), (wrap64 (x70_5 + 1)), (by first | rfl | (simp; done) | (simp [*]; done)), H', ⟨by have := HK1.out; have := HK2.out; have := HK3.out; have := HK4.out; have := HK5.out; omega⟩, ⟨by (try simp only [hl6_3]); (try simp only [hl6_4]); (try simp only [hl6_5]); (with_reducible repeat (first | apply Kd.S_alloc | apply Kd.S_drewN | apply Kd.S_drew)); exact HQ51.out⟩, ⟨by repeat (first | (with_reducible first | exact HB.out | apply below_alloc | apply pw_below_drewN | apply below_drew1 | refine below_set ?_ GB49.out) | exact HB.out)⟩⟩
                         ·rw [if_neg c47] at H
                          exact absurd H (by simp)
                        ·rw [if_neg c46] at H
                         have c46b0 : decide ((rd (rd_L6 x6_5 x60_3) x70_5) < 1000000) = false := decide_eq_false c46
                         clear c46
                         have H' := Aside0.mk H
                         clear H
                         have p199 : 0 ≤ (x65_4 : Int) := of_decide_eq_true (by with_reducible assumption)
                         have q199 : x65_4 < (x6_5.length : Int) := of_decide_eq_true (by with_reducible assumption)
                         obtain ⟨ad199, A199_0, c199_0, e199, hx199_0, hl199_0, hi199_0⟩ := at_L6 (Kd.S_reads' HO_6.out).2.2 x65_4 p199 q199
                         cases e199
                         obtain ⟨ce199, hce199, hMe199, hcc199⟩ := Kd.S_get HO_6.out [] x65_4 p199 (by first | exact q199 | exact of_decide_eq_true (by with_reducible assumption) | (have e_ := (Kd.S_reads' HO_6.out).1; omega))
                         obtain ⟨ve199_0, rfl, ge199_0⟩ := hMe199
                         have hv199_0 := hcc199 0 _ rfl
                         rw [Nat.add_zero, show ((Kd.slice 2 (Kd.int .i64))).sz = 1 from rfl, Nat.mul_one] at hv199_0
                         replace hv199_0 := Option.some.inj (hv199_0.symm.trans hx199_0)
                         rw [hv199_0] at ge199_0
                         have HL199_0 := Aside0.mk (show Kd.R (Kd.int .i64) 2 _ _ _ _ (rd_L6 x6_5 x65_4) from ge199_0)
                         clear hv199_0 ge199_0
                         have HX199_0 := Aside0.mk hx199_0
                         clear hcc199 hce199
                         have HR199_0 := Aside0.mk hi199_0
                         have HC199_0 := Aside0.mk hl199_0
                         clear hi199_0 hl199_0
                         replace p199 := eq_true p199
                         replace q199 := eq_true q199
                         have p200 : 0 ≤ (x60_3 : Int) := of_decide_eq_true (by with_reducible assumption)
                         have q200 : x60_3 < ((rd_L6 x6_5 x65_4).length : Int) := of_decide_eq_true (by with_reducible assumption)
                         obtain ⟨ad200, e200, hx200_0⟩ := Kd.at_int (by repeat (first | (with_reducible exact HR199_0.out) | (with_reducible refine Kd.C_alloc ?_ _) | (with_reducible refine Kd.C_drewN ?_ _) | (with_reducible refine Kd.C_drew ?_) | exact HR199_0.out)) x60_3 p200 q200
                         cases e200
                         replace p200 := eq_true p200
                         replace q200 := eq_true q200
                         have p201 : 0 ≤ (x60_3 : Int) := of_decide_eq_true (by with_reducible assumption)
                         have q201 : x60_3 < (x6_5.length : Int) := of_decide_eq_true (by with_reducible assumption)
                         obtain ⟨ad201, A201_0, c201_0, e201, hx201_0, hl201_0, hi201_0⟩ := at_L6 (Kd.S_reads' HO_6.out).2.2 x60_3 p201 q201
                         obtain rfl : ad199 = ad201 := (by injection e201)
                         obtain ⟨ce201, hce201, hMe201, hcc201⟩ := Kd.S_get HO_6.out [] x60_3 p201 (by first | exact q201 | exact of_decide_eq_true (by with_reducible assumption) | (have e_ := (Kd.S_reads' HO_6.out).1; omega))
                         obtain ⟨ve201_0, rfl, ge201_0⟩ := hMe201
                         have hv201_0 := hcc201 0 _ rfl
                         rw [Nat.add_zero, show ((Kd.slice 2 (Kd.int .i64))).sz = 1 from rfl, Nat.mul_one] at hv201_0
                         replace hv201_0 := Option.some.inj (hv201_0.symm.trans hx201_0)
                         rw [hv201_0] at ge201_0
                         have HL201_0 := Aside0.mk (show Kd.R (Kd.int .i64) 2 _ _ _ _ (rd_L6 x6_5 x60_3) from ge201_0)
                         clear hv201_0 ge201_0
                         have HX201_0 := Aside0.mk hx201_0
                         clear hcc201 hce201
                         have HR201_0 := Aside0.mk hi201_0
                         have HC201_0 := Aside0.mk hl201_0
                         clear hi201_0 hl201_0
                         replace p201 := eq_true p201
                         replace q201 := eq_true q201
                         have p202 : 0 ≤ (x70_5 : Int) := of_decide_eq_true (by with_reducible assumption)
                         have q202 : x70_5 < ((rd_L6 x6_5 x60_3).length : Int) := of_decide_eq_true (by with_reducible assumption)
                         obtain ⟨ad202, e202, hx202_0⟩ := Kd.at_int (by repeat (first | (with_reducible exact HR201_0.out) | (with_reducible refine Kd.C_alloc ?_ _) | (with_reducible refine Kd.C_drewN ?_ _) | (with_reducible refine Kd.C_drew ?_) | exact HR201_0.out)) x70_5 p202 q202
                         cases e202
                         replace p202 := eq_true p202
                         replace q202 := eq_true q202
                         go_wp2
                         (try simp only [← hl6_5])
                         go_roundg k5
                         case measure => have := HK1.out; have := HK2.out; have := HK3.out; have := HK4.out; have := HK5.out; omega
                         case rel => exact ⟨(x6_5), (wrap64 (x70_5 + 1)), (by first | rfl | (simp; done) | (simp [*]; done)), H', ⟨by have := HK1.out; have := HK2.out; have := HK3.out; have := HK4.out; have := HK5.out; omega⟩, ⟨by (try simp only [hl6_3]); (try simp only [hl6_4]); (try simp only [hl6_5]); (with_reducible repeat (first | apply Kd.S_alloc | apply Kd.S_drewN | apply Kd.S_drew)); exact HO_6.out⟩, ⟨by repeat (first | (with_reducible first | exact HB.out | apply below_alloc | apply pw_below_drewN | apply below_drew1) | exact HB.out)⟩⟩
                       ·rw [if_neg c45] at H
                        exact absurd H (by simp)
                      ·rw [if_neg c44] at H
                       exact absurd H (by simp)
                     ·rw [if_neg c43] at H
                      exact absurd H (by simp)
                    ·rw [if_neg c42] at H
                     have c42b0 : decide ((rd (rd_L6 x6_5 x65_4) x60_3) < 1000000) = false := decide_eq_false c42
                     clear c42
                     have H' := Aside0.mk H
                     clear H
                     have p199 : 0 ≤ (x65_4 : Int) := of_decide_eq_true (by with_reducible assumption)
                     have q199 : x65_4 < (x6_5.length : Int) := of_decide_eq_true (by with_reducible assumption)
                     obtain ⟨ad199, A199_0, c199_0, e199, hx199_0, hl199_0, hi199_0⟩ := at_L6 (Kd.S_reads' HO_6.out).2.2 x65_4 p199 q199
                     cases e199
                     obtain ⟨ce199, hce199, hMe199, hcc199⟩ := Kd.S_get HO_6.out [] x65_4 p199 (by first | exact q199 | exact of_decide_eq_true (by with_reducible assumption) | (have e_ := (Kd.S_reads' HO_6.out).1; omega))
                     obtain ⟨ve199_0, rfl, ge199_0⟩ := hMe199
                     have hv199_0 := hcc199 0 _ rfl
                     rw [Nat.add_zero, show ((Kd.slice 2 (Kd.int .i64))).sz = 1 from rfl, Nat.mul_one] at hv199_0
                     replace hv199_0 := Option.some.inj (hv199_0.symm.trans hx199_0)
                     rw [hv199_0] at ge199_0
                     have HL199_0 := Aside0.mk (show Kd.R (Kd.int .i64) 2 _ _ _ _ (rd_L6 x6_5 x65_4) from ge199_0)
                     clear hv199_0 ge199_0
                     have HX199_0 := Aside0.mk hx199_0
                     clear hcc199 hce199
                     have HR199_0 := Aside0.mk hi199_0
                     have HC199_0 := Aside0.mk hl199_0
                     clear hi199_0 hl199_0
                     replace p199 := eq_true p199
                     replace q199 := eq_true q199
                     have p200 : 0 ≤ (x60_3 : Int) := of_decide_eq_true (by with_reducible assumption)
                     have q200 : x60_3 < ((rd_L6 x6_5 x65_4).length : Int) := of_decide_eq_true (by with_reducible assumption)
                     obtain ⟨ad200, e200, hx200_0⟩ := Kd.at_int (by repeat (first | (with_reducible exact HR199_0.out) | (with_reducible refine Kd.C_alloc ?_ _) | (with_reducible refine Kd.C_drewN ?_ _) | (with_reducible refine Kd.C_drew ?_) | exact HR199_0.out)) x60_3 p200 q200
                     cases e200
                     replace p200 := eq_true p200
                     replace q200 := eq_true q200
                     go_wp2
                     (try simp only [← hl6_5])
                     go_roundg k5
                     case measure => have := HK1.out; have := HK2.out; have := HK3.out; have := HK4.out; have := HK5.out; omega
                     case rel => exact ⟨(x6_5), (wrap64 (x70_5 + 1)), (by first | rfl | (simp; done) | (simp [*]; done)), H', ⟨by have := HK1.out; have := HK2.out; have := HK3.out; have := HK4.out; have := HK5.out; omega⟩, ⟨by (try simp only [hl6_3]); (try simp only [hl6_4]); (try simp only [hl6_5]); (with_reducible repeat (first | apply Kd.S_alloc | apply Kd.S_drewN | apply Kd.S_drew)); exact HO_6.out⟩, ⟨by repeat (first | (with_reducible first | exact HB.out | apply below_alloc | apply pw_below_drewN | apply below_drew1) | exact HB.out)⟩⟩
                   ·rw [if_neg c41] at H
                    exact absurd H (by simp)
                  ·rw [if_neg c40] at H
                   exact absurd H (by simp)
                 ·rw [if_neg c39] at H
                  exact absurd H (by simp)
                ·rw [if_neg c38] at H
                 exact absurd H (by simp)
               ·rw [if_neg c37] at H
                have c37b0 : decide (x70_5 < (x6_4.length : Int)) = false := decide_eq_false c37
                have c37b0l := c37b0; (try simp only [hl6_5] at c37b0l)
                clear c37
                have H' := Aside0.mk H
                clear H
                go_wp2
                (try simp only [← hl6_4, ← hl6_5])
                go_roundg k5
                case measure => have := HK1.out; have := HK2.out; have := HK3.out; have := HK4.out; have := HK5.out; omega
                case rel => exact ⟨(x6_5), (wrap64 (x65_4 + 1)), (by first | rfl | (simp; done) | (simp [*]; done)), H', ⟨by have := HK1.out; have := HK2.out; have := HK3.out; have := HK4.out; have := HK5.out; omega⟩, ⟨by (try simp only [hl6_3]); (try simp only [hl6_4]); (try simp only [hl6_5]); (with_reducible repeat (first | apply Kd.S_alloc | apply Kd.S_drewN | apply Kd.S_drew)); exact HO_6.out⟩, ⟨by repeat (first | (with_reducible first | exact HB.out | apply below_alloc | apply pw_below_drewN | apply below_drew1) | exact HB.out)⟩⟩
            ·rw [if_neg c36] at H
             have c36b0 : decide (x65_4 < (x6_3.length : Int)) = false := decide_eq_false c36
             have c36b0l := c36b0; (try simp only [hl6_4] at c36b0l)
             clear c36
             have H' := Aside0.mk H
             clear H
             go_wp2
             (try simp only [← hl6_3, ← hl6_4])
             go_roundg k4
             case measure => have := HK1.out; have := HK2.out; have := HK3.out; have := HK4.out; omega
             case rel => exact ⟨(x6_4), (wrap64 (x60_3 + 1)), (by first | rfl | (simp; done) | (simp [*]; done)), H', ⟨by have := HK1.out; have := HK2.out; have := HK3.out; have := HK4.out; omega⟩, ⟨by (try simp only [hl6_3]); (try simp only [hl6_4]); (with_reducible repeat (first | apply Kd.S_alloc | apply Kd.S_drewN | apply Kd.S_drew)); exact HO_6.out⟩, ⟨by repeat (first | (with_reducible first | exact HB.out | apply below_alloc | apply pw_below_drewN | apply below_drew1) | exact HB.out)⟩⟩
         ·rw [if_neg c35] at H
          have c35b0 : decide (x60_3 < (x6_2.length : Int)) = false := decide_eq_false c35
          have c35b0l := c35b0; (try simp only [hl6_3] at c35b0l)
          clear c35
          have H' := Aside0.mk H
          clear H
          go_wp2
          go_loopg [125] k3 (fun kq v125 w' => ∃ (x125_4 : Int), v125 = .int .i64 x125_4 ∧ Aside0 (impl_tightest.l5 kq x6_3 (x6_3.length : Int) x125_4 = some (r1, r2)) ∧ Aside0 (kq ≤ k3) ∧ Aside0 (Kd.S (Kd.slice 2 (Kd.int .i64)) 28 w' w.heap.size (fun _ => True) (.slice Ao34 x6_3.length co34) x6_3) ∧ Aside0 (Below w.heap.size w w'))
          case atStart => exact ⟨(0), (by first | rfl | (simp; done) | (simp [*]; done)), H', ⟨Nat.le_refl _⟩, ⟨by (try simp only [hl6_3]); (with_reducible repeat (first | apply Kd.S_alloc | apply Kd.S_drewN | apply Kd.S_drew)); exact HO_6.out⟩, ⟨by repeat (first | (with_reducible first | exact HB.out | apply below_alloc | apply pw_below_drewN | apply below_drew1) | exact HB.out)⟩⟩
          case round =>
           clear H'
           try clear c1
           try clear p1
           try clear q1
           try clear hx1
           try clear c2
           try clear p2
           try clear q2
           try clear hx2
           try clear c3
           try clear c4
           try clear p4
           try clear q4
           try clear hx4
           try clear hf4
           try clear c5
           try clear q5
           try clear p6
           try clear c19
           try clear p19
           try clear q19
           try clear hx19
           try clear c20
           try clear p20
           try clear q20
           try clear hx20
           try clear c35
           try clear c35b0
           try clear c36
           try clear c36b0
           try clear c37
           try clear c37b0
           try clear c38
           try clear c39
           try clear c40
           try clear c41
           try clear c42
           try clear c42b0
           try clear c43
           try clear c44
           try clear c45
           try clear c46
           try clear c46b0
           try clear c47
           try clear p49
           try clear q49
           try clear hx49
           try clear hf49
           try clear c51
           try clear q51
           try clear hx199_0
           try clear hx200_0
           try clear hx201_0
           try clear hx202_0
           try clear hx203_0
           try clear hx204_0
           try clear hx205_0
           try clear hx206_0
           try clear hx207_0
           try clear hx208_0
           try clear hx209_0
           try clear hx49_0
           try clear p199
           try clear p200
           try clear p201
           try clear p202
           try clear p203
           try clear p204
           try clear p205
           try clear p206
           try clear p207
           try clear p208
           try clear p209
           try clear p49
           try clear q199
           try clear q200
           try clear q201
           try clear q202
           try clear q203
           try clear q204
           try clear q205
           try clear q206
           try clear q207
           try clear q208
           try clear q209
           try clear q49
           obtain ⟨x125_4, rfl, HA, HK4, HO_6, HB⟩ := hrel
           cases gk with
           | zero => exact absurd HA.out (by simp [impl_tightest.l5])
           | succ k4 =>
            have H := HA.out
            clear HA
            simp only [impl_tightest.l5] at H
            by_cases c53 : x125_4 < (x6_3.length : Int)
            ·rw [if_pos c53] at H
             have c53b0 : decide (x125_4 < (x6_3.length : Int)) = true := decide_eq_true c53
             clear c53
             by_cases c54 : 0 ≤ x125_4
             ·rw [if_pos c54] at H
              have c54b0 : decide (0 ≤ x125_4) = true := decide_eq_true c54
              clear c54
              by_cases c55 : x125_4 < (x6_3.length : Int)
              ·rw [if_pos c55] at H
               have c55b0 : decide (x125_4 < (x6_3.length : Int)) = true := decide_eq_true c55
               clear c55
               by_cases c56 : x125_4 < ((rd_L6 x6_3 x125_4).length : Int)
               ·rw [if_pos c56] at H
                have c56b0 : decide (x125_4 < ((rd_L6 x6_3 x125_4).length : Int)) = true := decide_eq_true c56
                clear c56
                by_cases c57 : (rd (rd_L6 x6_3 x125_4) x125_4) < 0
                ·rw [if_pos c57] at H
                 have c57b0 : decide ((rd (rd_L6 x6_3 x125_4) x125_4) < 0) = true := decide_eq_true c57
                 clear c57
                 simp only [Option.some.injEq, Prod.mk.injEq] at H
                 obtain ⟨rfl, rfl⟩ := H
                 have p213 : 0 ≤ (x125_4 : Int) := of_decide_eq_true (by with_reducible assumption)
                 have q213 : x125_4 < (x6_3.length : Int) := of_decide_eq_true (by with_reducible assumption)
                 obtain ⟨ad213, A213_0, c213_0, e213, hx213_0, hl213_0, hi213_0⟩ := at_L6 (Kd.S_reads' HO_6.out).2.2 x125_4 p213 q213
                 cases e213
                 obtain ⟨ce213, hce213, hMe213, hcc213⟩ := Kd.S_get HO_6.out [] x125_4 p213 (by first | exact q213 | exact of_decide_eq_true (by with_reducible assumption) | (have e_ := (Kd.S_reads' HO_6.out).1; omega))
                 obtain ⟨ve213_0, rfl, ge213_0⟩ := hMe213
                 have hv213_0 := hcc213 0 _ rfl
                 rw [Nat.add_zero, show ((Kd.slice 2 (Kd.int .i64))).sz = 1 from rfl, Nat.mul_one] at hv213_0
                 replace hv213_0 := Option.some.inj (hv213_0.symm.trans hx213_0)
                 rw [hv213_0] at ge213_0
                 have HL213_0 := Aside0.mk (show Kd.R (Kd.int .i64) 2 _ _ _ _ (rd_L6 x6_3 x125_4) from ge213_0)
                 clear hv213_0 ge213_0
                 have HX213_0 := Aside0.mk hx213_0
                 clear hcc213 hce213
                 have HR213_0 := Aside0.mk hi213_0
                 have HC213_0 := Aside0.mk hl213_0
                 clear hi213_0 hl213_0
                 replace p213 := eq_true p213
                 replace q213 := eq_true q213
                 have p214 : 0 ≤ (x125_4 : Int) := of_decide_eq_true (by with_reducible assumption)
                 have q214 : x125_4 < ((rd_L6 x6_3 x125_4).length : Int) := of_decide_eq_true (by with_reducible assumption)
                 obtain ⟨ad214, e214, hx214_0⟩ := Kd.at_int (by repeat (first | (with_reducible exact HR213_0.out) | (with_reducible refine Kd.C_alloc ?_ _) | (with_reducible refine Kd.C_drewN ?_ _) | (with_reducible refine Kd.C_drew ?_) | exact HR213_0.out)) x125_4 p214 q214
                 cases e214
                 replace p214 := eq_true p214
                 replace q214 := eq_true q214
                 go_wp2
                 go_ret2
                 exact ⟨_, by first | rfl | (simp [errW_none, errW_some] <;> rfl) | (simp [*, errW_none, errW_some] <;> rfl), by first | exact Kd.S_nil _ _ _ _ _ | exact Kd.N_nil _ _ _ _ _ | exact Kd.V_nil _ _ _ _ _ | exact Kd.Q_nil _ _ _ _ _ | exact Kd.R_nil _ _ _ _ _, by repeat (first | (with_reducible first | exact HB.out | apply below_alloc | apply pw_below_drewN | apply below_drew1) | exact HB.out)⟩
                ·rw [if_neg c57] at H
                 have c57b0 : decide ((rd (rd_L6 x6_3 x125_4) x125_4) < 0) = false := decide_eq_false c57
                 clear c57
                 have H' := Aside0.mk H
                 clear H
                 have p213 : 0 ≤ (x125_4 : Int) := of_decide_eq_true (by with_reducible assumption)
                 have q213 : x125_4 < (x6_3.length : Int) := of_decide_eq_true (by with_reducible assumption)
                 obtain ⟨ad213, A213_0, c213_0, e213, hx213_0, hl213_0, hi213_0⟩ := at_L6 (Kd.S_reads' HO_6.out).2.2 x125_4 p213 q213
                 cases e213
                 obtain ⟨ce213, hce213, hMe213, hcc213⟩ := Kd.S_get HO_6.out [] x125_4 p213 (by first | exact q213 | exact of_decide_eq_true (by with_reducible assumption) | (have e_ := (Kd.S_reads' HO_6.out).1; omega))
                 obtain ⟨ve213_0, rfl, ge213_0⟩ := hMe213
                 have hv213_0 := hcc213 0 _ rfl
                 rw [Nat.add_zero, show ((Kd.slice 2 (Kd.int .i64))).sz = 1 from rfl, Nat.mul_one] at hv213_0
                 replace hv213_0 := Option.some.inj (hv213_0.symm.trans hx213_0)
                 rw [hv213_0] at ge213_0
                 have HL213_0 := Aside0.mk (show Kd.R (Kd.int .i64) 2 _ _ _ _ (rd_L6 x6_3 x125_4) from ge213_0)
                 clear hv213_0 ge213_0
                 have HX213_0 := Aside0.mk hx213_0
                 clear hcc213 hce213
                 have HR213_0 := Aside0.mk hi213_0
                 have HC213_0 := Aside0.mk hl213_0
                 clear hi213_0 hl213_0
                 replace p213 := eq_true p213
                 replace q213 := eq_true q213
                 have p214 : 0 ≤ (x125_4 : Int) := of_decide_eq_true (by with_reducible assumption)
                 have q214 : x125_4 < ((rd_L6 x6_3 x125_4).length : Int) := of_decide_eq_true (by with_reducible assumption)
                 obtain ⟨ad214, e214, hx214_0⟩ := Kd.at_int (by repeat (first | (with_reducible exact HR213_0.out) | (with_reducible refine Kd.C_alloc ?_ _) | (with_reducible refine Kd.C_drewN ?_ _) | (with_reducible refine Kd.C_drew ?_) | exact HR213_0.out)) x125_4 p214 q214
                 cases e214
                 replace p214 := eq_true p214
                 replace q214 := eq_true q214
                 go_wp2
                 go_roundg k4
                 case measure => have := HK1.out; have := HK2.out; have := HK3.out; have := HK4.out; omega
                 case rel => exact ⟨(wrap64 (x125_4 + 1)), (by first | rfl | (simp; done) | (simp [*]; done)), H', ⟨by have := HK1.out; have := HK2.out; have := HK3.out; have := HK4.out; omega⟩, ⟨by (try simp only [hl6_3]); (with_reducible repeat (first | apply Kd.S_alloc | apply Kd.S_drewN | apply Kd.S_drew)); exact HO_6.out⟩, ⟨by repeat (first | (with_reducible first | exact HB.out | apply below_alloc | apply pw_below_drewN | apply below_drew1) | exact HB.out)⟩⟩
               ·rw [if_neg c56] at H
                exact absurd H (by simp)
              ·rw [if_neg c55] at H
               exact absurd H (by simp)
             ·rw [if_neg c54] at H
              exact absurd H (by simp)
            ·rw [if_neg c53] at H
             have c53b0 : decide (x125_4 < (x6_3.length : Int)) = false := decide_eq_false c53
             clear c53
             simp only [Option.some.injEq, Prod.mk.injEq] at H
             obtain ⟨rfl, rfl⟩ := H
             go_wp2
             go_ret2
             exact ⟨_, by first | rfl | (simp [errW_none, errW_some] <;> rfl) | (simp [*, errW_none, errW_some] <;> rfl), by (with_reducible repeat (first | apply Kd.S_alloc | apply Kd.S_drewN | apply Kd.S_drew)); exact HO_6.out, by repeat (first | (with_reducible first | exact HB.out | apply below_alloc | apply pw_below_drewN | apply below_drew1) | exact HB.out)⟩

end Go.Proofs.YtbgokpobaemibaaDoor.Pa

namespace Go.Proofs.YtbgokpobaemibaaDoor.Pa
open Go.RowKit Go.Proofs.YtbgokpobaemibaaDoorW.PrintWords Go.Proofs.YtbgokpobaemibaaDoorW.PrintLast Go.Proofs.YtbgokpobaemibaaDoorW.PrintMore
attribute [local go_sem] max2_int min2_int max_two min_two max_three min_three max_four min_four   -- for this text's walks alone
set_option linter.unusedVariables false
set_option linter.unusedSimpArgs false

/-! ### impl_within: function 29 -/
def impl_within.f (a0 : Int) (a1 : Int) (a2 : Int) : Option (Bool) := if a0 ≥ a1 then (some (decide (a0 ≤ a2))) else (some false)
set_option maxHeartbeats 8000000 in
set_option maxRecDepth 100000 in
theorem impl_within.calls (a0 : Int) (a1 : Int) (a2 : Int) (r : Bool) (w : World) (h : impl_within.f a0 a1 a2 = some r) :
  Calls Tryd.prog 29 #[.int .i64 a0, .int .i64 a1, .int .i64 a2] w fun e w' => e = .returned (.bool r) ∧ Drawn0 w w' := by
 have H : (if a0 ≥ a1 then (some (decide (a0 ≤ a2))) else (some false)) = some r := h
 clear h
 by_cases c4 : a0 ≥ a1
 ·rw [if_pos c4] at H
  have c4b0 : decide (a1 ≤ a0) = true := decide_eq_true c4
  clear c4
  obtain rfl := Option.some.inj H
  go_enter Tryd.func29, Tryd.ntmps29
  go_wp2
  go_ret
  exact ⟨by first | rfl | (simp; done) | (simp [*]; done), by repeat (first | exact Drawn0.refl _ | apply Drawn0.step)⟩
 ·rw [if_neg c4] at H
  have c4b0 : decide (a1 ≤ a0) = false := decide_eq_false c4
  clear c4
  obtain rfl := Option.some.inj H
  go_enter Tryd.func29, Tryd.ntmps29
  go_wp2
  go_ret
  exact ⟨by first | rfl | (simp; done) | (simp [*]; done), by repeat (first | exact Drawn0.refl _ | apply Drawn0.step)⟩

end Go.Proofs.YtbgokpobaemibaaDoor.Pa

namespace Go.Proofs.YtbgokpobaemibaaDoor.Pa
open Go.RowKit Go.Proofs.YtbgokpobaemibaaDoorW.PrintWords Go.Proofs.YtbgokpobaemibaaDoorW.PrintLast Go.Proofs.YtbgokpobaemibaaDoorW.PrintMore
attribute [local go_sem] max2_int min2_int max_two min_two max_three min_three max_four min_four   -- for this text's walks alone
set_option linter.unusedVariables false
set_option linter.unusedSimpArgs false

/-! ### impl_isLimit: function 46 -/
def impl_isLimit.f (a0 : Int) : Option (Bool) := (impl_within.f a0 (-1000) 1000).bind fun t171 => (some t171)
set_option maxHeartbeats 8000000 in
set_option maxRecDepth 100000 in
theorem impl_isLimit.calls (a0 : Int) (r : Bool) (w : World) (h : impl_isLimit.f a0 = some r) :
  Calls Tryd.prog 46 #[.int .i64 a0] w fun e w' => e = .returned (.bool r) ∧ Drawn0 w w' := by
 have H : ((impl_within.f a0 (-1000) 1000).bind fun t171 => (some t171)) = some r := h
 clear h
 replace H := Option.bind_eq_some_iff.mp H
 obtain ⟨t171, A20, H⟩ := H
 replace H : (some t171) = some r := H
 have A2 := Aside0.mk A20
 clear A20
 obtain rfl := Option.some.inj H
 go_enter Tryd.func46, Tryd.ntmps46
 go_wp2_with (first | ((with_reducible refine gate_callee (f := 29) rfl ?_); refine goesL_ (some 4) rfl rfl Tryd.func29 (by kernel_rfl) rfl #[.int .i64 a0, .int .i64 (-1000), .int .i64 1000] rfl (by (try simp only [List.map_toArray, List.map_cons, List.map_nil]); first | done | rfl | (simp only [List.length_drop, List.length_take]; rfl)) ?_; (with_reducible refine (impl_within.calls a0 (-1000) 1000 t171 _ A2.out).mono ?_); rintro e w' ⟨rfl, ⟨nd, rfl⟩⟩; refine ⟨_, rfl, ?_⟩))
 go_ret
 exact ⟨by first | rfl | (simp; done) | (simp [*]; done), by repeat (first | exact Drawn0.refl _ | apply Drawn0.step)⟩

end Go.Proofs.YtbgokpobaemibaaDoor.Pa

