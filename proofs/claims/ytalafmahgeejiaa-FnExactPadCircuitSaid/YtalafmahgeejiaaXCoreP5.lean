-- Written for this claim by a program of this session.
import Derived.Test.YtalafmahgeejiaaXCoreP2
import Derived.Test.YtalafmahgeejiaaXCoreP3
import Derived.Test.YtalafmahgeejiaaXCoreP4
import Derived.Test.YtalafmahgeejiaaXPax0
import Derived.Shelf.Abstract
import Derived.WalkSpells
import Derived.Test.YtalafmahgeejiaaXCoreP1
/- The delays from a register to each node: the program's table and the reference's are one. -/
namespace Go.Proofs.Ytalafmahgeejiaa.Pure
open Go.RowKit Go.Proofs.Ytalafmahgeejiaa.Pa Go.Proofs.YtalafmahgeejiaaW.PrintWords Go.Proofs.YtalafmahgeejiaaW.PrintLast
set_option linter.unusedVariables false
set_option linter.unusedSimpArgs false

/-- The least and the greatest delay on ways to a node, if there is one. -/
abbrev Way := Option (Int × Int)
def lo : Way → Int
 | none => -1
 | some p => p.1
def hi : Way → Int
 | none => -1
 | some p => p.2
/-- One more input of a gate. -/
def joinG (g : S62) : Way → Way → Way
 | acc, none => acc
 | none, some p => some (p.1 + g.f0, p.2 + g.f1)
 | some q, some p => some (if p.1 + g.f0 < q.1 then p.1 + g.f0 else q.1, if q.2 < p.2 + g.f1 then p.2 + g.f1 else q.2)
def joins (g : S62) (t : List Way) : Way → List Int → Way
 | acc, [] => acc
 | acc, x :: l => joins g t (joinG g acc (t.getD x.toNat none)) l
def tabG : List Way → List S62 → List Way
 | t, [] => t
 | t, g :: l => tabG (t ++ [joins g t none g.f2]) l
def tab0 (a : Int) (n : Nat) : List Way := (List.range n).map fun r : Nat => if (r : Int) = a then some (0, 0) else none
/-- The table of all nodes, from a register. -/
def tab (a n : Int) (gates : List S62) : List Way := tabG (tab0 a n.toNat) gates
def Bd (m : Int) (v : Way) : Prop := ∀ p, v = some p → 0 ≤ p.1 ∧ p.1 ≤ p.2 ∧ p.2 ≤ m
/-- What is known of a circuit's gates, read from a place on. -/
structure Gates (n : Int) (gates : List S62) : Prop where
 n0 : 1 ≤ n
 n1 : n ≤ 6
 len : gates.length ≤ 10
 gate : ∀ (i : Nat) (h : i < gates.length), 0 ≤ gates[i].f0 ∧ gates[i].f0 ≤ gates[i].f1 ∧ gates[i].f1 ≤ 100 ∧ gates[i].f2 ≠ [] ∧ ∀ x ∈ gates[i].f2, 0 ≤ x ∧ x ≤ n + i - 1
 wide : ∀ (i : Nat) (h : i < gates.length), gates[i].f2.length ≤ 1048576
/-- The least and the greatest delay between two registers, if there is a path. -/
def pathO (n : Int) (gates : List S62) (data : List Int) (a5 a6 a b : Int) : Way := ((tab a n gates).getD (rd data b).toNat none).map fun p => (wrap64 (p.1 + a5), wrap64 (p.2 + a6))
end Go.Proofs.Ytalafmahgeejiaa.Pure

namespace Go.Proofs.Ytalafmahgeejiaa.Pa
open Go.RowKit Go.Proofs.YtalafmahgeejiaaW.PrintWords Go.Proofs.YtalafmahgeejiaaW.PrintLast Go.Proofs.YtalafmahgeejiaaW.PrintMore
attribute [local go_sem] max2_int min2_int max_two min_two max_three min_three max_four min_four   -- for this text's walks alone
set_option linter.unusedVariables false
set_option linter.unusedSimpArgs false

/-! ### impl_Circuit_links: function 58 -/
mutual
def impl_Circuit_links.l0 : Nat → List (S72) → Int → Int → Int → List (S62) → List Int → Int → Int → Int → Int → Option ((List (S72)))
 | 0, _, _, _, _, _, _, _, _, _, _ => none
 | k + 1, x3, x12, x13, x307000, x307001, x307002, x307003, x307004, x307005, x307006 => if x13 < x12 then ((impl_Circuit_delays.f k x307000 x307001 x307002 x307003 x307004 x307005 x307006 x13).bind fun bt310 => (impl_Circuit_links.l1 k x3 x13 bt310.1 bt310.2.1 bt310.2.2 x12 x13 x307002 (x307002.length : Int) 0 x307000 x307001 x307002 x307003 x307004 x307005 x307006)) else (some x3)
def impl_Circuit_links.l1 : Nat → List (S72) → Int → List Int → List Int → List Bool → Int → Int → List Int → Int → Int → Int → List (S62) → List Int → Int → Int → Int → Int → Option ((List (S72)))
 | 0, _, _, _, _, _, _, _, _, _, _, _, _, _, _, _, _, _ => none
 | k + 1, x3, x4, x5, x6, x7, x12, x13, x24, x25, x26, x307000, x307001, x307002, x307003, x307004, x307005, x307006 => if x26 < x25 then (if 0 ≤ x26 then (if x26 < (x24.length : Int) then (if 0 ≤ (rd x24 x26) then (if (rd x24 x26) < (x7.length : Int) then (if rdOf false x7 (rd x24 x26) = true then (if (rd x24 x26) < (x5.length : Int) then (if (rd x24 x26) < (x6.length : Int) then (if x3.length < 4398046511104 then (impl_Circuit_links.l1 k (x3 ++ [(⟨x4, x26, wrap64 ((rd x5 (rd x24 x26)) + x307005), wrap64 ((rd x6 (rd x24 x26)) + x307006)⟩ : S72)]) x4 x5 x6 x7 x12 x13 x24 x25 (wrap64 (x26 + 1)) x307000 x307001 x307002 x307003 x307004 x307005 x307006) else (none)) else (none)) else (none)) else (impl_Circuit_links.l1 k x3 x4 x5 x6 x7 x12 x13 x24 x25 (wrap64 (x26 + 1)) x307000 x307001 x307002 x307003 x307004 x307005 x307006)) else (none)) else (none)) else (none)) else (none)) else (impl_Circuit_links.l0 k x3 x12 (wrap64 (x13 + 1)) x307000 x307001 x307002 x307003 x307004 x307005 x307006)
end
def impl_Circuit_links.f (k : Nat) (a0_0 : Int) (l0_1 : List (S62)) (l0_2 : List Int) (a0_3 : Int) (a0_4 : Int) (a0_5 : Int) (a0_6 : Int) : Option ((List (S72))) := impl_Circuit_links.l0 k (([] : List (S72))) a0_0 0 a0_0 l0_1 l0_2 a0_3 a0_4 a0_5 a0_6
def impl_Circuit_links.T10 : Bool × List (List Nat × List Nat) := (true, [([], []), ([], []), ([], []), ([], []), ([], []), ([3, 4], [3, 4]), ([5], [5]), ([], []), ([7], [7]), ([6, 8], [6, 8]), ([], []), ([], []), ([10, 11], [10, 11]), ([12], [12]), ([], []), ([14], [14]), ([13, 15], [13, 15]), ([1, 2, 9, 16], [1, 2, 9, 16]), ([17], [17]), ([0, 18], [0, 18]), ([19, 19, 0, 1, 2, 3, 4, 5, 6, 7, 8, 9, 10, 11, 12, 13, 14, 15, 16, 17, 18, 19], [0, 19])])
def impl_Circuit_links.B10 : List Nat := [0, 0, 0, 0, 0, 24, 56, 0, 128, 504, 0, 0, 3072, 7168, 0, 16384, 64512, 131070, 262142, 524287, 1048575]
end Go.Proofs.Ytalafmahgeejiaa.Pa

/- The program's delays from a register to each node, and its links. -/
namespace Go.Proofs.Ytalafmahgeejiaa.Pure
open Go.RowKit Go.Proofs.Ytalafmahgeejiaa.Pa Go.Proofs.YtalafmahgeejiaaW.PrintWords Go.Proofs.YtalafmahgeejiaaW.PrintLast
set_option linter.unusedVariables false
set_option linter.unusedSimpArgs false

/-- Three rows of so many cells tell a table. -/
structure Rel (N : Nat) (t : List Way) (L M : List Int) (R : List Bool) : Prop where
 l : L.length = N
 m : M.length = N
 r : R.length = N
 no : ∀ v : Nat, v < N → t.getD v none = none → R.getD v false = false
 yes : ∀ v : Nat, v < N → ∀ p, t.getD v none = some p → R.getD v false = true ∧ L.getD v 0 = p.1 ∧ M.getD v 0 = p.2
end Go.Proofs.Ytalafmahgeejiaa.Pure

namespace Go.Proofs.Ytalafmahgeejiaa.Pa
open Go.RowKit Go.Proofs.YtalafmahgeejiaaW.PrintWords Go.Proofs.YtalafmahgeejiaaW.PrintLast Go.Proofs.YtalafmahgeejiaaW.PrintMore
attribute [local go_sem] max2_int min2_int max_two min_two max_three min_three max_four min_four   -- for this text's walks alone
set_option linter.unusedVariables false
set_option linter.unusedSimpArgs false

/-! ### AUX leastOf -/
/-- The least of what a function tells, from a number on. -/
def leastFrom (p : S72 → Int) : Int → List S72 → Int
 | m, [] => m
 | m, x :: l => leastFrom p (if p x < m then p x else m) l
def leastL (p : S72 → Int) (l : List S72) : Int := leastFrom p (p (rd_T72 l 0)) l
/-- Both ends of a link are places of a list. -/
def linkIn (l : List Int) (x : S72) : Bool := decide (0 ≤ x.f0) && decide (x.f0 < (l.length : Int)) && decide (0 ≤ x.f1) && decide (x.f1 < (l.length : Int))
attribute [local go_sem] max2_int min2_int max_two min_two
end Go.Proofs.Ytalafmahgeejiaa.Pa

/- The links of a circuit, and what is read from them. -/
namespace Go.Proofs.Ytalafmahgeejiaa.Pure
open Go.RowKit Go.Proofs.Ytalafmahgeejiaa.Pa Go.Proofs.YtalafmahgeejiaaW.PrintWords Go.Proofs.YtalafmahgeejiaaW.PrintLast
set_option linter.unusedVariables false
set_option linter.unusedSimpArgs false

def linkO (a b : Int) : Way → List S72
 | none => []
 | some p => [⟨a, b, p.1, p.2⟩]
/-- The links from a register to those from b on, d of them. -/
def linksTo (P : Int → Int → Way) (a : Int) : Nat → Nat → List S72
 | _, 0 => []
 | b, d + 1 => linkO a (b : Int) (P a (b : Int)) ++ linksTo P a (b + 1) d
def linksFrom (P : Int → Int → Way) (n : Nat) : Nat → Nat → List S72
 | _, 0 => []
 | a, d + 1 => linksTo P (a : Int) 0 n ++ linksFrom P n (a + 1) d
def linksOf (P : Int → Int → Way) (n : Nat) : List S72 := linksFrom P n 0 n
/-- What the walks need of a circuit. -/
structure Ready (n : Int) (gates : List S62) (data : List Int) : Prop where
 gs : Gates n gates
 dlen : (data.length : Int) = n
 node : ∀ x ∈ data, 0 ≤ x ∧ x ≤ n + gates.length - 1
/-- The rooms, link by link. -/
def roomStep (f g : S72 → Int) : Option (Int × Int) → S72 → Option (Int × Int)
 | none, x => some (f x, g x)
 | some q, x => some (if f x < q.1 then f x else q.1, if g x < q.2 then g x else q.2)
def rooms (f g : S72 → Int) (acc : Option (Int × Int)) (l : List S72) : Option (Int × Int) := l.foldl (roomStep f g) acc
end Go.Proofs.Ytalafmahgeejiaa.Pure

namespace Go.Proofs.Ytalafmahgeejiaa.Pa
open Go.RowKit Go.Proofs.YtalafmahgeejiaaW.PrintWords Go.Proofs.YtalafmahgeejiaaW.PrintLast Go.Proofs.YtalafmahgeejiaaW.PrintMore
attribute [local go_sem] max2_int min2_int max_two min_two max_three min_three max_four min_four   -- for this text's walks alone
set_option linter.unusedVariables false
set_option linter.unusedSimpArgs false

/-! ### slices_Clone_int64_int64: function 87 -/
/-- Clone: the same numbers, in memory of its own. -/
def slices_Clone_int64_int64.f (l0 : List Int) : Option (List Int) := if l0.length < 17592186044416 then some l0 else none
set_option maxHeartbeats 4000000 in
set_option maxRecDepth 100000 in
theorem slices_Clone_int64_int64.calls (A0 : Option Addr) (c0 : Nat) (l0 : List Int) (r : List Int) (w : World) (hr0 : Kd.C (Kd.int .i64) w A0 l0.length l0) (hc0 : l0.length ≤ c0) (h : slices_Clone_int64_int64.f l0 = some r) :
  Calls Try.prog 87 #[.slice A0 l0.length c0] w fun e w' => ∃ v0_ : Value, e = .returned (v0_) ∧ Kd.R (Kd.int .i64) 2 w' w.heap.size (fun _ => True) v0_ r ∧ Below w.heap.size w w' := by
 unfold slices_Clone_int64_int64.f at h
 by_cases hc : l0.length < 17592186044416
 case neg => rw [if_neg hc] at h; exact absurd h (by simp)
 rw [if_pos hc] at h
 obtain rfl := Option.some.inj h
 have hu := Try.underlying23
 have hnil := fun (w : World) (a : Option Addr) (n c : Nat) => Lib.run_eql_slice_nil (P := Try.prog) w 23 2 a n c 0 0 hu
 have HR := Aside0.mk hr0
 have HC := Aside0.mk hc
 clear hr0 hc hc0 h
 cases A0 with
 | none =>
  have hl : l0 = [] := by
   cases l0 with
   | nil => rfl
   | cons x l =>
    obtain ⟨ad, e, _⟩ := HR.out.2.2 (by simp)
    cases e
  subst hl
  go_enter Try.func87, Try.ntmps87
  go_wp2
  go_ret
  exact ⟨_, rfl, Kd.R_nil _ _ _ _ _, by repeat (first | exact Below.refl _ _ | apply pw_below_drewN)⟩
 | some ad =>
  go_enter Try.func87, Try.ntmps87
  go_wp2_with (first | ((with_reducible refine gate_dst (N := 5) rfl ?_); refine Kd.R_lit (Kd.int .i64) _ 2 ?hg (N := 5) ?hd (xs := ([] : List Int)) (inner := []) (ok := fun _ => True) (okp := fun _ => True) ?hr ?hp (fun _ hk => hk) trivial (Below.refl _ _) (Nat.le_refl _) (by simp) ?_; (case hd => rfl); (case hg => rfl); (case hr => first | (go_simp; done) | (go_simp; rfl)); (case hp => exact (Reps.none _ _)); intro v5 w5 ho hb hg_ hnew_; have HO := Aside0.mk ho; have HB := Aside0.mk hb; clear hg_ hnew_ ho hb) | ((with_reducible refine gate_builtin (b := .append) (xs := #[.tmp 5, .tmp 6]) rfl ?_); at_builtin; refine Kd.R_append_rows (Kd.int .i64) (w0 := w) w.heap.size rfl (.tmp 5) (.tmp 6) 23 2 (.int .i64 0) 8 rfl Try.underlying23 info2 rfl (by decide) (by omega) v5 [] l0 _ _ _ (fun _ => True) (fun _ => False) rfl rfl HO.out (Kd.C_below HR.out HB.out) (fun _ _ h => h) (fun _ h => h.elim) (fun _ _ => trivial) HB.out (below_size HB.out) (by have := HC.out; simp; omega) ?_; intro v6 w6 ho hb hg hat; have HO2 := Aside0.mk ho; have HB2 := Aside0.mk hb; clear ho hb hg hat))
  go_ret
  exact ⟨_, rfl, by have h_ := HO2.out; rw [List.nil_append] at h_; exact h_, HB2.out⟩

end Go.Proofs.Ytalafmahgeejiaa.Pa

namespace Go.Proofs.Ytalafmahgeejiaa.Pa
open Go.RowKit Go.Proofs.YtalafmahgeejiaaW.PrintWords Go.Proofs.YtalafmahgeejiaaW.PrintLast Go.Proofs.YtalafmahgeejiaaW.PrintMore
attribute [local go_sem] max2_int min2_int max_two min_two max_three min_three max_four min_four   -- for this text's walks alone
set_option linter.unusedVariables false
set_option linter.unusedSimpArgs false

/-! ### impl_copyCircuit: function 62 -/
def impl_copyCircuit.l0 : Nat → List (S62) → List (S62) → Int → Int → Int → List (S62) → List Int → Int → Int → Int → Int → Option (Int × (List (S62)) × List Int × Int × Int × Int × Int)
 | 0, _, _, _, _, _, _, _, _, _, _, _ => none
 | k + 1, x3, x8, x9, x10, x373000, x373001, x373002, x373003, x373004, x373005, x373006 => if x10 < x9 then (if 0 ≤ x10 then (if x10 < (x8.length : Int) then ((slices_Clone_int64_int64.f ((rd_T62 x8 x10).f2)).bind fun t379 => (if x3.length < 3518437208883 then (impl_copyCircuit.l0 k (x3 ++ [(⟨(rd_T62 x8 x10).f0, (rd_T62 x8 x10).f1, t379⟩ : S62)]) x8 x9 (wrap64 (x10 + 1)) x373000 x373001 x373002 x373003 x373004 x373005 x373006) else (none))) else (none)) else (none)) else ((slices_Clone_int64_int64.f x373002).bind fun t385 => (some (x373000, x3, t385, x373003, x373004, x373005, x373006)))
def impl_copyCircuit.f (k : Nat) (a0_0 : Int) (l0_1 : List (S62)) (l0_2 : List Int) (a0_3 : Int) (a0_4 : Int) (a0_5 : Int) (a0_6 : Int) : Option (Int × (List (S62)) × List Int × Int × Int × Int × Int) := impl_copyCircuit.l0 k (([] : List (S62))) l0_1 (l0_1.length : Int) 0 a0_0 l0_1 l0_2 a0_3 a0_4 a0_5 a0_6
def impl_copyCircuit.T5 : Bool × List (List Nat × List Nat) := (true, [([], []), ([], []), ([1], [1]), ([], []), ([3], [3]), ([], []), ([5], [5]), ([6], [6]), ([2, 4, 7], [2, 4, 7]), ([8], [8]), ([0, 9, 7], [0, 9]), ([10, 10, 0, 1, 2, 3, 4, 5, 6, 7, 8, 9, 10], [0, 10])])
def impl_copyCircuit.B5 : List Nat := [0, 0, 2, 0, 8, 0, 32, 96, 254, 510, 1023, 2047]
theorem impl_copyCircuit.tab5 : rtab .any (opsOf Try.f62 5) = impl_copyCircuit.T5 := by kernel_rfl
theorem impl_copyCircuit.bits5 : waitsOk impl_copyCircuit.T5.2 impl_copyCircuit.B5 = true := by kernel_rfl
set_option maxHeartbeats 8000000 in
set_option maxRecDepth 100000 in
theorem impl_copyCircuit.calls (k : Nat) (a0_0 : Int) (A0_1 : Option Addr) (c0_1 : Nat) (l0_1 : List (S62)) (A0_2 : Option Addr) (c0_2 : Nat) (l0_2 : List Int) (a0_3 : Int) (a0_4 : Int) (a0_5 : Int) (a0_6 : Int) (r1 : Int) (r2 : List (S62)) (r3 : List Int) (r4 : Int) (r5 : Int) (r6 : Int) (r7 : Int) (w : World) (hr0_1 : Kd.C k62 w A0_1 l0_1.length l0_1) (hc0_1 : l0_1.length ≤ c0_1) (hr0_2 : Kd.C (Kd.int .i64) w A0_2 l0_2.length l0_2) (hc0_2 : l0_2.length ≤ c0_2) (h : impl_copyCircuit.f k a0_0 l0_1 l0_2 a0_3 a0_4 a0_5 a0_6 = some (r1, r2, r3, r4, r5, r6, r7)) :
  Calls Try.prog 62 #[.agg #[.int .i64 a0_0, .slice A0_1 l0_1.length c0_1, .slice A0_2 l0_2.length c0_2, .int .i64 a0_3, .int .i64 a0_4, .int .i64 a0_5, .int .i64 a0_6]] w fun e w' => ∃ v1_ v2_ : Value, e = .returned (.agg #[.int .i64 r1, v1_, v2_, .int .i64 r4, .int .i64 r5, .int .i64 r6, .int .i64 r7]) ∧ Kd.S k62 62 w' w.heap.size (fun k_ => some k_ ≠ (v2_ : Value).ownBlock) v1_ r2 ∧ Kd.R (Kd.int .i64) 2 w' w.heap.size (fun _ => True) v2_ r3 ∧ Below w.heap.size w w' := by
 have hu30 := Try.underlying30
 have hu62 := Try.underlying62
 have HR0_1 := Aside0.mk hr0_1
 have HC0_1 := Aside0.mk hc0_1
 clear hr0_1 hc0_1
 have HR0_2 := Aside0.mk hr0_2
 have HC0_2 := Aside0.mk hc0_2
 clear hr0_2 hc0_2
 have HB := Aside0.mk (Below.refl w.heap.size w)
 have H : (impl_copyCircuit.l0 k (([] : List (S62))) l0_1 (l0_1.length : Int) 0 a0_0 l0_1 l0_2 a0_3 a0_4 a0_5 a0_6) = some (r1, r2, r3, r4, r5, r6, r7) := h
 clear h
 obtain ⟨y374, hy374⟩ : ∃ y_ : List (S62), y_ = (([] : List (S62))) := ⟨_, rfl⟩
 replace H : (impl_copyCircuit.l0 k y374 l0_1 (l0_1.length : Int) 0 a0_0 l0_1 l0_2 a0_3 a0_4 a0_5 a0_6) = some (r1, r2, r3, r4, r5, r6, r7) := by first | (rw [hy374]; with_reducible exact H) | (have H2_ := (Option.bind_some _ _).symm.trans H; rw [hy374]; with_reducible exact H2_) | (have H2_ := (Option.bind_some _ _).symm.trans H; with_reducible exact H2_) | with_reducible exact H | (rw [hy374]; exact H) | exact H
 have Ny374 := Aside0.mk hy374
 clear hy374
 have H' := Aside0.mk H
 clear H
 go_enter Try.func62, Try.ntmps62
 go_wp2_with (first | ((with_reducible refine gate_dst (N := 1) rfl ?_); refine box_event ?hg (N := 1) ?hd (cs := #[.int .i64 a0_0, .slice A0_1 l0_1.length c0_1, .slice A0_2 l0_2.length c0_2, .int .i64 a0_3, .int .i64 a0_4, .int .i64 a0_5, .int .i64 a0_6]) (t := 30) ?hr ?_; (case hd => rfl); (case hg => rfl); (case hr => first | (go_simp; done) | (go_simp; rfl)); intro gb372 hg w2 hbox hb; have n0_ := Aside0.mk (below_step (by repeat (first | (with_reducible first | exact HB.out | apply below_alloc | apply pw_below_drewN | apply below_drew1) | exact HB.out)) hb); have n1_ := Aside0.mk (hbox); have n2_ := Aside0.mk ((by rw [hg]; exact (below_size (by repeat (first | (with_reducible first | exact HB.out | apply below_alloc | apply pw_below_drewN | apply below_drew1) | exact HB.out))) : w.heap.size ≤ gb372)); have n3_ := Aside0.mk ((by rw [hg]; exact (below_size (by repeat (first | (with_reducible first | exact HB.out | apply below_alloc | apply pw_below_drewN | apply below_drew1) | exact HB.out))) : w.heap.size ≤ gb372)); clear HB; have HB := n0_; have BK372 := n1_; have GW372 := n2_; have GE372 := n3_; clear n0_ n1_ n2_ n3_; clear hb hbox hg) | ((with_reducible refine gate_dst (N := 2) rfl ?_); refine box_event ?hg (N := 2) ?hd (cs := #[.int .i64 0, .slice none 0 0, .slice none 0 0, .int .i64 0, .int .i64 0, .int .i64 0, .int .i64 0]) (t := 30) ?hr ?_; (case hd => rfl); (case hg => rfl); (case hr => first | (go_simp; done) | (go_simp; rfl)); intro gb373 hg w3 hbox hb; have n0_ := Aside0.mk (blk_below (g := gb372) (o := .cells #[.int .i64 a0_0, .slice A0_1 l0_1.length c0_1, .slice A0_2 l0_2.length c0_2, .int .i64 a0_3, .int .i64 a0_4, .int .i64 a0_5, .int .i64 a0_6] 30 (0, 0)) (by (with_reducible repeat (first | refine blk_drewN ?_ _ | refine blk_drew ?_ | refine blk_alloc ?_ _)); exact BK372.out) hb); have n1_ := Aside0.mk (below_step (by repeat (first | (with_reducible first | exact HB.out | apply below_alloc | apply pw_below_drewN | apply below_drew1 | refine below_set ?_ GE372.out) | exact HB.out)) hb); have n2_ := Aside0.mk (hbox); have n3_ := Aside0.mk ((by rw [hg]; exact (below_size (by repeat (first | (with_reducible first | exact HB.out | apply below_alloc | apply pw_below_drewN | apply below_drew1 | refine below_set ?_ GE372.out) | exact HB.out))) : w.heap.size ≤ gb373)); have n4_ := Aside0.mk ((by rw [hg]; exact (below_size (by repeat (first | (with_reducible first | exact HB.out | apply below_alloc | apply pw_below_drewN | apply below_drew1 | refine below_set ?_ GE372.out) | exact HB.out))) : w.heap.size ≤ gb373)); have n5_ := Aside0.mk ((by rw [hg]; exact Nat.ne_of_lt (blk_lt (g := gb372) (o := .cells #[.int .i64 a0_0, .slice A0_1 l0_1.length c0_1, .slice A0_2 l0_2.length c0_2, .int .i64 a0_3, .int .i64 a0_4, .int .i64 a0_5, .int .i64 a0_6] 30 (0, 0)) (by (with_reducible repeat (first | refine blk_drewN ?_ _ | refine blk_drew ?_ | refine blk_alloc ?_ _)); exact BK372.out)) : gb372 ≠ gb373)); have n6_ := Aside0.mk ((by rw [hg]; exact Nat.ne_of_gt (blk_lt (g := gb372) (o := .cells #[.int .i64 a0_0, .slice A0_1 l0_1.length c0_1, .slice A0_2 l0_2.length c0_2, .int .i64 a0_3, .int .i64 a0_4, .int .i64 a0_5, .int .i64 a0_6] 30 (0, 0)) (by (with_reducible repeat (first | refine blk_drewN ?_ _ | refine blk_drew ?_ | refine blk_alloc ?_ _)); exact BK372.out)) : gb373 ≠ gb372)); clear BK372; clear HB; have BK372 := n0_; have HB := n1_; have BK373 := n2_; have GW373 := n3_; have GE373 := n4_; have NB372_373 := n5_; have NB373_372 := n6_; clear n0_ n1_ n2_ n3_ n4_ n5_ n6_; clear hb hbox hg) | ((with_reducible refine gate_dst (N := 6) rfl ?_); refine Kd.S_lit k62 _ 62 ?hg (N := 6) ?hd (xs := ([] : List (S62))) (inner := []) (ok := fun _ => True) (okp := fun _ => True) ?hr ?hp (fun _ hk => hk) trivial (Below.refl _ _) (Nat.le_refl _) (by simp) ?_; (case hd => rfl); (case hg => rfl); (case hr => first | (go_simp; done) | (go_simp; rfl)); (case hp => exact (Reps.none _ _)); intro v375 w4 ho5 hb hg_ hnew_; clear hg_ hnew_; (first | rw [← Ny374.out] at ho5 | (simp only [Int.reduceToNat] at ho5; rw [← Ny374.out] at ho5)); have n0_ := Aside0.mk (Kd.S_lower ho5 (below_size (by repeat (first | (with_reducible first | exact HB.out | apply below_alloc | apply pw_below_drewN | apply below_drew1 | refine below_set ?_ GE372.out | refine below_set ?_ GE373.out) | exact HB.out)))); have n1_ := Aside0.mk (blk_below (g := gb372) (o := .cells #[.int .i64 a0_0, .slice A0_1 l0_1.length c0_1, .slice A0_2 l0_2.length c0_2, .int .i64 a0_3, .int .i64 a0_4, .int .i64 a0_5, .int .i64 a0_6] 30 (0, 0)) (by (with_reducible repeat (first | refine blk_drewN ?_ _ | refine blk_drew ?_ | refine blk_alloc ?_ _)); exact BK372.out) hb); have n2_ := Aside0.mk (blk_below (g := gb373) (o := .cells #[.int .i64 0, .slice none 0 0, .slice none 0 0, .int .i64 0, .int .i64 0, .int .i64 0, .int .i64 0] 30 (0, 0)) (by (with_reducible repeat (first | refine blk_drewN ?_ _ | refine blk_drew ?_ | refine blk_alloc ?_ _)); exact BK373.out) hb); have n3_ := Aside0.mk (below_step (by repeat (first | (with_reducible first | exact HB.out | apply below_alloc | apply pw_below_drewN | apply below_drew1 | refine below_set ?_ GE372.out | refine below_set ?_ GE373.out) | exact HB.out)) hb); clear BK372; clear BK373; clear HB; have HO376 := n0_; have BK372 := n1_; have BK373 := n2_; have HB := n3_; clear n0_ n1_ n2_ n3_; clear hb ho5; have hnb6 := NB372_373.out; have hnc6 := NB373_372.out; have hcz7_0 : w4.cell? ⟨gb372, 0, none⟩ = some (.int .i64 a0_0) := (blk_cell BK372.out 0).trans rfl; have hcz7_1 : w4.cell? ⟨gb372, 1, none⟩ = some (.slice A0_1 l0_1.length c0_1) := (blk_cell BK372.out 1).trans rfl; have hcz7_2 : w4.cell? ⟨gb372, 2, none⟩ = some (.slice A0_2 l0_2.length c0_2) := (blk_cell BK372.out 2).trans rfl; have hcz7_3 : w4.cell? ⟨gb372, 3, none⟩ = some (.int .i64 a0_3) := (blk_cell BK372.out 3).trans rfl; have hcz7_4 : w4.cell? ⟨gb372, 4, none⟩ = some (.int .i64 a0_4) := (blk_cell BK372.out 4).trans rfl; have hcz7_5 : w4.cell? ⟨gb372, 5, none⟩ = some (.int .i64 a0_5) := (blk_cell BK372.out 5).trans rfl; have hcz7_6 : w4.cell? ⟨gb372, 6, none⟩ = some (.int .i64 a0_6) := (blk_cell BK372.out 6).trans rfl; have hfz7_0 := blk_frozen BK372.out 0; have hfz7_1 := blk_frozen BK372.out 1; have hfz7_2 := blk_frozen BK372.out 2; have hfz7_3 := blk_frozen BK372.out 3; have hfz7_4 := blk_frozen BK372.out 4; have hfz7_5 := blk_frozen BK372.out 5; have hfz7_6 := blk_frozen BK372.out 6))
 go_loopg [3, 10] k (fun kq v3 v10 w' => ∃ (x3_1 : List (S62)) (x10_1 : Int), v10 = .int .i64 x10_1 ∧ Aside0 (impl_copyCircuit.l0 kq x3_1 l0_1 (l0_1.length : Int) x10_1 a0_0 l0_1 l0_2 a0_3 a0_4 a0_5 a0_6 = some (r1, r2, r3, r4, r5, r6, r7)) ∧ Aside0 (kq ≤ k) ∧ Aside0 (Kd.S k62 62 w' w.heap.size (fun _ => True) v3 x3_1) ∧ Aside0 (w'.heap[gb372]? = some (.cells #[.int .i64 a0_0, (.slice A0_1 l0_1.length c0_1), (.slice A0_2 l0_2.length c0_2), .int .i64 a0_3, .int .i64 a0_4, .int .i64 a0_5, .int .i64 a0_6] 30 (0, 0))) ∧ Aside0 (w'.heap[gb373]? = some (.cells #[.int .i64 0, (.slice none 0 0), (.slice none 0 0), .int .i64 0, .int .i64 0, .int .i64 0, .int .i64 0] 30 (0, 0))) ∧ Aside0 (Below w.heap.size w w'))
 case atStart => exact ⟨(y374), (0), (by first | rfl | (simp; done) | (simp [*]; done)), H', ⟨Nat.le_refl _⟩, ⟨by (with_reducible repeat (first | apply Kd.S_alloc | apply Kd.S_drewN | apply Kd.S_drew)); exact HO376.out⟩, ⟨by (with_reducible repeat (first | refine blk_drewN ?_ _ | refine blk_drew ?_ | refine blk_alloc ?_ _)); exact BK372.out⟩, ⟨by (with_reducible repeat (first | refine blk_drewN ?_ _ | refine blk_drew ?_ | refine blk_alloc ?_ _)); exact BK373.out⟩, ⟨by repeat (first | (with_reducible first | exact HB.out | apply below_alloc | apply pw_below_drewN | apply below_drew1 | refine below_set ?_ GE372.out | refine below_set ?_ GE373.out) | exact HB.out)⟩⟩
 case round =>
  clear H'
  try clear p2
  try clear c6
  try clear hcz7_0
  try clear hcz7_1
  try clear hcz7_2
  try clear hcz7_3
  try clear hcz7_4
  try clear hcz7_5
  try clear hcz7_6
  try clear hfz7_0
  try clear hfz7_1
  try clear hfz7_2
  try clear hfz7_3
  try clear hfz7_4
  try clear hfz7_5
  try clear hfz7_6
  obtain ⟨x3_1, x10_1, rfl, HA, HK1, HO_3, BK372, BK373, HB⟩ := hrel
  cases gk with
  | zero => exact absurd HA.out (by simp [impl_copyCircuit.l0])
  | succ k1 =>
   have H := HA.out
   clear HA
   simp only [impl_copyCircuit.l0] at H
   by_cases c8 : x10_1 < (l0_1.length : Int)
   ·rw [if_pos c8] at H
    have c8b0 : decide (x10_1 < (l0_1.length : Int)) = true := decide_eq_true c8
    clear c8
    by_cases c9 : 0 ≤ x10_1
    ·rw [if_pos c9] at H
     have c9b0 : decide (0 ≤ x10_1) = true := decide_eq_true c9
     clear c9
     by_cases c10 : x10_1 < (l0_1.length : Int)
     ·rw [if_pos c10] at H
      have c10b0 : decide (x10_1 < (l0_1.length : Int)) = true := decide_eq_true c10
      clear c10
      replace H := Option.bind_eq_some_iff.mp H
      obtain ⟨t379, A110, H⟩ := H
      replace H : (if x3_1.length < 3518437208883 then (impl_copyCircuit.l0 k1 (x3_1 ++ [(⟨(rd_T62 l0_1 x10_1).f0, (rd_T62 l0_1 x10_1).f1, t379⟩ : S62)]) l0_1 (l0_1.length : Int) (wrap64 (x10_1 + 1)) a0_0 l0_1 l0_2 a0_3 a0_4 a0_5 a0_6) else (none)) = some (r1, r2, r3, r4, r5, r6, r7) := H
      have A11 := Aside0.mk A110
      clear A110
      by_cases c12 : x3_1.length < 3518437208883
      ·rw [if_pos c12] at H
       have LMc12 := Aside0.mk c12
       clear c12
       obtain ⟨y382, hy382⟩ : ∃ y_ : List (S62), y_ = (x3_1 ++ [(⟨(rd_T62 l0_1 x10_1).f0, (rd_T62 l0_1 x10_1).f1, t379⟩ : S62)]) := ⟨_, rfl⟩
       replace H : (impl_copyCircuit.l0 k1 y382 l0_1 (l0_1.length : Int) (wrap64 (x10_1 + 1)) a0_0 l0_1 l0_2 a0_3 a0_4 a0_5 a0_6) = some (r1, r2, r3, r4, r5, r6, r7) := by first | (rw [hy382]; with_reducible exact H) | (have H2_ := (Option.bind_some _ _).symm.trans H; rw [hy382]; with_reducible exact H2_) | (have H2_ := (Option.bind_some _ _).symm.trans H; with_reducible exact H2_) | with_reducible exact H | (rw [hy382]; exact H) | exact H
       have Ny382 := Aside0.mk hy382
       clear hy382
       have H' := Aside0.mk H
       clear H
       have p377 : 0 ≤ (x10_1 : Int) := of_decide_eq_true (by with_reducible assumption)
       have q377 : x10_1 < (l0_1.length : Int) := of_decide_eq_true (by with_reducible assumption)
       obtain ⟨ad377, A377_2, c377_2, e377, hx377_0, hx377_1, hx377_2, hl377_2, hi377_2⟩ := at_T62 HR0_1.out x10_1 p377 q377
       cases e377
       replace hx377_0 := (HB.out.cell (World.block_lt_of_cell? w _ hx377_0)).trans hx377_0
       replace hx377_1 := (HB.out.cell (World.block_lt_of_cell? w _ hx377_1)).trans hx377_1
       replace hx377_2 := (HB.out.cell (World.block_lt_of_cell? w _ hx377_2)).trans hx377_2
       have HR377_2 := Aside0.mk hi377_2
       have HC377_2 := Aside0.mk hl377_2
       clear hi377_2 hl377_2
       replace p377 := eq_true p377
       replace q377 := eq_true q377
       try go_wp2_with (first | ((with_reducible refine gate_dst (N := 5) rfl ?_); refine box_event ?hg (N := 5) ?hd (cs := #[.int .i64 0, .int .i64 0, .slice none 0 0]) (t := 62) ?hr ?_; (case hd => rfl); (case hg => rfl); (case hr => first | (go_simp; done) | (go_simp; rfl)); intro gb378 hg w13 hbox hb; have n0_ := Aside0.mk (Kd.S_below (Kd.S_elderB (by (with_reducible repeat (first | apply Kd.S_alloc | apply Kd.S_drewN | apply Kd.S_drew)); exact HO_3.out) gb378 (Nat.le_of_eq hg.symm)) hb); have n1_ := Aside0.mk (blk_below (g := gb372) (o := .cells #[.int .i64 a0_0, .slice (some ad377) l0_1.length c0_1, .slice A0_2 l0_2.length c0_2, .int .i64 a0_3, .int .i64 a0_4, .int .i64 a0_5, .int .i64 a0_6] 30 (0, 0)) (by (with_reducible repeat (first | refine blk_drewN ?_ _ | refine blk_drew ?_ | refine blk_alloc ?_ _)); exact BK372.out) hb); have n2_ := Aside0.mk (blk_below (g := gb373) (o := .cells #[.int .i64 0, .slice none 0 0, .slice none 0 0, .int .i64 0, .int .i64 0, .int .i64 0, .int .i64 0] 30 (0, 0)) (by (with_reducible repeat (first | refine blk_drewN ?_ _ | refine blk_drew ?_ | refine blk_alloc ?_ _)); exact BK373.out) hb); have n3_ := Aside0.mk (below_step (by repeat (first | (with_reducible first | exact HB.out | apply below_alloc | apply pw_below_drewN | apply below_drew1 | refine below_set ?_ GE372.out | refine below_set ?_ GE373.out) | exact HB.out)) hb); have n4_ := Aside0.mk (hbox); have n5_ := Aside0.mk ((by rw [hg]; exact (below_size (by repeat (first | (with_reducible first | exact HB.out | apply below_alloc | apply pw_below_drewN | apply below_drew1 | refine below_set ?_ GE372.out | refine below_set ?_ GE373.out) | exact HB.out))) : w.heap.size ≤ gb378)); have n6_ := Aside0.mk ((by rw [hg]; exact (below_size (by repeat (first | (with_reducible first | exact HB.out | apply below_alloc | apply pw_below_drewN | apply below_drew1 | refine below_set ?_ GE372.out | refine below_set ?_ GE373.out) | exact HB.out))) : w.heap.size ≤ gb378)); have n7_ := Aside0.mk ((by rw [hg]; exact Nat.ne_of_lt (blk_lt (g := gb372) (o := .cells #[.int .i64 a0_0, .slice (some ad377) l0_1.length c0_1, .slice A0_2 l0_2.length c0_2, .int .i64 a0_3, .int .i64 a0_4, .int .i64 a0_5, .int .i64 a0_6] 30 (0, 0)) (by (with_reducible repeat (first | refine blk_drewN ?_ _ | refine blk_drew ?_ | refine blk_alloc ?_ _)); exact BK372.out)) : gb372 ≠ gb378)); have n8_ := Aside0.mk ((by rw [hg]; exact Nat.ne_of_gt (blk_lt (g := gb372) (o := .cells #[.int .i64 a0_0, .slice (some ad377) l0_1.length c0_1, .slice A0_2 l0_2.length c0_2, .int .i64 a0_3, .int .i64 a0_4, .int .i64 a0_5, .int .i64 a0_6] 30 (0, 0)) (by (with_reducible repeat (first | refine blk_drewN ?_ _ | refine blk_drew ?_ | refine blk_alloc ?_ _)); exact BK372.out)) : gb378 ≠ gb372)); have n9_ := Aside0.mk ((by rw [hg]; exact Nat.ne_of_lt (blk_lt (g := gb373) (o := .cells #[.int .i64 0, .slice none 0 0, .slice none 0 0, .int .i64 0, .int .i64 0, .int .i64 0, .int .i64 0] 30 (0, 0)) (by (with_reducible repeat (first | refine blk_drewN ?_ _ | refine blk_drew ?_ | refine blk_alloc ?_ _)); exact BK373.out)) : gb373 ≠ gb378)); have n10_ := Aside0.mk ((by rw [hg]; exact Nat.ne_of_gt (blk_lt (g := gb373) (o := .cells #[.int .i64 0, .slice none 0 0, .slice none 0 0, .int .i64 0, .int .i64 0, .int .i64 0, .int .i64 0] 30 (0, 0)) (by (with_reducible repeat (first | refine blk_drewN ?_ _ | refine blk_drew ?_ | refine blk_alloc ?_ _)); exact BK373.out)) : gb378 ≠ gb373)); clear HO_3; clear BK372; clear BK373; clear HB; have HO_3 := n0_; have BK372 := n1_; have BK373 := n2_; have HB := n3_; have BK378 := n4_; have GW378 := n5_; have GE378 := n6_; have NB372_378 := n7_; have NB378_372 := n8_; have NB373_378 := n9_; have NB378_373 := n10_; clear n0_ n1_ n2_ n3_ n4_ n5_ n6_ n7_ n8_ n9_ n10_; clear hb hbox hg; have hnb14 := NB378_372.out; have hnc14 := NB372_378.out; have hnb15 := NB378_373.out; have hnc15 := NB373_378.out; have hcz16_0 : w13.cell? ⟨gb378, 0, none⟩ = some (.int .i64 0) := (blk_cell BK378.out 0).trans rfl; have hcz16_1 : w13.cell? ⟨gb378, 1, none⟩ = some (.int .i64 0) := (blk_cell BK378.out 1).trans rfl; have hcz16_2 : w13.cell? ⟨gb378, 2, none⟩ = some (.slice none 0 0) := (blk_cell BK378.out 2).trans rfl; have hfz16_0 := blk_frozen BK378.out 0; have hfz16_1 := blk_frozen BK378.out 1; have hfz16_2 := blk_frozen BK378.out 2))
       have n0_ : Aside0 (Kd.S k62 62 (((w13.setCell ⟨gb378, 0, none⟩ (.int .i64 ((rd_T62 l0_1 x10_1).f0))).setCell ⟨gb378, 1, none⟩ (.int .i64 ((rd_T62 l0_1 x10_1).f1))).setCell ⟨gb378, 2, none⟩ (.slice A377_2 ((rd_T62 l0_1 x10_1).f2).length c377_2)) w.heap.size (fun k_ => k_ ≠ gb378) u3 x3_1) := ⟨by (with_reducible repeat (first | apply Kd.S_alloc | apply Kd.S_drewN | apply Kd.S_drew)); exact Kd.S_mono (Kd.S_far (p := ⟨gb378, 2, none⟩) (Kd.S_far (p := ⟨gb378, 1, none⟩) (Kd.S_far (p := ⟨gb378, 0, none⟩) (Kd.S_mono HO_3.out (fun k_ hk => (⟨hk, hk.2⟩ : _ ∧ k_ ≠ gb378))) (fun _ hk => hk.2) (.int .i64 ((rd_T62 l0_1 x10_1).f0))) (fun _ hk => hk.2) (.int .i64 ((rd_T62 l0_1 x10_1).f1))) (fun _ hk => hk.2) (.slice A377_2 ((rd_T62 l0_1 x10_1).f2).length c377_2)) (fun _ hk => hk.1.2)⟩
       have n1_ : Aside0 ((((w13.setCell ⟨gb378, 0, none⟩ (.int .i64 ((rd_T62 l0_1 x10_1).f0))).setCell ⟨gb378, 1, none⟩ (.int .i64 ((rd_T62 l0_1 x10_1).f1))).setCell ⟨gb378, 2, none⟩ (.slice A377_2 ((rd_T62 l0_1 x10_1).f2).length c377_2)).heap[gb372]? = some (.cells #[.int .i64 a0_0, .slice (some ad377) l0_1.length c0_1, .slice A0_2 l0_2.length c0_2, .int .i64 a0_3, .int .i64 a0_4, .int .i64 a0_5, .int .i64 a0_6] 30 (0, 0))) := ⟨by (with_reducible repeat (first | refine blk_drewN ?_ _ | refine blk_drew ?_ | refine blk_alloc ?_ _)); refine blk_far ?_ NB372_378.out _; (with_reducible repeat (first | refine blk_drewN ?_ _ | refine blk_drew ?_ | refine blk_alloc ?_ _)); refine blk_far ?_ NB372_378.out _; (with_reducible repeat (first | refine blk_drewN ?_ _ | refine blk_drew ?_ | refine blk_alloc ?_ _)); refine blk_far ?_ NB372_378.out _; (with_reducible repeat (first | refine blk_drewN ?_ _ | refine blk_drew ?_ | refine blk_alloc ?_ _)); exact BK372.out⟩
       have n2_ : Aside0 ((((w13.setCell ⟨gb378, 0, none⟩ (.int .i64 ((rd_T62 l0_1 x10_1).f0))).setCell ⟨gb378, 1, none⟩ (.int .i64 ((rd_T62 l0_1 x10_1).f1))).setCell ⟨gb378, 2, none⟩ (.slice A377_2 ((rd_T62 l0_1 x10_1).f2).length c377_2)).heap[gb373]? = some (.cells #[.int .i64 0, .slice none 0 0, .slice none 0 0, .int .i64 0, .int .i64 0, .int .i64 0, .int .i64 0] 30 (0, 0))) := ⟨by (with_reducible repeat (first | refine blk_drewN ?_ _ | refine blk_drew ?_ | refine blk_alloc ?_ _)); refine blk_far ?_ NB373_378.out _; (with_reducible repeat (first | refine blk_drewN ?_ _ | refine blk_drew ?_ | refine blk_alloc ?_ _)); refine blk_far ?_ NB373_378.out _; (with_reducible repeat (first | refine blk_drewN ?_ _ | refine blk_drew ?_ | refine blk_alloc ?_ _)); refine blk_far ?_ NB373_378.out _; (with_reducible repeat (first | refine blk_drewN ?_ _ | refine blk_drew ?_ | refine blk_alloc ?_ _)); exact BK373.out⟩
       have n3_ : Aside0 ((((w13.setCell ⟨gb378, 0, none⟩ (.int .i64 ((rd_T62 l0_1 x10_1).f0))).setCell ⟨gb378, 1, none⟩ (.int .i64 ((rd_T62 l0_1 x10_1).f1))).setCell ⟨gb378, 2, none⟩ (.slice A377_2 ((rd_T62 l0_1 x10_1).f2).length c377_2)).heap[gb378]? = some (.cells #[.int .i64 ((rd_T62 l0_1 x10_1).f0), .int .i64 ((rd_T62 l0_1 x10_1).f1), .slice A377_2 ((rd_T62 l0_1 x10_1).f2).length c377_2] 62 (0, 0))) := ⟨by (with_reducible repeat (first | refine blk_drewN ?_ _ | refine blk_drew ?_ | refine blk_alloc ?_ _)); refine blk_put (cs := #[.int .i64 ((rd_T62 l0_1 x10_1).f0), .int .i64 ((rd_T62 l0_1 x10_1).f1), .slice none 0 0]) ?_ 2 _ rfl; (with_reducible repeat (first | refine blk_drewN ?_ _ | refine blk_drew ?_ | refine blk_alloc ?_ _)); refine blk_put (cs := #[.int .i64 ((rd_T62 l0_1 x10_1).f0), .int .i64 0, .slice none 0 0]) ?_ 1 _ rfl; (with_reducible repeat (first | refine blk_drewN ?_ _ | refine blk_drew ?_ | refine blk_alloc ?_ _)); refine blk_put (cs := #[.int .i64 0, .int .i64 0, .slice none 0 0]) ?_ 0 _ rfl; (with_reducible repeat (first | refine blk_drewN ?_ _ | refine blk_drew ?_ | refine blk_alloc ?_ _)); exact BK378.out⟩
       have n4_ : Aside0 (Below w.heap.size w (((w13.setCell ⟨gb378, 0, none⟩ (.int .i64 ((rd_T62 l0_1 x10_1).f0))).setCell ⟨gb378, 1, none⟩ (.int .i64 ((rd_T62 l0_1 x10_1).f1))).setCell ⟨gb378, 2, none⟩ (.slice A377_2 ((rd_T62 l0_1 x10_1).f2).length c377_2))) := ⟨by repeat (first | (with_reducible first | exact HB.out | apply below_alloc | apply pw_below_drewN | apply below_drew1 | refine below_set ?_ GE372.out | refine below_set ?_ GE373.out | refine below_set ?_ GE378.out) | exact HB.out)⟩
       (try clear HO_3)
       (try clear BK372)
       (try clear BK373)
       (try clear BK378)
       (try clear HB)
       generalize (((w13.setCell ⟨gb378, 0, none⟩ (.int .i64 ((rd_T62 l0_1 x10_1).f0))).setCell ⟨gb378, 1, none⟩ (.int .i64 ((rd_T62 l0_1 x10_1).f1))).setCell ⟨gb378, 2, none⟩ (.slice A377_2 ((rd_T62 l0_1 x10_1).f2).length c377_2)) = w17 at n0_ n1_ n2_ n3_ n4_ ⊢
       have HO_3 := n0_
       have BK372 := n1_
       have BK373 := n2_
       have BK378 := n3_
       have HB := n4_
       clear n0_ n1_ n2_ n3_ n4_
       have n0_ := Aside0.mk (Kd.S_drew HO_3.out)
       have n1_ := Aside0.mk (blk_drew BK372.out)
       have n2_ := Aside0.mk (blk_drew BK373.out)
       have n3_ := Aside0.mk (blk_drew BK378.out)
       have n4_ := Aside0.mk (below_drew1 HB.out)
       clear HO_3
       clear BK372
       clear BK373
       clear BK378
       clear HB
       have HO_3 := n0_
       have BK372 := n1_
       have BK373 := n2_
       have BK378 := n3_
       have HB := n4_
       clear n0_ n1_ n2_ n3_ n4_
       refine start_ (n := 12) (S := fun w' => w'.cell? ⟨gb378, 0, none⟩ = some (.int .i64 ((rd_T62 l0_1 x10_1).f0)) ∧ w'.cell? ⟨gb378, 1, none⟩ = some (.int .i64 ((rd_T62 l0_1 x10_1).f1)) ∧ w'.cell? ⟨gb378, 2, none⟩ = some (.slice A377_2 ((rd_T62 l0_1 x10_1).f2).length c377_2)) (ds := []) #[false, false, false, false, false, false, false, false, false, false, false, false] (by kernel_rfl) rfl rfl ⟨(blk_cell BK378.out 0).trans rfl, (blk_cell BK378.out 1).trans rfl, (blk_cell BK378.out 2).trans rfl⟩ (fun hHeld => ?_); refine with_tabW impl_copyCircuit.tab5 impl_copyCircuit.bits5 (fun HT_ HW_ => ?_)
       generalize w17.drew = w18 at HO_3 BK372 BK373 BK378 HB hHeld ⊢
       refine pure_ (i := 0) (N := some 14) (v := ?_) (a' := ?_) #[true, false, false, false, false, false, false, false, false, false, false, false] rfl rfl (any_of HT_.out (by kernel_rfl)) (fun _ _ _ h => h) (Or.inl ⟨by rfl, ?_⟩) ?_ ?_
       rotate_left
       ·intro w'
        go_simp
        with_reducible rfl
       rotate_left
       ·simp only [Act.put, List.setIfInBounds_toArray, List.set_cons_zero, List.set_cons_succ, i64_w, i32_w]
        rfl
       refine pure_ (i := 1) (N := some 15) (v := ?_) (a' := ?_) #[true, true, false, false, false, false, false, false, false, false, false, false] rfl rfl (any_of HT_.out (by kernel_rfl)) (fun _ _ _ h => h) (Or.inl ⟨by rfl, ?_⟩) ?_ ?_
       rotate_left
       ·intro w'
        go_simp
        with_reducible rfl
       rotate_left
       ·simp only [Act.put, List.setIfInBounds_toArray, List.set_cons_zero, List.set_cons_succ, i64_w, i32_w]
        rfl
       refine pure_ (i := 3) (N := some 17) (v := ?_) (a' := ?_) #[true, true, false, true, false, false, false, false, false, false, false, false] rfl rfl (any_of HT_.out (by kernel_rfl)) (fun _ _ _ h => h) (Or.inl ⟨by rfl, ?_⟩) ?_ ?_
       rotate_left
       ·intro w'
        go_simp
        with_reducible rfl
       rotate_left
       ·simp only [Act.put, List.setIfInBounds_toArray, List.set_cons_zero, List.set_cons_succ, i64_w, i32_w]
        rfl
       refine pure_ (i := 5) (N := some 19) (v := ?_) (a' := ?_) #[true, true, false, true, false, true, false, false, false, false, false, false] rfl rfl (any_of HT_.out (by kernel_rfl)) (fun _ _ _ h => h) (Or.inl ⟨by rfl, ?_⟩) ?_ ?_
       rotate_left
       ·intro w'
        go_simp
        with_reducible rfl
       rotate_left
       ·simp only [Act.put, List.setIfInBounds_toArray, List.set_cons_zero, List.set_cons_succ, i64_w, i32_w]
        rfl
       refine take_ (i := 2) (N := some 16) (v := ?_) (a' := ?_) #[true, true, true, true, false, true, false, false, false, false, false, false] rfl rfl (take_ofW HT_.out HW_.out (by kernel_rfl)) (fun _ _ _ h => h) (Or.inl ⟨by rfl, ?_⟩) hHeld ?_ ?_
       rotate_left
       ·rintro w' ⟨s0, s1, s2⟩
        go_simp
        with_reducible rfl
       rotate_left
       ·simp only [Act.put, List.setIfInBounds_toArray, List.set_cons_zero, List.set_cons_succ, i64_w, i32_w]
        rfl
       refine take_ (i := 4) (N := some 18) (v := ?_) (a' := ?_) #[true, true, true, true, true, true, false, false, false, false, false, false] rfl rfl (take_ofW HT_.out HW_.out (by kernel_rfl)) (fun _ _ _ h => h) (Or.inl ⟨by rfl, ?_⟩) hHeld ?_ ?_
       rotate_left
       ·rintro w' ⟨s0, s1, s2⟩
        go_simp
        with_reducible rfl
       rotate_left
       ·simp only [Act.put, List.setIfInBounds_toArray, List.set_cons_zero, List.set_cons_succ, i64_w, i32_w]
        rfl
       refine take_ (i := 6) (N := some 20) (v := ?_) (a' := ?_) #[true, true, true, true, true, true, true, false, false, false, false, false] rfl rfl (take_ofW HT_.out HW_.out (by kernel_rfl)) (fun _ _ _ h => h) (Or.inl ⟨by rfl, ?_⟩) hHeld ?_ ?_
       rotate_left
       ·rintro w' ⟨s0, s1, s2⟩
        go_simp
        with_reducible rfl
       rotate_left
       ·simp only [Act.put, List.setIfInBounds_toArray, List.set_cons_zero, List.set_cons_succ, i64_w, i32_w]
        rfl
       refine one_ (i := 7) (N := some 21) #[true, true, true, true, true, true, true, true, false, false, false, false] rfl rfl (one_of HT_.out (by kernel_rfl)) (by decide) (fun K hK => ?_)
       refine goes_ Try.func87 (by kernel_rfl) rfl #[.slice A377_2 ((rd_T62 l0_1 x10_1).f2).length c377_2] (by rfl) rfl rfl (by (try simp only [List.map_toArray, List.map_cons, List.map_nil]); first | done | rfl | (simp only [List.length_drop, List.length_take]; rfl)) ?_
       with_reducible refine (slices_Clone_int64_int64.calls _ _ ((rd_T62 l0_1 x10_1).f2) t379 _ ?side1 ?side2 A11.out).mono ?_
       (case side1 => repeat (first | exact (Kd.C_below HR377_2.out HB.out) | (with_reducible refine Kd.C_alloc ?_ _) | (with_reducible refine Kd.C_drewN ?_ _) | (with_reducible refine Kd.C_drew ?_)))
       (case side2 => exact HC377_2.out)
       rintro e w19 ⟨v380, rfl, ho0, hb⟩
       refine ⟨_, rfl, ?_⟩
       have n0_ := Aside0.mk (Kd.S_elder' (by (with_reducible repeat (first | apply Kd.S_alloc | apply Kd.S_drewN | apply Kd.S_drew)); exact HO_3.out) (Kd.R_base ho0) hb)
       have n1_ := Aside0.mk (Kd.R_lower ho0 (below_size (by repeat (first | (with_reducible first | exact HB.out | apply below_alloc | apply pw_below_drewN | apply below_drew1 | refine below_set ?_ GE372.out | refine below_set ?_ GE373.out | refine below_set ?_ GE378.out) | exact HB.out))))
       have n2_ := Aside0.mk (blk_below (g := gb372) (o := .cells #[.int .i64 a0_0, .slice (some ad377) l0_1.length c0_1, .slice A0_2 l0_2.length c0_2, .int .i64 a0_3, .int .i64 a0_4, .int .i64 a0_5, .int .i64 a0_6] 30 (0, 0)) (by (with_reducible repeat (first | refine blk_drewN ?_ _ | refine blk_drew ?_ | refine blk_alloc ?_ _)); exact BK372.out) hb)
       have n3_ := Aside0.mk (blk_below (g := gb373) (o := .cells #[.int .i64 0, .slice none 0 0, .slice none 0 0, .int .i64 0, .int .i64 0, .int .i64 0, .int .i64 0] 30 (0, 0)) (by (with_reducible repeat (first | refine blk_drewN ?_ _ | refine blk_drew ?_ | refine blk_alloc ?_ _)); exact BK373.out) hb)
       have n4_ := Aside0.mk (blk_below (g := gb378) (o := .cells #[.int .i64 ((rd_T62 l0_1 x10_1).f0), .int .i64 ((rd_T62 l0_1 x10_1).f1), .slice A377_2 ((rd_T62 l0_1 x10_1).f2).length c377_2] 62 (0, 0)) (by (with_reducible repeat (first | refine blk_drewN ?_ _ | refine blk_drew ?_ | refine blk_alloc ?_ _)); exact BK378.out) hb)
       have n5_ := Aside0.mk (below_step (by repeat (first | (with_reducible first | exact HB.out | apply below_alloc | apply pw_below_drewN | apply below_drew1 | refine below_set ?_ GE372.out | refine below_set ?_ GE373.out | refine below_set ?_ GE378.out) | exact HB.out)) hb)
       clear HO_3
       clear BK372
       clear BK373
       clear BK378
       clear HB
       have HO_3 := n0_
       have HO381 := n1_
       have BK372 := n2_
       have BK373 := n3_
       have BK378 := n4_
       have HB := n5_
       clear n0_ n1_ n2_ n3_ n4_ n5_
       (try clear hb)
       (try clear hb2)
       (try clear hk)
       (try clear hi)
       (try clear ho0)
       obtain ⟨Ao20, co20, eo20⟩ := Kd.R_slice HO381.out
       (first | subst eo20 | (injection eo20 with f1_ f2_ f3_; have f4_ := f1_.symm; have f5_ := f3_.symm; clear f1_ f2_ f3_; subst f4_; subst f5_))
       refine hK.out _ _ ⟨(blk_cell BK378.out 0).trans rfl, (blk_cell BK378.out 1).trans rfl, (blk_cell BK378.out 2).trans rfl⟩ (fun hHeld => ?_)
       clear hK K
       refine norm_ (a' := ?_) ?_ ?_
       rotate_left
       ·show Act.put _ (some 21) _ = _
        simp only [Act.put, List.setIfInBounds_toArray, List.set_cons_zero, List.set_cons_succ, i64_w, i32_w]
        rfl
       refine pure_ (i := 8) (N := some 22) (v := ?_) (a' := ?_) #[true, true, true, true, true, true, true, true, true, false, false, false] rfl rfl (any_of HT_.out (by kernel_rfl)) (fun _ _ _ h => h) (Or.inl ⟨by rfl, ?_⟩) ?_ ?_
       rotate_left
       ·intro w'
        go_simp
        with_reducible rfl
       rotate_left
       ·simp only [Act.put, List.setIfInBounds_toArray, List.set_cons_zero, List.set_cons_succ, i64_w, i32_w]
        rfl
       refine one_ (i := 9) (N := some 23) #[true, true, true, true, true, true, true, true, true, true, false, false] rfl rfl (one_of HT_.out (by kernel_rfl)) (by decide) (fun K hK => ?_)
       refine value_ (w1 := ?_) (v := ?_) (by rfl) rfl ?_ ?_
       rotate_left 2
       ·go_simp
        constructor
        ·rfl
        ·rfl
       refine hK.out _ _ ⟨(blk_cell (blk_alloc BK378.out _) 0).trans rfl, (blk_cell (blk_alloc BK378.out _) 1).trans rfl, (blk_cell (blk_alloc BK378.out _) 2).trans rfl⟩ (fun hHeld => ?_)
       clear hK K
       refine norm_ (a' := ?_) ?_ ?_
       rotate_left
       ·show Act.put _ (some 23) _ = _
        simp only [Act.put, List.setIfInBounds_toArray, List.set_cons_zero, List.set_cons_succ, i64_w, i32_w]
        rfl
       refine one_ (i := 10) (N := some 24) #[true, true, true, true, true, true, true, true, true, true, true, false] rfl rfl (one_of HT_.out (by kernel_rfl)) (by decide) (fun K hK => ?_)
       refine Kd.S_append_step k62 (w0 := w) w.heap.size (by rfl) (.tmp 14) (.tmp 23) 28 62 (.agg #[(.int .i64 0), (.int .i64 0), (.slice none 0 0)]) 40 rfl Try.underlying28 info62 rfl (by decide) (by omega) u3 x3_1 (⟨(rd_T62 l0_1 x10_1).f0, (rd_T62 l0_1 x10_1).f1, t379⟩ : S62) [.int .i64 ((rd_T62 l0_1 x10_1).f0), .int .i64 ((rd_T62 l0_1 x10_1).f1), .slice Ao20 t379.length co20] (fun k_ => k_ ≠ gb378) (fun k_ => some k_ = (.slice Ao20 t379.length co20 : Value).ownBlock) rfl rfl ?aP (fun k_ hk_ => ((Kd.R_mono (ok' := fun k_ => ((fun k_ => k_ ≠ gb378)) k_ ∧ some k_ ≠ (u3 : Value).ownBlock) (Kd.R_types (Kd.R_apart' (HO381.out) (Kd.S_typed HO_3.out) (by decide)) BK378.out (by decide)) (fun k_ hk => ⟨hk.2, hk.1.2⟩))).1 k_ hk_.symm) ?aF ?aO ?aB ?aS ?aL ?_
       (case aP => exact k62_mkM _ _ _ (⟨(rd_T62 l0_1 x10_1).f0, (rd_T62 l0_1 x10_1).f1, t379⟩ : S62) (Kd.R_mono (Kd.R_tight rfl (Kd.R_mono (ok' := fun k_ => ((fun k_ => k_ ≠ gb378)) k_ ∧ some k_ ≠ (u3 : Value).ownBlock) (Kd.R_types (Kd.R_apart' (HO381.out) (Kd.S_typed HO_3.out) (by decide)) BK378.out (by decide)) (fun k_ hk => ⟨hk.2, hk.1.2⟩))) (fun _ h_ => h_)))
       (case aB => exact (by repeat (first | (with_reducible first | exact HB.out | apply below_alloc | apply pw_below_drewN | apply below_drew1 | refine below_set ?_ GE372.out | refine below_set ?_ GE373.out | refine below_set ?_ GE378.out) | exact HB.out)))
       (case aF => exact (fun k_ hk => Kd.freshB (g := gb378) (o := .cells #[.int .i64 ((rd_T62 l0_1 x10_1).f0), .int .i64 ((rd_T62 l0_1 x10_1).f1), .slice A377_2 ((rd_T62 l0_1 x10_1).f2).length c377_2] 62 (0, 0)) (by (with_reducible repeat (first | refine blk_drewN ?_ _ | refine blk_drew ?_ | refine blk_alloc ?_ _)); exact BK378.out) k_ hk))
       (case aO => exact (by (with_reducible repeat (first | apply Kd.S_alloc | apply Kd.S_drewN | apply Kd.S_drew)); exact Kd.S_mono HO_3.out (fun k_ hk => ⟨hk.1, fun e_ => hk.2 e_⟩)))
       (case aS => exact (below_size (by repeat (first | (with_reducible first | exact HB.out | apply below_alloc | apply pw_below_drewN | apply below_drew1 | refine below_set ?_ GE372.out | refine below_set ?_ GE373.out | refine below_set ?_ GE378.out) | exact HB.out))))
       (case aL => have := LMc12.out; omega)
       intro v383 w21 ho hb hg hat
       rw [← Ny382.out] at ho
       have n0_ := Aside0.mk (blk_grown (g := gb372) (o := .cells #[.int .i64 a0_0, .slice (some ad377) l0_1.length c0_1, .slice A0_2 l0_2.length c0_2, .int .i64 a0_3, .int .i64 a0_4, .int .i64 a0_5, .int .i64 a0_6] 30 (0, 0)) (by (with_reducible repeat (first | refine blk_drewN ?_ _ | refine blk_drew ?_ | refine blk_alloc ?_ _)); exact BK372.out) hg (Kd.S_ne HO_3.out BK372.out (by decide)))
       have n1_ := Aside0.mk (blk_grown (g := gb373) (o := .cells #[.int .i64 0, .slice none 0 0, .slice none 0 0, .int .i64 0, .int .i64 0, .int .i64 0, .int .i64 0] 30 (0, 0)) (by (with_reducible repeat (first | refine blk_drewN ?_ _ | refine blk_drew ?_ | refine blk_alloc ?_ _)); exact BK373.out) hg (Kd.S_ne HO_3.out BK373.out (by decide)))
       have n2_ := Aside0.mk (blk_grown (g := gb378) (o := .cells #[.int .i64 ((rd_T62 l0_1 x10_1).f0), .int .i64 ((rd_T62 l0_1 x10_1).f1), .slice A377_2 ((rd_T62 l0_1 x10_1).f2).length c377_2] 62 (0, 0)) (by (with_reducible repeat (first | refine blk_drewN ?_ _ | refine blk_drew ?_ | refine blk_alloc ?_ _)); exact BK378.out) hg (Kd.S_away HO_3.out (fun _ hk => hk.1)))
       have n3_ := Aside0.mk (hb)
       have n4_ := Aside0.mk (ho)
       clear BK372
       clear BK373
       clear BK378
       clear HB
       clear HO_3
       clear HO381
       have BK372 := n0_
       have BK373 := n1_
       have BK378 := n2_
       have HB := n3_
       have HO384 := n4_
       clear n0_ n1_ n2_ n3_ n4_
       clear ho hb hg hat
       refine hK.out _ _ ⟨(blk_cell BK378.out 0).trans rfl, (blk_cell BK378.out 1).trans rfl, (blk_cell BK378.out 2).trans rfl⟩ (fun hHeld => ?_)
       clear hK K
       refine norm_ (a' := ?_) ?_ ?_
       rotate_left
       ·show Act.put _ (some 24) _ = _
        simp only [Act.put, List.setIfInBounds_toArray, List.set_cons_zero, List.set_cons_succ, i64_w, i32_w]
        rfl
       refine pure_ (i := 11) (N := some 3) (v := ?_) (a' := ?_) #[true, true, true, true, true, true, true, true, true, true, true, true] rfl rfl (any_of HT_.out (by kernel_rfl)) (fun _ _ _ h => h) (Or.inl ⟨by rfl, ?_⟩) ?_ ?_
       rotate_left
       ·intro w'
        go_simp
        with_reducible rfl
       rotate_left
       ·simp only [Act.put, List.setIfInBounds_toArray, List.set_cons_zero, List.set_cons_succ, i64_w, i32_w]
        rfl
       refine done_ (done_of HT_.out (by kernel_rfl)) ?_
       try go_wp2
       go_roundg k1
       case measure => have := HK1.out; omega
       case rel => exact ⟨(y382), (wrap64 (x10_1 + 1)), (by first | rfl | (simp; done) | (simp [*]; done)), H', ⟨by have := HK1.out; omega⟩, ⟨by (with_reducible repeat (first | apply Kd.S_alloc | apply Kd.S_drewN | apply Kd.S_drew)); exact Kd.S_mono HO384.out (fun _ hk => trivial)⟩, ⟨by (with_reducible repeat (first | refine blk_drewN ?_ _ | refine blk_drew ?_ | refine blk_alloc ?_ _)); exact BK372.out⟩, ⟨by (with_reducible repeat (first | refine blk_drewN ?_ _ | refine blk_drew ?_ | refine blk_alloc ?_ _)); exact BK373.out⟩, ⟨by repeat (first | (with_reducible first | exact HB.out | apply below_alloc | apply pw_below_drewN | apply below_drew1 | refine below_set ?_ GE372.out | refine below_set ?_ GE373.out | refine below_set ?_ GE378.out) | exact HB.out)⟩⟩
      ·rw [if_neg c12] at H
       exact absurd H (by simp)
     ·rw [if_neg c10] at H
      exact absurd H (by simp)
    ·rw [if_neg c9] at H
     exact absurd H (by simp)
   ·rw [if_neg c8] at H
    have c8b0 : decide (x10_1 < (l0_1.length : Int)) = false := decide_eq_false c8
    clear c8
    replace H := Option.bind_eq_some_iff.mp H
    obtain ⟨t385, A220, H⟩ := H
    replace H : (some (a0_0, x3_1, t385, a0_3, a0_4, a0_5, a0_6)) = some (r1, r2, r3, r4, r5, r6, r7) := H
    have A22 := Aside0.mk A220
    clear A220
    simp only [Option.some.injEq, Prod.mk.injEq] at H
    obtain ⟨rfl, rfl, rfl, rfl, rfl, rfl, rfl⟩ := H
    have hnb23 := NB372_373.out
    have hnc23 := NB373_372.out
    have hcz24_0 : wr.cell? ⟨gb372, 0, none⟩ = some (.int .i64 a0_0) := (blk_cell BK372.out 0).trans rfl
    have hcz24_1 : wr.cell? ⟨gb372, 1, none⟩ = some (.slice A0_1 l0_1.length c0_1) := (blk_cell BK372.out 1).trans rfl
    have hcz24_2 : wr.cell? ⟨gb372, 2, none⟩ = some (.slice A0_2 l0_2.length c0_2) := (blk_cell BK372.out 2).trans rfl
    have hcz24_3 : wr.cell? ⟨gb372, 3, none⟩ = some (.int .i64 a0_3) := (blk_cell BK372.out 3).trans rfl
    have hcz24_4 : wr.cell? ⟨gb372, 4, none⟩ = some (.int .i64 a0_4) := (blk_cell BK372.out 4).trans rfl
    have hcz24_5 : wr.cell? ⟨gb372, 5, none⟩ = some (.int .i64 a0_5) := (blk_cell BK372.out 5).trans rfl
    have hcz24_6 : wr.cell? ⟨gb372, 6, none⟩ = some (.int .i64 a0_6) := (blk_cell BK372.out 6).trans rfl
    have hfz24_0 := blk_frozen BK372.out 0
    have hfz24_1 := blk_frozen BK372.out 1
    have hfz24_2 := blk_frozen BK372.out 2
    have hfz24_3 := blk_frozen BK372.out 3
    have hfz24_4 := blk_frozen BK372.out 4
    have hfz24_5 := blk_frozen BK372.out 5
    have hfz24_6 := blk_frozen BK372.out 6
    go_wp2_with (first | ((with_reducible refine gate_callee (f := 87) rfl ?_); refine goesL_ (some 29) rfl rfl Try.func87 (by kernel_rfl) rfl #[.slice A0_2 l0_2.length c0_2] rfl (by (try simp only [List.map_toArray, List.map_cons, List.map_nil]); first | done | rfl | (simp only [List.length_drop, List.length_take]; rfl)) ?_; (with_reducible refine (slices_Clone_int64_int64.calls _ _ l0_2 t385 _ ?side1 ?side2 A22.out).mono ?_); (case side1 => repeat (first | exact (Kd.C_below HR0_2.out HB.out) | (with_reducible refine Kd.C_alloc ?_ _) | (with_reducible refine Kd.C_drewN ?_ _) | (with_reducible refine Kd.C_drew ?_))); (case side2 => exact HC0_2.out); rintro e w25 ⟨v386, rfl, ho0, hb⟩; refine ⟨_, rfl, ?_⟩; have n0_ := Aside0.mk (Kd.S_elder' (by (with_reducible repeat (first | apply Kd.S_alloc | apply Kd.S_drewN | apply Kd.S_drew)); exact HO_3.out) (Kd.R_base ho0) hb); have n1_ := Aside0.mk (Kd.R_lower ho0 (below_size (by repeat (first | (with_reducible first | exact HB.out | apply below_alloc | apply pw_below_drewN | apply below_drew1 | refine below_set ?_ GE372.out | refine below_set ?_ GE373.out) | exact HB.out)))); have n2_ := Aside0.mk (blk_below (g := gb372) (o := .cells #[.int .i64 a0_0, .slice A0_1 l0_1.length c0_1, .slice A0_2 l0_2.length c0_2, .int .i64 a0_3, .int .i64 a0_4, .int .i64 a0_5, .int .i64 a0_6] 30 (0, 0)) (by (with_reducible repeat (first | refine blk_drewN ?_ _ | refine blk_drew ?_ | refine blk_alloc ?_ _)); exact BK372.out) hb); have n3_ := Aside0.mk (blk_below (g := gb373) (o := .cells #[.int .i64 0, .slice none 0 0, .slice none 0 0, .int .i64 0, .int .i64 0, .int .i64 0, .int .i64 0] 30 (0, 0)) (by (with_reducible repeat (first | refine blk_drewN ?_ _ | refine blk_drew ?_ | refine blk_alloc ?_ _)); exact BK373.out) hb); have n4_ := Aside0.mk (below_step (by repeat (first | (with_reducible first | exact HB.out | apply below_alloc | apply pw_below_drewN | apply below_drew1 | refine below_set ?_ GE372.out | refine below_set ?_ GE373.out) | exact HB.out)) hb); clear HO_3; clear BK372; clear BK373; clear HB; have HO_3 := n0_; have HO387 := n1_; have BK372 := n2_; have BK373 := n3_; have HB := n4_; clear n0_ n1_ n2_ n3_ n4_; (try clear hb); (try clear hb2); (try clear hk); (try clear hi); (try clear ho0); obtain ⟨Ao26, co26, eo26⟩ := Kd.S_slice HO_3.out; subst eo26; have hcz27_0 : w25.cell? ⟨gb372, 0, none⟩ = some (.int .i64 a0_0) := (blk_cell BK372.out 0).trans rfl; have hcz27_1 : w25.cell? ⟨gb372, 1, none⟩ = some (.slice A0_1 l0_1.length c0_1) := (blk_cell BK372.out 1).trans rfl; have hcz27_2 : w25.cell? ⟨gb372, 2, none⟩ = some (.slice A0_2 l0_2.length c0_2) := (blk_cell BK372.out 2).trans rfl; have hcz27_3 : w25.cell? ⟨gb372, 3, none⟩ = some (.int .i64 a0_3) := (blk_cell BK372.out 3).trans rfl; have hcz27_4 : w25.cell? ⟨gb372, 4, none⟩ = some (.int .i64 a0_4) := (blk_cell BK372.out 4).trans rfl; have hcz27_5 : w25.cell? ⟨gb372, 5, none⟩ = some (.int .i64 a0_5) := (blk_cell BK372.out 5).trans rfl; have hcz27_6 : w25.cell? ⟨gb372, 6, none⟩ = some (.int .i64 a0_6) := (blk_cell BK372.out 6).trans rfl; have hfz27_0 := blk_frozen BK372.out 0; have hfz27_1 := blk_frozen BK372.out 1; have hfz27_2 := blk_frozen BK372.out 2; have hfz27_3 := blk_frozen BK372.out 3; have hfz27_4 := blk_frozen BK372.out 4; have hfz27_5 := blk_frozen BK372.out 5; have hfz27_6 := blk_frozen BK372.out 6; obtain ⟨Ao28, co28, eo28⟩ := Kd.R_slice HO387.out; subst eo28; have hcz29_0 : w25.cell? ⟨gb373, 0, none⟩ = some (.int .i64 0) := (blk_cell BK373.out 0).trans rfl; have hcz29_1 : w25.cell? ⟨gb373, 1, none⟩ = some (.slice none 0 0) := (blk_cell BK373.out 1).trans rfl; have hcz29_2 : w25.cell? ⟨gb373, 2, none⟩ = some (.slice none 0 0) := (blk_cell BK373.out 2).trans rfl; have hcz29_3 : w25.cell? ⟨gb373, 3, none⟩ = some (.int .i64 0) := (blk_cell BK373.out 3).trans rfl; have hcz29_4 : w25.cell? ⟨gb373, 4, none⟩ = some (.int .i64 0) := (blk_cell BK373.out 4).trans rfl; have hcz29_5 : w25.cell? ⟨gb373, 5, none⟩ = some (.int .i64 0) := (blk_cell BK373.out 5).trans rfl; have hcz29_6 : w25.cell? ⟨gb373, 6, none⟩ = some (.int .i64 0) := (blk_cell BK373.out 6).trans rfl; have hfz29_0 := blk_frozen BK373.out 0; have hfz29_1 := blk_frozen BK373.out 1; have hfz29_2 := blk_frozen BK373.out 2; have hfz29_3 := blk_frozen BK373.out 3; have hfz29_4 := blk_frozen BK373.out 4; have hfz29_5 := blk_frozen BK373.out 5; have hfz29_6 := blk_frozen BK373.out 6))
    refine bodyPost_ret (results_cell_row rfl _ _ gb373 30 #[.int .i64 a0_0, .slice Ao26 x3_1.length co26, .slice Ao28 t385.length co28, .int .i64 a0_3, .int .i64 a0_4, .int .i64 a0_5, .int .i64 a0_6] (0, 0) _ rfl (by (with_reducible repeat (first | refine blk_drewN ?_ _ | refine blk_drew ?_ | refine blk_alloc ?_ _)); refine blk_put (cs := #[.int .i64 a0_0, .slice Ao26 x3_1.length co26, .slice Ao28 t385.length co28, .int .i64 a0_3, .int .i64 a0_4, .int .i64 a0_5, .int .i64 0]) ?_ 6 _ rfl; (with_reducible repeat (first | refine blk_drewN ?_ _ | refine blk_drew ?_ | refine blk_alloc ?_ _)); refine blk_put (cs := #[.int .i64 a0_0, .slice Ao26 x3_1.length co26, .slice Ao28 t385.length co28, .int .i64 a0_3, .int .i64 a0_4, .int .i64 0, .int .i64 0]) ?_ 5 _ rfl; (with_reducible repeat (first | refine blk_drewN ?_ _ | refine blk_drew ?_ | refine blk_alloc ?_ _)); refine blk_put (cs := #[.int .i64 a0_0, .slice Ao26 x3_1.length co26, .slice Ao28 t385.length co28, .int .i64 a0_3, .int .i64 0, .int .i64 0, .int .i64 0]) ?_ 4 _ rfl; (with_reducible repeat (first | refine blk_drewN ?_ _ | refine blk_drew ?_ | refine blk_alloc ?_ _)); refine blk_put (cs := #[.int .i64 a0_0, .slice Ao26 x3_1.length co26, .slice Ao28 t385.length co28, .int .i64 0, .int .i64 0, .int .i64 0, .int .i64 0]) ?_ 3 _ rfl; (with_reducible repeat (first | refine blk_drewN ?_ _ | refine blk_drew ?_ | refine blk_alloc ?_ _)); refine blk_put (cs := #[.int .i64 a0_0, .slice Ao26 x3_1.length co26, .slice none 0 0, .int .i64 0, .int .i64 0, .int .i64 0, .int .i64 0]) ?_ 2 _ rfl; (with_reducible repeat (first | refine blk_drewN ?_ _ | refine blk_drew ?_ | refine blk_alloc ?_ _)); refine blk_put (cs := #[.int .i64 a0_0, .slice none 0 0, .slice none 0 0, .int .i64 0, .int .i64 0, .int .i64 0, .int .i64 0]) ?_ 1 _ rfl; (with_reducible repeat (first | refine blk_drewN ?_ _ | refine blk_drew ?_ | refine blk_alloc ?_ _)); refine blk_put (cs := #[.int .i64 0, .slice none 0 0, .slice none 0 0, .int .i64 0, .int .i64 0, .int .i64 0, .int .i64 0]) ?_ 0 _ rfl; (with_reducible repeat (first | refine blk_drewN ?_ _ | refine blk_drew ?_ | refine blk_alloc ?_ _)); refine blk_far ?_ NB373_372.out _; (with_reducible repeat (first | refine blk_drewN ?_ _ | refine blk_drew ?_ | refine blk_alloc ?_ _)); refine blk_far ?_ NB373_372.out _; (with_reducible repeat (first | refine blk_drewN ?_ _ | refine blk_drew ?_ | refine blk_alloc ?_ _)); exact BK373.out) Try.underlying30 rfl (by kernel_rfl)) rfl ?_
    exact ⟨_, _, by first | rfl | (simp [errW_none, errW_some] <;> rfl) | (simp [*, errW_none, errW_some] <;> rfl), by (with_reducible repeat (first | apply Kd.S_alloc | apply Kd.S_drewN | apply Kd.S_drew)); exact Kd.S_mono (Kd.S_far (p := ⟨gb373, 6, none⟩) (Kd.S_far (p := ⟨gb373, 5, none⟩) (Kd.S_far (p := ⟨gb373, 4, none⟩) (Kd.S_far (p := ⟨gb373, 3, none⟩) (Kd.S_far (p := ⟨gb373, 2, none⟩) (Kd.S_far (p := ⟨gb373, 1, none⟩) (Kd.S_far (p := ⟨gb373, 0, none⟩) (Kd.S_far (p := ⟨gb372, 2, none⟩) (Kd.S_far (p := ⟨gb372, 1, none⟩) (Kd.S_types (Kd.S_types HO_3.out BK372.out (by decide)) BK373.out (by decide)) (fun _ hk => hk.1.2) (.slice Ao26 x3_1.length co26)) (fun _ hk => hk.1.2) (.slice Ao28 t385.length co28)) (fun _ hk => hk.2) (.int .i64 a0_0)) (fun _ hk => hk.2) (.slice Ao26 x3_1.length co26)) (fun _ hk => hk.2) (.slice Ao28 t385.length co28)) (fun _ hk => hk.2) (.int .i64 a0_3)) (fun _ hk => hk.2) (.int .i64 a0_4)) (fun _ hk => hk.2) (.int .i64 a0_5)) (fun _ hk => hk.2) (.int .i64 a0_6)) (fun _ hk => hk.1.1.2), by (with_reducible repeat (first | apply Kd.R_alloc | apply Kd.R_drewN | apply Kd.R_drew)); exact Kd.R_mono (Kd.R_far (p := ⟨gb373, 6, none⟩) (Kd.R_far (p := ⟨gb373, 5, none⟩) (Kd.R_far (p := ⟨gb373, 4, none⟩) (Kd.R_far (p := ⟨gb373, 3, none⟩) (Kd.R_far (p := ⟨gb373, 2, none⟩) (Kd.R_far (p := ⟨gb373, 1, none⟩) (Kd.R_far (p := ⟨gb373, 0, none⟩) (Kd.R_far (p := ⟨gb372, 2, none⟩) (Kd.R_far (p := ⟨gb372, 1, none⟩) (Kd.R_types (Kd.R_types HO387.out BK372.out (by decide)) BK373.out (by decide)) (fun _ hk => hk.1.2) (.slice Ao26 x3_1.length co26)) (fun _ hk => hk.1.2) (.slice Ao28 t385.length co28)) (fun _ hk => hk.2) (.int .i64 a0_0)) (fun _ hk => hk.2) (.slice Ao26 x3_1.length co26)) (fun _ hk => hk.2) (.slice Ao28 t385.length co28)) (fun _ hk => hk.2) (.int .i64 a0_3)) (fun _ hk => hk.2) (.int .i64 a0_4)) (fun _ hk => hk.2) (.int .i64 a0_5)) (fun _ hk => hk.2) (.int .i64 a0_6)) (fun _ hk => trivial), by repeat (first | (with_reducible first | exact HB.out | apply below_alloc | apply pw_below_drewN | apply below_drew1 | refine below_set ?_ GE372.out | refine below_set ?_ GE373.out) | exact HB.out)⟩

end Go.Proofs.Ytalafmahgeejiaa.Pa

namespace Go.Proofs.Ytalafmahgeejiaa.Pa
open Go.RowKit Go.Proofs.YtalafmahgeejiaaW.PrintWords Go.Proofs.YtalafmahgeejiaaW.PrintLast Go.Proofs.YtalafmahgeejiaaW.PrintMore
attribute [local go_sem] max2_int min2_int max_two min_two max_three min_three max_four min_four   -- for this text's walks alone
set_option linter.unusedVariables false
set_option linter.unusedSimpArgs false

/-! ### impl_PadCircuit_1: function 100061 -/
/-- The test that PadCircuit hands on: a number that is no delay. -/
def badPad (x : Int) : Bool := !(decide (0 ≤ x) && decide (x ≤ 100))
def impl_PadCircuit_1.f (l : List Int) : Option Bool := some (l.any badPad)
set_option maxHeartbeats 4000000 in
set_option maxRecDepth 100000 in
theorem impl_PadCircuit_1.test (w W : World) (x : Int) (hb : Below w.heap.size w W) :
  Calls Try.prog 61 (#[.int .i64 x] ++ #[]) W fun e w' => e = .returned (.bool (badPad x)) ∧ Below w.heap.size w w' := by
 have HB := Aside0.mk hb
 clear hb
 have hq : impl_isDelay.f x = some (decide (0 ≤ x) && decide (x ≤ 100)) := by
  unfold impl_isDelay.f impl_within.f
  by_cases h : 0 ≤ x <;> simp [h]
 have HQ := Aside0.mk hq
 clear hq
 unfold badPad
 generalize (decide (0 ≤ x) && decide (x ≤ 100)) = q at HQ ⊢
 show Calls Try.prog 61 #[.int .i64 x] W _
 go_enter Try.func61, Try.ntmps61
 go_wp2_with (go_at_call 50; refine (impl_isDelay.calls _ q _ HQ.out).mono ?_; rintro e w' ⟨rfl, ⟨nd, rfl⟩⟩)
 go_ret
 exact ⟨rfl, pw_below_drewN HB.out nd⟩
theorem impl_PadCircuit_1.calls (A : Option Addr) (c : Nat) (l : List Int) (r : Bool) (w : World) (hr : Kd.C (Kd.int .i64) w A l.length l) (hc : l.length ≤ c) (h : impl_PadCircuit_1.f l = some r) :
  Calls Try.prog 52 #[.slice A l.length c, .func (.func 61) #[] #[]] w fun e w' => e = .returned (.bool r) ∧ Below w.heap.size w w' := by
 obtain rfl := Option.some.inj h
 exact containsI.calls A c l 61 #[] badPad w hr (enters_of Try.func61 (by kernel_rfl) rfl) (fun W x _ hb => impl_PadCircuit_1.test w W x hb)

end Go.Proofs.Ytalafmahgeejiaa.Pa

