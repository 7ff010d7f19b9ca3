-- Written for this claim by a program of this session.
import Derived.Test.YtbkofbcmhddbfaaPCoreP1
import Derived.Test.YtbkofbcmhddbfaaPCoreP2
import Derived.Test.YtbkofbcmhddbfaaPPax0
import Derived.Shelf.Abstract
/- The delays from a register to each node: the program's table and the reference's are one. -/
namespace Go.Proofs.Ytbkofbcmhddbfaa.Pure
open Go.RowKit Go.Proofs.Ytbkofbcmhddbfaa.Pa Go.Proofs.YtbkofbcmhddbfaaW.PrintWords Go.Proofs.YtbkofbcmhddbfaaW.PrintLast
set_option linter.unusedVariables false
set_option linter.unusedSimpArgs false

/-- The least and the greatest delay on ways to a node, if there is one. -/
abbrev Way := Option (Int × Int)
def lo : Way → Int
 | none => -1
 | some p => p.1
def hi : Way → Int
 | none => -1
 | some p => p.2
/-- One more input of a gate. -/
def joinG (g : S36) : Way → Way → Way
 | acc, none => acc
 | none, some p => some (p.1 + g.f0, p.2 + g.f1)
 | some q, some p => some (if p.1 + g.f0 < q.1 then p.1 + g.f0 else q.1, if q.2 < p.2 + g.f1 then p.2 + g.f1 else q.2)
def joins (g : S36) (t : List Way) : Way → List Int → Way
 | acc, [] => acc
 | acc, x :: l => joins g t (joinG g acc (t.getD x.toNat none)) l
def tabG : List Way → List S36 → List Way
 | t, [] => t
 | t, g :: l => tabG (t ++ [joins g t none g.f2]) l
def tab0 (a : Int) (n : Nat) : List Way := (List.range n).map fun r : Nat => if (r : Int) = a then some (0, 0) else none
/-- The table of all nodes, from a register. -/
def tab (a n : Int) (gates : List S36) : List Way := tabG (tab0 a n.toNat) gates
def Bd (m : Int) (v : Way) : Prop := ∀ p, v = some p → 0 ≤ p.1 ∧ p.1 ≤ p.2 ∧ p.2 ≤ m
theorem Bd.none (m : Int) : Bd m none := fun _ h => by simp at h
theorem Bd.mono {m m' : Int} {v : Way} (h : Bd m v) (hm : m ≤ m') : Bd m' v := fun p hp => by
 have := h p hp
 exact ⟨this.1, this.2.1, by omega⟩
theorem joinG_bd {g : S36} {m : Int} (hg : 0 ≤ g.f0 ∧ g.f0 ≤ g.f1 ∧ g.f1 ≤ 100) {acc v : Way} (ha : Bd (m + 100) acc) (hv : Bd m v) : Bd (m + 100) (joinG g acc v) := by
 intro p hp
 cases v with
 | none =>
  simp only [joinG] at hp
  exact ha p hp
 | some q =>
  have h1 := hv q rfl
  cases acc with
  | none =>
   simp only [joinG, Option.some.injEq] at hp
   subst hp
   exact ⟨by dsimp only; omega, by dsimp only; omega, by dsimp only; omega⟩
  | some r =>
   have h2 := ha r rfl
   simp only [joinG, Option.some.injEq] at hp
   subst hp
   dsimp only
   refine ⟨?_, ?_, ?_⟩ <;> (repeat' split) <;> omega
theorem getD_bd {m : Int} {t : List Way} (ht : ∀ v ∈ t, Bd m v) (i : Nat) : Bd m (t.getD i none) := by
 rw [List.getD_eq_getElem?_getD]
 by_cases h : i < t.length
 ·rw [List.getElem?_eq_getElem h]
  exact ht _ (List.getElem_mem h)
 ·rw [List.getElem?_eq_none (by omega)]
  exact Bd.none m
theorem joins_bd {g : S36} {m : Int} (hg : 0 ≤ g.f0 ∧ g.f0 ≤ g.f1 ∧ g.f1 ≤ 100) {t : List Way} (ht : ∀ v ∈ t, Bd m v) (l : List Int) : ∀ acc, Bd (m + 100) acc → Bd (m + 100) (joins g t acc l) := by
 induction l with
 | nil => intro acc h; exact h
 | cons x l ih => intro acc h; exact ih _ (joinG_bd hg h (getD_bd ht _))
theorem tabG_cons (t : List Way) (g : S36) (l : List S36) : tabG t (g :: l) = tabG (t ++ [joins g t none g.f2]) l := rfl
/-- What is known of a circuit's gates, read from a place on. -/
structure Gates (n : Int) (gates : List S36) : Prop where
 n0 : 1 ≤ n
 n1 : n ≤ 6
 len : gates.length ≤ 10
 gate : ∀ (i : Nat) (h : i < gates.length), 0 ≤ gates[i].f0 ∧ gates[i].f0 ≤ gates[i].f1 ∧ gates[i].f1 ≤ 100 ∧ gates[i].f2 ≠ [] ∧ ∀ x ∈ gates[i].f2, 0 ≤ x ∧ x ≤ n + i - 1
 wide : ∀ (i : Nat) (h : i < gates.length), gates[i].f2.length ≤ 1048576
theorem append_bd {m : Int} {t : List Way} {v : Way} (ht : ∀ v ∈ t, Bd m v) (hv : Bd (m + 100) v) : ∀ u ∈ t ++ [v], Bd (m + 100) u := by
 intro u hu
 rcases List.mem_append.mp hu with hu | hu
 ·exact (ht u hu).mono (by omega)
 ·rw [List.mem_singleton.mp hu]
  exact hv
theorem tab0_len (a : Int) (i : Nat) : (tab0 a i).length = i := by simp [tab0]
theorem tab0_bd (a : Int) (i : Nat) : ∀ v ∈ tab0 a i, Bd 0 v := by
 intro v hv p hp
 unfold tab0 at hv
 obtain ⟨r, _, rfl⟩ := List.mem_map.mp hv
 split at hp
 ·simp only [Option.some.injEq] at hp
  subst hp
  simp
 ·simp at hp
/-- The least and the greatest delay between two registers, if there is a path. -/
def pathO (n : Int) (gates : List S36) (data : List Int) (a5 a6 a b : Int) : Way := ((tab a n gates).getD (rd data b).toNat none).map fun p => (wrap64 (p.1 + a5), wrap64 (p.2 + a6))
end Go.Proofs.Ytbkofbcmhddbfaa.Pure

namespace Go.Proofs.Ytbkofbcmhddbfaa.Pa
open Go.RowKit Go.Proofs.YtbkofbcmhddbfaaW.PrintWords Go.Proofs.YtbkofbcmhddbfaaW.PrintLast Go.Proofs.YtbkofbcmhddbfaaW.PrintMore
attribute [local go_sem] max2_int min2_int max_two min_two max_three min_three max_four min_four   -- for this text's walks alone
set_option linter.unusedVariables false
set_option linter.unusedSimpArgs false

/-! ### impl_Circuit_links: function 22 -/
mutual
def impl_Circuit_links.l0 : Nat → List (S54) → Int → Int → Int → List (S36) → List Int → Int → Int → Int → Int → Option ((List (S54)))
 | 0, _, _, _, _, _, _, _, _, _, _ => none
 | k + 1, x3, x12, x13, x230000, x230001, x230002, x230003, x230004, x230005, x230006 => if x13 < x12 then ((impl_Circuit_delays.f k x230000 x230001 x230002 x230003 x230004 x230005 x230006 x13).bind fun bt233 => (impl_Circuit_links.l1 k x3 x13 bt233.1 bt233.2.1 bt233.2.2 x12 x13 x230002 (x230002.length : Int) 0 x230000 x230001 x230002 x230003 x230004 x230005 x230006)) else (some x3)
def impl_Circuit_links.l1 : Nat → List (S54) → Int → List Int → List Int → List Bool → Int → Int → List Int → Int → Int → Int → List (S36) → List Int → Int → Int → Int → Int → Option ((List (S54)))
 | 0, _, _, _, _, _, _, _, _, _, _, _, _, _, _, _, _, _ => none
 | k + 1, x3, x4, x5, x6, x7, x12, x13, x24, x25, x26, x230000, x230001, x230002, x230003, x230004, x230005, x230006 => if x26 < x25 then (if 0 ≤ x26 then (if x26 < (x24.length : Int) then (if 0 ≤ (rd x24 x26) then (if (rd x24 x26) < (x7.length : Int) then (if rdOf false x7 (rd x24 x26) = true then (if (rd x24 x26) < (x5.length : Int) then (if (rd x24 x26) < (x6.length : Int) then (if x3.length < 4398046511104 then (impl_Circuit_links.l1 k (x3 ++ [(⟨x4, x26, wrap64 ((rd x5 (rd x24 x26)) + x230005), wrap64 ((rd x6 (rd x24 x26)) + x230006)⟩ : S54)]) x4 x5 x6 x7 x12 x13 x24 x25 (wrap64 (x26 + 1)) x230000 x230001 x230002 x230003 x230004 x230005 x230006) else (none)) else (none)) else (none)) else (impl_Circuit_links.l1 k x3 x4 x5 x6 x7 x12 x13 x24 x25 (wrap64 (x26 + 1)) x230000 x230001 x230002 x230003 x230004 x230005 x230006)) else (none)) else (none)) else (none)) else (none)) else (impl_Circuit_links.l0 k x3 x12 (wrap64 (x13 + 1)) x230000 x230001 x230002 x230003 x230004 x230005 x230006)
end
def impl_Circuit_links.f (k : Nat) (a0_0 : Int) (l0_1 : List (S36)) (l0_2 : List Int) (a0_3 : Int) (a0_4 : Int) (a0_5 : Int) (a0_6 : Int) : Option ((List (S54))) := impl_Circuit_links.l0 k (([] : List (S54))) a0_0 0 a0_0 l0_1 l0_2 a0_3 a0_4 a0_5 a0_6
def impl_Circuit_links.T10 : Bool × List (List Nat × List Nat) := (true, [([], []), ([], []), ([], []), ([], []), ([], []), ([3, 4], [3, 4]), ([5], [5]), ([], []), ([7], [7]), ([6, 8], [6, 8]), ([], []), ([], []), ([10, 11], [10, 11]), ([12], [12]), ([], []), ([14], [14]), ([13, 15], [13, 15]), ([1, 2, 9, 16], [1, 2, 9, 16]), ([17], [17]), ([0, 18], [0, 18]), ([19, 19, 0, 1, 2, 3, 4, 5, 6, 7, 8, 9, 10, 11, 12, 13, 14, 15, 16, 17, 18, 19], [0, 19])])
def impl_Circuit_links.B10 : List Nat := [0, 0, 0, 0, 0, 24, 56, 0, 128, 504, 0, 0, 3072, 7168, 0, 16384, 64512, 131070, 262142, 524287, 1048575]
theorem impl_Circuit_links.tab10 : rtab .any (opsOf Try.f22 10) = impl_Circuit_links.T10 := by kernel_rfl
theorem impl_Circuit_links.bits10 : waitsOk impl_Circuit_links.T10.2 impl_Circuit_links.B10 = true := by kernel_rfl
set_option maxHeartbeats 8000000 in
set_option maxRecDepth 100000 in
theorem impl_Circuit_links.calls (k : Nat) (a0_0 : Int) (A0_1 : Option Addr) (c0_1 : Nat) (l0_1 : List (S36)) (A0_2 : Option Addr) (c0_2 : Nat) (l0_2 : List Int) (a0_3 : Int) (a0_4 : Int) (a0_5 : Int) (a0_6 : Int) (r : List (S54)) (w : World) (hr0_1 : Kd.C k36 w A0_1 l0_1.length l0_1) (hc0_1 : l0_1.length ≤ c0_1) (hr0_2 : Kd.C (Kd.int .i64) w A0_2 l0_2.length l0_2) (hc0_2 : l0_2.length ≤ c0_2) (h : impl_Circuit_links.f k a0_0 l0_1 l0_2 a0_3 a0_4 a0_5 a0_6 = some r) :
  Calls Try.prog 22 #[.agg #[.int .i64 a0_0, .slice A0_1 l0_1.length c0_1, .slice A0_2 l0_2.length c0_2, .int .i64 a0_3, .int .i64 a0_4, .int .i64 a0_5, .int .i64 a0_6]] w fun e w' => ∃ v0_ : Value, e = .returned (v0_) ∧ Kd.R k54 54 w' w.heap.size (fun _ => True) v0_ r ∧ Below w.heap.size w w' := by
 have hu27 := Try.underlying27
 have hu54 := Try.underlying54
 have HR0_1 := Aside0.mk hr0_1
 have HC0_1 := Aside0.mk hc0_1
 clear hr0_1 hc0_1
 have HR0_2 := Aside0.mk hr0_2
 have HC0_2 := Aside0.mk hc0_2
 clear hr0_2 hc0_2
 have HB := Aside0.mk (Below.refl w.heap.size w)
 have H : (impl_Circuit_links.l0 k (([] : List (S54))) a0_0 0 a0_0 l0_1 l0_2 a0_3 a0_4 a0_5 a0_6) = some r := h
 clear h
 obtain ⟨y230, hy230⟩ : ∃ y_ : List (S54), y_ = (([] : List (S54))) := ⟨_, rfl⟩
 (try rw [Option.bind_some] at H); try rw [← hy230] at H
 have Ny230 := Aside0.mk hy230
 clear hy230
 have H' := Aside0.mk H
 clear H
 go_enter Try.func22, Try.ntmps22
 go_wp2_with (first | ((with_reducible refine gate_dst (N := 1) rfl ?_); refine box_event ?hg (N := 1) ?hd (cs := #[.int .i64 a0_0, .slice A0_1 l0_1.length c0_1, .slice A0_2 l0_2.length c0_2, .int .i64 a0_3, .int .i64 a0_4, .int .i64 a0_5, .int .i64 a0_6]) (t := 27) ?hr ?_; (case hd => rfl); (case hg => rfl); (case hr => first | (go_simp; done) | (go_simp; rfl)); intro gb229 hg w2 hbox hb; have n0_ := Aside0.mk (below_step (by with_reducible repeat (first | exact HB.out | apply below_alloc | apply pw_below_drewN | apply below_drew1)) hb); have n1_ := Aside0.mk (hbox); have n2_ := Aside0.mk ((by rw [hg]; exact (below_size (by with_reducible repeat (first | exact HB.out | apply below_alloc | apply pw_below_drewN | apply below_drew1))) : w.heap.size ≤ gb229)); have n3_ := Aside0.mk ((by rw [hg]; exact (below_size (by with_reducible repeat (first | exact HB.out | apply below_alloc | apply pw_below_drewN | apply below_drew1))) : w.heap.size ≤ gb229)); clear HB; have HB := n0_; have BK229 := n1_; have GW229 := n2_; have GE229 := n3_; clear n0_ n1_ n2_ n3_; clear hb hbox hg) | ((with_reducible refine gate_dst (N := 10) rfl ?_); refine Kd.R_lit k54 _ 54 ?hg (N := 10) ?hd (xs := ([] : List (S54))) (inner := []) (ok := fun _ => True) (okp := fun _ => True) ?hr ?hp (fun _ hk => hk) trivial (Below.refl _ _) (Nat.le_refl _) (by simp) ?_; (case hd => rfl); (case hg => rfl); (case hr => first | (go_simp; done) | (go_simp; rfl)); (case hp => exact (Reps.none _ _)); intro v231 w3 ho4 hb hg_ hnew_; clear hg_ hnew_; (first | rw [← Ny230.out] at ho4 | (simp only [Int.reduceToNat] at ho4; rw [← Ny230.out] at ho4)); have n0_ := Aside0.mk (Kd.R_lower ho4 (below_size (by with_reducible repeat (first | exact HB.out | apply below_alloc | apply pw_below_drewN | apply below_drew1 | refine below_set ?_ GE229.out)))); have n1_ := Aside0.mk (blk_below (g := gb229) (by (with_reducible repeat (first | refine blk_drewN ?_ _ | refine blk_drew ?_ | refine blk_alloc ?_ _)); exact BK229.out) hb); have n2_ := Aside0.mk (below_step (by with_reducible repeat (first | exact HB.out | apply below_alloc | apply pw_below_drewN | apply below_drew1 | refine below_set ?_ GE229.out)) hb); clear BK229; clear HB; have HO232 := n0_; have BK229 := n1_; have HB := n2_; clear n0_ n1_ n2_; clear hb ho4; have hcz5_0 : w3.cell? ⟨gb229, 0, none⟩ = some (.int .i64 a0_0) := (blk_cell BK229.out 0).trans rfl; have hcz5_1 : w3.cell? ⟨gb229, 1, none⟩ = some (.slice A0_1 l0_1.length c0_1) := (blk_cell BK229.out 1).trans rfl; have hcz5_2 : w3.cell? ⟨gb229, 2, none⟩ = some (.slice A0_2 l0_2.length c0_2) := (blk_cell BK229.out 2).trans rfl; have hcz5_3 : w3.cell? ⟨gb229, 3, none⟩ = some (.int .i64 a0_3) := (blk_cell BK229.out 3).trans rfl; have hcz5_4 : w3.cell? ⟨gb229, 4, none⟩ = some (.int .i64 a0_4) := (blk_cell BK229.out 4).trans rfl; have hcz5_5 : w3.cell? ⟨gb229, 5, none⟩ = some (.int .i64 a0_5) := (blk_cell BK229.out 5).trans rfl; have hcz5_6 : w3.cell? ⟨gb229, 6, none⟩ = some (.int .i64 a0_6) := (blk_cell BK229.out 6).trans rfl; have hfz5_0 := blk_frozen BK229.out 0; have hfz5_1 := blk_frozen BK229.out 1; have hfz5_2 := blk_frozen BK229.out 2; have hfz5_3 := blk_frozen BK229.out 3; have hfz5_4 := blk_frozen BK229.out 4; have hfz5_5 := blk_frozen BK229.out 5; have hfz5_6 := blk_frozen BK229.out 6))
 go_loopg [3, 13] k (fun kq v3 v13 w' => ∃ (x3_1 : List (S54)) (x13_1 : Int), v13 = .int .i64 x13_1 ∧ Aside0 (impl_Circuit_links.l0 kq x3_1 a0_0 x13_1 a0_0 l0_1 l0_2 a0_3 a0_4 a0_5 a0_6 = some r) ∧ Aside0 (kq ≤ k) ∧ Aside0 (Kd.R k54 54 w' w.heap.size (fun _ => True) v3 x3_1) ∧ Aside0 (w'.heap[gb229]? = some (.cells #[.int .i64 a0_0, (.slice A0_1 l0_1.length c0_1), (.slice A0_2 l0_2.length c0_2), .int .i64 a0_3, .int .i64 a0_4, .int .i64 a0_5, .int .i64 a0_6] 27 (0, 0))) ∧ Aside0 (Below w.heap.size w w'))
 case atStart => exact ⟨(y230), (0), (by first | rfl | (simp; done) | (simp [*]; done)), H', ⟨Nat.le_refl _⟩, ⟨by (with_reducible repeat (first | apply Kd.R_alloc | apply Kd.R_drewN | apply Kd.R_drew)); exact HO232.out⟩, ⟨by (with_reducible repeat (first | refine blk_drewN ?_ _ | refine blk_drew ?_ | refine blk_alloc ?_ _)); exact BK229.out⟩, ⟨by with_reducible repeat (first | exact HB.out | apply below_alloc | apply pw_below_drewN | apply below_drew1 | refine below_set ?_ GE229.out)⟩⟩
 case round =>
  clear H'
  try clear c2
  try clear p2
  try clear hcz5_0
  try clear hcz5_1
  try clear hcz5_2
  try clear hcz5_3
  try clear hcz5_4
  try clear hcz5_5
  try clear hcz5_6
  try clear hfz5_0
  try clear hfz5_1
  try clear hfz5_2
  try clear hfz5_3
  try clear hfz5_4
  try clear hfz5_5
  try clear hfz5_6
  obtain ⟨x3_1, x13_1, rfl, HA, HK1, HO_3, BK229, HB⟩ := hrel
  cases gk with
  | zero => exact absurd HA.out (by simp [impl_Circuit_links.l0])
  | succ k1 =>
   have H := HA.out
   clear HA
   simp only [impl_Circuit_links.l0] at H
   by_cases c6 : x13_1 < a0_0
   ·rw [if_pos c6] at H
    have c6b0 : decide (x13_1 < a0_0) = true := decide_eq_true c6
    clear c6
    replace H := Option.bind_eq_some_iff.mp H
    obtain ⟨⟨t233, t236, t239⟩, A70, H⟩ := H
    try dsimp only at H
    have A7 := Aside0.mk A70
    clear A70
    have H' := Aside0.mk H
    clear H
    have hcz8_0 : wr.cell? ⟨gb229, 0, none⟩ = some (.int .i64 a0_0) := (blk_cell BK229.out 0).trans rfl
    have hcz8_1 : wr.cell? ⟨gb229, 1, none⟩ = some (.slice A0_1 l0_1.length c0_1) := (blk_cell BK229.out 1).trans rfl
    have hcz8_2 : wr.cell? ⟨gb229, 2, none⟩ = some (.slice A0_2 l0_2.length c0_2) := (blk_cell BK229.out 2).trans rfl
    have hcz8_3 : wr.cell? ⟨gb229, 3, none⟩ = some (.int .i64 a0_3) := (blk_cell BK229.out 3).trans rfl
    have hcz8_4 : wr.cell? ⟨gb229, 4, none⟩ = some (.int .i64 a0_4) := (blk_cell BK229.out 4).trans rfl
    have hcz8_5 : wr.cell? ⟨gb229, 5, none⟩ = some (.int .i64 a0_5) := (blk_cell BK229.out 5).trans rfl
    have hcz8_6 : wr.cell? ⟨gb229, 6, none⟩ = some (.int .i64 a0_6) := (blk_cell BK229.out 6).trans rfl
    have hfz8_0 := blk_frozen BK229.out 0
    have hfz8_1 := blk_frozen BK229.out 1
    have hfz8_2 := blk_frozen BK229.out 2
    have hfz8_3 := blk_frozen BK229.out 3
    have hfz8_4 := blk_frozen BK229.out 4
    have hfz8_5 := blk_frozen BK229.out 5
    have hfz8_6 := blk_frozen BK229.out 6
    go_wp2_with (first | ((with_reducible refine gate_callee (f := 43) rfl ?_); refine goesL_ (some 19) rfl rfl Try.func43 (by kernel_rfl) rfl #[.agg #[.int .i64 a0_0, .slice A0_1 l0_1.length c0_1, .slice A0_2 l0_2.length c0_2, .int .i64 a0_3, .int .i64 a0_4, .int .i64 a0_5, .int .i64 a0_6], .int .i64 x13_1] rfl (by (try simp only [List.map_toArray, List.map_cons, List.map_nil]); first | done | rfl | (simp only [List.length_drop, List.length_take]; rfl)) ?_; (with_reducible refine (impl_Circuit_delays.calls k1 a0_0 _ _ l0_1 _ _ l0_2 a0_3 a0_4 a0_5 a0_6 x13_1 t233 t236 t239 _ ?side1 ?side2 ?side3 ?side4 A7.out).mono ?_); (case side1 => repeat (first | exact (Kd.C_below HR0_1.out HB.out) | (with_reducible refine Kd.C_alloc ?_ _) | (with_reducible refine Kd.C_drewN ?_ _) | (with_reducible refine Kd.C_drew ?_))); (case side2 => exact HC0_1.out); (case side3 => repeat (first | exact (Kd.C_below HR0_2.out HB.out) | (with_reducible refine Kd.C_alloc ?_ _) | (with_reducible refine Kd.C_drewN ?_ _) | (with_reducible refine Kd.C_drew ?_))); (case side4 => exact HC0_2.out); rintro e w9 ⟨v234, v237, v240, rfl, ho0, ho1, ho2, hb⟩; refine ⟨_, rfl, ?_⟩; have n0_ := Aside0.mk (Kd.R_below (by (with_reducible repeat (first | apply Kd.R_alloc | apply Kd.R_drewN | apply Kd.R_drew)); exact HO_3.out) hb); have n1_ := Aside0.mk (Kd.R_lower ho0 (below_size (by with_reducible repeat (first | exact HB.out | apply below_alloc | apply pw_below_drewN | apply below_drew1 | refine below_set ?_ GE229.out)))); have n2_ := Aside0.mk (Kd.R_lower ho1 (below_size (by with_reducible repeat (first | exact HB.out | apply below_alloc | apply pw_below_drewN | apply below_drew1 | refine below_set ?_ GE229.out)))); have n3_ := Aside0.mk (Kd.R_lower ho2 (below_size (by with_reducible repeat (first | exact HB.out | apply below_alloc | apply pw_below_drewN | apply below_drew1 | refine below_set ?_ GE229.out)))); have n4_ := Aside0.mk (blk_below (g := gb229) (by (with_reducible repeat (first | refine blk_drewN ?_ _ | refine blk_drew ?_ | refine blk_alloc ?_ _)); exact BK229.out) hb); have n5_ := Aside0.mk (below_step (by with_reducible repeat (first | exact HB.out | apply below_alloc | apply pw_below_drewN | apply below_drew1 | refine below_set ?_ GE229.out)) hb); clear HO_3; clear BK229; clear HB; have HO_3 := n0_; have HO235 := n1_; have HO238 := n2_; have HO241 := n3_; have BK229 := n4_; have HB := n5_; clear n0_ n1_ n2_ n3_ n4_ n5_; (try clear hb); (try clear hb2); (try clear hk); (try clear hi); (try clear ho0); (try clear ho1); (try clear ho2); have hcz10_0 : w9.cell? ⟨gb229, 0, none⟩ = some (.int .i64 a0_0) := (blk_cell BK229.out 0).trans rfl; have hcz10_1 : w9.cell? ⟨gb229, 1, none⟩ = some (.slice A0_1 l0_1.length c0_1) := (blk_cell BK229.out 1).trans rfl; have hcz10_2 : w9.cell? ⟨gb229, 2, none⟩ = some (.slice A0_2 l0_2.length c0_2) := (blk_cell BK229.out 2).trans rfl; have hcz10_3 : w9.cell? ⟨gb229, 3, none⟩ = some (.int .i64 a0_3) := (blk_cell BK229.out 3).trans rfl; have hcz10_4 : w9.cell? ⟨gb229, 4, none⟩ = some (.int .i64 a0_4) := (blk_cell BK229.out 4).trans rfl; have hcz10_5 : w9.cell? ⟨gb229, 5, none⟩ = some (.int .i64 a0_5) := (blk_cell BK229.out 5).trans rfl; have hcz10_6 : w9.cell? ⟨gb229, 6, none⟩ = some (.int .i64 a0_6) := (blk_cell BK229.out 6).trans rfl; have hfz10_0 := blk_frozen BK229.out 0; have hfz10_1 := blk_frozen BK229.out 1; have hfz10_2 := blk_frozen BK229.out 2; have hfz10_3 := blk_frozen BK229.out 3; have hfz10_4 := blk_frozen BK229.out 4; have hfz10_5 := blk_frozen BK229.out 5; have hfz10_6 := blk_frozen BK229.out 6))
    go_loopg [3, 26] k1 (fun kq v3 v26 w' => ∃ (x3_2 : List (S54)) (x26_2 : Int), v26 = .int .i64 x26_2 ∧ Aside0 (impl_Circuit_links.l1 kq x3_2 x13_1 t233 t236 t239 a0_0 x13_1 l0_2 (l0_2.length : Int) x26_2 a0_0 l0_1 l0_2 a0_3 a0_4 a0_5 a0_6 = some r) ∧ Aside0 (kq ≤ k1) ∧ Aside0 (Kd.R k54 54 w' w.heap.size (fun _ => True) v3 x3_2) ∧ Aside0 (Kd.R (Kd.int .i64) 2 w' w.heap.size (fun k_ => some k_ ≠ (v237 : Value).ownBlock) v234 t233) ∧ Aside0 (Kd.R (Kd.int .i64) 2 w' w.heap.size (fun k_ => some k_ ≠ (v234 : Value).ownBlock) v237 t236) ∧ Aside0 (Kd.R Kd.bool 4 w' w.heap.size (fun _ => True) v240 t239) ∧ Aside0 (w'.heap[gb229]? = some (.cells #[.int .i64 a0_0, (.slice A0_1 l0_1.length c0_1), (.slice A0_2 l0_2.length c0_2), .int .i64 a0_3, .int .i64 a0_4, .int .i64 a0_5, .int .i64 a0_6] 27 (0, 0))) ∧ Aside0 (Below w.heap.size w w'))
    case atStart => exact ⟨(x3_1), (0), (by first | rfl | (simp; done) | (simp [*]; done)), H', ⟨Nat.le_refl _⟩, ⟨by (with_reducible repeat (first | apply Kd.R_alloc | apply Kd.R_drewN | apply Kd.R_drew)); exact HO_3.out⟩, ⟨by (with_reducible repeat (first | apply Kd.R_alloc | apply Kd.R_drewN | apply Kd.R_drew)); exact HO235.out⟩, ⟨by (with_reducible repeat (first | apply Kd.R_alloc | apply Kd.R_drewN | apply Kd.R_drew)); exact HO238.out⟩, ⟨by (with_reducible repeat (first | apply Kd.R_alloc | apply Kd.R_drewN | apply Kd.R_drew)); exact HO241.out⟩, ⟨by (with_reducible repeat (first | refine blk_drewN ?_ _ | refine blk_drew ?_ | refine blk_alloc ?_ _)); exact BK229.out⟩, ⟨by with_reducible repeat (first | exact HB.out | apply below_alloc | apply pw_below_drewN | apply below_drew1 | refine below_set ?_ GE229.out)⟩⟩
    case round =>
     clear H'
     try clear c2
     try clear p2
     try clear c4
     try clear c6
     try clear c6b0
     try clear hcz10_0
     try clear hcz10_1
     try clear hcz10_2
     try clear hcz10_3
     try clear hcz10_4
     try clear hcz10_5
     try clear hcz10_6
     try clear hcz5_0
     try clear hcz5_1
     try clear hcz5_2
     try clear hcz5_3
     try clear hcz5_4
     try clear hcz5_5
     try clear hcz5_6
     try clear hcz8_0
     try clear hcz8_1
     try clear hcz8_2
     try clear hcz8_3
     try clear hcz8_4
     try clear hcz8_5
     try clear hcz8_6
     try clear hfz10_0
     try clear hfz10_1
     try clear hfz10_2
     try clear hfz10_3
     try clear hfz10_4
     try clear hfz10_5
     try clear hfz10_6
     try clear hfz5_0
     try clear hfz5_1
     try clear hfz5_2
     try clear hfz5_3
     try clear hfz5_4
     try clear hfz5_5
     try clear hfz5_6
     try clear hfz8_0
     try clear hfz8_1
     try clear hfz8_2
     try clear hfz8_3
     try clear hfz8_4
     try clear hfz8_5
     try clear hfz8_6
     try clear p2
     obtain ⟨x3_2, x26_2, rfl, HA, HK2, HO_3, HO_5, HO_6, HO_7, BK229, HB⟩ := hrel
     cases gk with
     | zero => exact absurd HA.out (by simp [impl_Circuit_links.l1])
     | succ k2 =>
      have H := HA.out
      clear HA
      simp only [impl_Circuit_links.l1] at H
      by_cases c11 : x26_2 < (l0_2.length : Int)
      ·rw [if_pos c11] at H
       have c11b0 : decide (x26_2 < (l0_2.length : Int)) = true := decide_eq_true c11
       clear c11
       by_cases c12 : 0 ≤ x26_2
       case neg => rw [if_neg c12] at H; exact absurd H (by simp)
       rw [if_pos c12] at H
       have c12b0 : decide (0 ≤ x26_2) = true := decide_eq_true c12
       clear c12
       by_cases c13 : x26_2 < (l0_2.length : Int)
       case neg => rw [if_neg c13] at H; exact absurd H (by simp)
       rw [if_pos c13] at H
       have c13b0 : decide (x26_2 < (l0_2.length : Int)) = true := decide_eq_true c13
       clear c13
       by_cases c14 : 0 ≤ (rd l0_2 x26_2)
       case neg => rw [if_neg c14] at H; exact absurd H (by simp)
       rw [if_pos c14] at H
       have c14b0 : decide (0 ≤ (rd l0_2 x26_2)) = true := decide_eq_true c14
       clear c14
       by_cases c15 : (rd l0_2 x26_2) < (t239.length : Int)
       case neg => rw [if_neg c15] at H; exact absurd H (by simp)
       rw [if_pos c15] at H
       have c15b0 : decide ((rd l0_2 x26_2) < (t239.length : Int)) = true := decide_eq_true c15
       clear c15
       obtain ⟨bq16, hbq16⟩ : ∃ b_ : Bool, b_ = (rdOf false t239 (rd l0_2 x26_2)) := ⟨_, rfl⟩
       rw [← hbq16] at H
       have Nbq16 := Aside0.mk hbq16
       clear hbq16
       by_cases c17 : bq16 = true
       ·subst c17
        rw [if_pos rfl] at H
        by_cases c18 : (rd l0_2 x26_2) < (t233.length : Int)
        case neg => rw [if_neg c18] at H; exact absurd H (by simp)
        rw [if_pos c18] at H
        have c18b0 : decide ((rd l0_2 x26_2) < (t233.length : Int)) = true := decide_eq_true c18
        clear c18
        by_cases c19 : (rd l0_2 x26_2) < (t236.length : Int)
        case neg => rw [if_neg c19] at H; exact absurd H (by simp)
        rw [if_pos c19] at H
        have c19b0 : decide ((rd l0_2 x26_2) < (t236.length : Int)) = true := decide_eq_true c19
        clear c19
        by_cases c20 : x3_2.length < 4398046511104
        case neg => rw [if_neg c20] at H; exact absurd H (by simp)
        rw [if_pos c20] at H
        have LMc20 := Aside0.mk c20
        clear c20
        obtain ⟨y246, hy246⟩ : ∃ y_ : List (S54), y_ = (x3_2 ++ [(⟨x13_1, x26_2, wrap64 ((rd t233 (rd l0_2 x26_2)) + a0_5), wrap64 ((rd t236 (rd l0_2 x26_2)) + a0_6)⟩ : S54)]) := ⟨_, rfl⟩
        (try rw [Option.bind_some] at H); try rw [← hy246] at H
        have Ny246 := Aside0.mk hy246
        clear hy246
        have H' := Aside0.mk H
        clear H
        have p242 : 0 ≤ (x26_2 : Int) := of_decide_eq_true (by with_reducible assumption)
        have q242 : x26_2 < (l0_2.length : Int) := of_decide_eq_true (by with_reducible assumption)
        obtain ⟨ad242, e242, hx242_0⟩ := Kd.at_int HR0_2.out x26_2 p242 q242
        cases e242
        replace hx242_0 := (HB.out.cell (World.block_lt_of_cell? w _ hx242_0)).trans hx242_0
        replace p242 := eq_true p242
        replace q242 := eq_true q242
        obtain ⟨Ao21, co21, eo21⟩ := Kd.R_slice HO_7.out
        subst eo21
        have p243 : 0 ≤ ((rd l0_2 x26_2) : Int) := of_decide_eq_true (by with_reducible assumption)
        have q243 : (rd l0_2 x26_2) < (t239.length : Int) := of_decide_eq_true (by with_reducible assumption)
        obtain ⟨ad243, e243, hx243_0⟩ := Kd.at_bool (Kd.R_reads' HO_7.out).2.2 (rd l0_2 x26_2) p243 q243
        (try rw [← Nbq16.out] at hx243_0)
        cases e243
        replace p243 := eq_true p243
        replace q243 := eq_true q243
        try go_wp2
        have n0_ := Aside0.mk (Kd.R_drew HO_3.out)
        have n1_ := Aside0.mk (Kd.R_drew HO_5.out)
        have n2_ := Aside0.mk (Kd.R_drew HO_6.out)
        have n3_ := Aside0.mk (Kd.R_drew HO_7.out)
        have n4_ := Aside0.mk (blk_drew BK229.out)
        have n5_ := Aside0.mk (below_drew1 HB.out)
        clear HO_3
        clear HO_5
        clear HO_6
        clear HO_7
        clear BK229
        clear HB
        have HO_3 := n0_
        have HO_5 := n1_
        have HO_6 := n2_
        have HO_7 := n3_
        have BK229 := n4_
        have HB := n5_
        clear n0_ n1_ n2_ n3_ n4_ n5_
        obtain ⟨Ao23, co23, eo23⟩ := Kd.R_slice HO_5.out
        (first | subst eo23 | (injection eo23 with f1_ f2_ f3_; have f4_ := f1_.symm; have f5_ := f3_.symm; clear f1_ f2_ f3_; subst f4_; subst f5_))
        have p244 : 0 ≤ ((rd l0_2 x26_2) : Int) := of_decide_eq_true (by with_reducible assumption)
        have q244 : (rd l0_2 x26_2) < (t233.length : Int) := of_decide_eq_true (by with_reducible assumption)
        obtain ⟨ad244, e244, hx244_0⟩ := Kd.at_int (Kd.R_reads' HO_5.out).2.2 (rd l0_2 x26_2) p244 q244
        cases e244
        replace p244 := eq_true p244
        replace q244 := eq_true q244
        obtain ⟨Ao24, co24, eo24⟩ := Kd.R_slice HO_6.out
        (first | subst eo24 | (injection eo24 with f1_ f2_ f3_; have f4_ := f1_.symm; have f5_ := f3_.symm; clear f1_ f2_ f3_; subst f4_; subst f5_))
        have p245 : 0 ≤ ((rd l0_2 x26_2) : Int) := of_decide_eq_true (by with_reducible assumption)
        have q245 : (rd l0_2 x26_2) < (t236.length : Int) := of_decide_eq_true (by with_reducible assumption)
        obtain ⟨ad245, e245, hx245_0⟩ := Kd.at_int (Kd.R_reads' HO_6.out).2.2 (rd l0_2 x26_2) p245 q245
        cases e245
        replace p245 := eq_true p245
        replace q245 := eq_true q245
        refine start_ (n := 21) (S := fun w' => w'.cell? ⟨gb229, 0, none⟩ = some (.int .i64 a0_0) ∧ w'.cell? ⟨gb229, 1, none⟩ = some (.slice A0_1 l0_1.length c0_1) ∧ w'.cell? ⟨gb229, 2, none⟩ = some (.slice (some ad242) l0_2.length c0_2) ∧ w'.cell? ⟨gb229, 3, none⟩ = some (.int .i64 a0_3) ∧ w'.cell? ⟨gb229, 4, none⟩ = some (.int .i64 a0_4) ∧ w'.cell? ⟨gb229, 5, none⟩ = some (.int .i64 a0_5) ∧ w'.cell? ⟨gb229, 6, none⟩ = some (.int .i64 a0_6) ∧ w'.cell? (ad244.add ((rd l0_2 x26_2)).toNat) = some (.int .i64 (rd t233 (rd l0_2 x26_2))) ∧ w'.cell? (ad245.add ((rd l0_2 x26_2)).toNat) = some (.int .i64 (rd t236 (rd l0_2 x26_2)))) (ds := [18, 19]) #[false, false, false, false, false, false, false, false, false, false, false, false, false, false, false, false, false, false, false, false, false] (by kernel_rfl) rfl rfl ⟨(blk_cell BK229.out 0).trans rfl, (blk_cell BK229.out 1).trans rfl, (blk_cell BK229.out 2).trans rfl, (blk_cell BK229.out 3).trans rfl, (blk_cell BK229.out 4).trans rfl, (blk_cell BK229.out 5).trans rfl, (blk_cell BK229.out 6).trans rfl, hx244_0, hx245_0⟩ (fun hHeld => ?_); refine with_tabW impl_Circuit_links.tab10 impl_Circuit_links.bits10 (fun HT_ HW_ => ?_)
        generalize wr.drew = w22 at HO_3 HO_5 HO_6 HO_7 BK229 HB hx244_0 hx245_0 hHeld ⊢
        refine pure_ (i := 0) (N := some 35) (v := ?_) (a' := ?_) #[true, false, false, false, false, false, false, false, false, false, false, false, false, false, false, false, false, false, false, false, false] rfl rfl (any_of HT_.out (by kernel_rfl)) (fun _ _ _ h => h) (Or.inl ⟨by rfl, ?_⟩) ?_ ?_
        rotate_left
        ·intro w'
         go_simp
         with_reducible rfl
        rotate_left
        ·simp only [Act.put, List.setIfInBounds_toArray, List.set_cons_zero, List.set_cons_succ, i64_w, i32_w]
         rfl
        refine pure_ (i := 1) (N := some 36) (v := ?_) (a' := ?_) #[true, true, false, false, false, false, false, false, false, false, false, false, false, false, false, false, false, false, false, false, false] rfl rfl (any_of HT_.out (by kernel_rfl)) (fun _ _ _ h => h) (Or.inl ⟨by rfl, ?_⟩) ?_ ?_
        rotate_left
        ·intro w'
         go_simp
         with_reducible rfl
        rotate_left
        ·simp only [Act.put, List.setIfInBounds_toArray, List.set_cons_zero, List.set_cons_succ, i64_w, i32_w]
         rfl
        refine pure_ (i := 2) (N := some 37) (v := ?_) (a' := ?_) #[true, true, true, false, false, false, false, false, false, false, false, false, false, false, false, false, false, false, false, false, false] rfl rfl (any_of HT_.out (by kernel_rfl)) (fun _ _ _ h => h) (Or.inl ⟨by rfl, ?_⟩) ?_ ?_
        rotate_left
        ·intro w'
         go_simp
         with_reducible rfl
        rotate_left
        ·simp only [Act.put, List.setIfInBounds_toArray, List.set_cons_zero, List.set_cons_succ, i64_w, i32_w]
         rfl
        refine pure_ (i := 3) (N := some 38) (v := ?_) (a' := ?_) #[true, true, true, true, false, false, false, false, false, false, false, false, false, false, false, false, false, false, false, false, false] rfl rfl (any_of HT_.out (by kernel_rfl)) (fun _ _ _ h => h) (Or.inl ⟨by rfl, ?_⟩) ?_ ?_
        rotate_left
        ·intro w'
         go_simp
         with_reducible rfl
        rotate_left
        ·simp only [Act.put, List.setIfInBounds_toArray, List.set_cons_zero, List.set_cons_succ, i64_w, i32_w]
         rfl
        refine pure_ (i := 4) (N := some 39) (v := ?_) (a' := ?_) #[true, true, true, true, true, false, false, false, false, false, false, false, false, false, false, false, false, false, false, false, false] rfl rfl (any_of HT_.out (by kernel_rfl)) (fun _ _ _ h => h) (Or.inl ⟨by rfl, ?_⟩) ?_ ?_
        rotate_left
        ·intro w'
         go_simp
         with_reducible rfl
        rotate_left
        ·simp only [Act.put, List.setIfInBounds_toArray, List.set_cons_zero, List.set_cons_succ, i64_w, i32_w]
         rfl
        refine pure_ (i := 5) (N := some 40) (v := ?_) (a' := ?_) #[true, true, true, true, true, true, false, false, false, false, false, false, false, false, false, false, false, false, false, false, false] rfl rfl (any_of HT_.out (by kernel_rfl)) (fun _ _ _ h => h) (Or.inl ⟨by rfl, ?_⟩) ?_ ?_
        rotate_left
        ·intro w'
         go_simp
         with_reducible rfl
        rotate_left
        ·simp only [Act.put, List.setIfInBounds_toArray, List.set_cons_zero, List.set_cons_succ, i64_w, i32_w]
         rfl
        refine pure_ (i := 7) (N := some 42) (v := ?_) (a' := ?_) #[true, true, true, true, true, true, false, true, false, false, false, false, false, false, false, false, false, false, false, false, false] rfl rfl (any_of HT_.out (by kernel_rfl)) (fun _ _ _ h => h) (Or.inl ⟨by rfl, ?_⟩) ?_ ?_
        rotate_left
        ·intro w'
         go_simp
         with_reducible rfl
        rotate_left
        ·simp only [Act.put, List.setIfInBounds_toArray, List.set_cons_zero, List.set_cons_succ, i64_w, i32_w]
         rfl
        refine pure_ (i := 10) (N := some 45) (v := ?_) (a' := ?_) #[true, true, true, true, true, true, false, true, false, false, true, false, false, false, false, false, false, false, false, false, false] rfl rfl (any_of HT_.out (by kernel_rfl)) (fun _ _ _ h => h) (Or.inl ⟨by rfl, ?_⟩) ?_ ?_
        rotate_left
        ·intro w'
         go_simp
         with_reducible rfl
        rotate_left
        ·simp only [Act.put, List.setIfInBounds_toArray, List.set_cons_zero, List.set_cons_succ, i64_w, i32_w]
         rfl
        refine pure_ (i := 11) (N := some 46) (v := ?_) (a' := ?_) #[true, true, true, true, true, true, false, true, false, false, true, true, false, false, false, false, false, false, false, false, false] rfl rfl (any_of HT_.out (by kernel_rfl)) (fun _ _ _ h => h) (Or.inl ⟨by rfl, ?_⟩) ?_ ?_
        rotate_left
        ·intro w'
         go_simp
         with_reducible rfl
        rotate_left
        ·simp only [Act.put, List.setIfInBounds_toArray, List.set_cons_zero, List.set_cons_succ, i64_w, i32_w]
         rfl
        refine pure_ (i := 12) (N := some 47) (v := ?_) (a' := ?_) #[true, true, true, true, true, true, false, true, false, false, true, true, true, false, false, false, false, false, false, false, false] rfl rfl (any_of HT_.out (by kernel_rfl)) (fun _ _ _ h => h) (Or.inl ⟨by rfl, ?_⟩) ?_ ?_
        rotate_left
        ·intro w'
         go_simp
         with_reducible rfl
        rotate_left
        ·simp only [Act.put, List.setIfInBounds_toArray, List.set_cons_zero, List.set_cons_succ, i64_w, i32_w]
         rfl
        refine pure_ (i := 14) (N := some 49) (v := ?_) (a' := ?_) #[true, true, true, true, true, true, false, true, false, false, true, true, true, false, true, false, false, false, false, false, false] rfl rfl (any_of HT_.out (by kernel_rfl)) (fun _ _ _ h => h) (Or.inl ⟨by rfl, ?_⟩) ?_ ?_
        rotate_left
        ·intro w'
         go_simp
         with_reducible rfl
        rotate_left
        ·simp only [Act.put, List.setIfInBounds_toArray, List.set_cons_zero, List.set_cons_succ, i64_w, i32_w]
         rfl
        refine take_ (i := 6) (N := some 41) (v := ?_) (a' := ?_) #[true, true, true, true, true, true, true, true, false, false, true, true, true, false, true, false, false, false, false, false, false] rfl rfl (take_ofW HT_.out HW_.out (by kernel_rfl)) (fun _ _ _ h => h) (Or.inl ⟨by rfl, ?_⟩) hHeld ?_ ?_
        rotate_left
        ·rintro w' ⟨s0, s1, s2, s3, s4, s5, s6, s7, s8⟩
         go_simp
         with_reducible rfl
        rotate_left
        ·simp only [Act.put, List.setIfInBounds_toArray, List.set_cons_zero, List.set_cons_succ, i64_w, i32_w]
         rfl
        refine take_ (i := 8) (N := some 43) (v := ?_) (a' := ?_) #[true, true, true, true, true, true, true, true, true, false, true, true, true, false, true, false, false, false, false, false, false] rfl rfl (take_ofW HT_.out HW_.out (by kernel_rfl)) (fun _ _ _ h => h) (Or.inl ⟨by rfl, ?_⟩) hHeld ?_ ?_
        rotate_left
        ·rintro w' ⟨s0, s1, s2, s3, s4, s5, s6, s7, s8⟩
         go_simp
         with_reducible rfl
        rotate_left
        ·simp only [Act.put, List.setIfInBounds_toArray, List.set_cons_zero, List.set_cons_succ, i64_w, i32_w]
         rfl
        refine pure_ (i := 9) (N := some 44) (v := ?_) (a' := ?_) #[true, true, true, true, true, true, true, true, true, true, true, true, true, false, true, false, false, false, false, false, false] rfl rfl (any_of HT_.out (by kernel_rfl)) (fun _ _ _ h => h) (Or.inl ⟨by rfl, ?_⟩) ?_ ?_
        rotate_left
        ·intro w'
         go_simp
         with_reducible rfl
        rotate_left
        ·simp only [Act.put, List.setIfInBounds_toArray, List.set_cons_zero, List.set_cons_succ, i64_w, i32_w]
         rfl
        refine take_ (i := 13) (N := some 48) (v := ?_) (a' := ?_) #[true, true, true, true, true, true, true, true, true, true, true, true, true, true, true, false, false, false, false, false, false] rfl rfl (take_ofW HT_.out HW_.out (by kernel_rfl)) (fun _ _ _ h => h) (Or.inl ⟨by rfl, ?_⟩) hHeld ?_ ?_
        rotate_left
        ·rintro w' ⟨s0, s1, s2, s3, s4, s5, s6, s7, s8⟩
         go_simp
         with_reducible rfl
        rotate_left
        ·simp only [Act.put, List.setIfInBounds_toArray, List.set_cons_zero, List.set_cons_succ, i64_w, i32_w]
         rfl
        refine take_ (i := 15) (N := some 50) (v := ?_) (a' := ?_) #[true, true, true, true, true, true, true, true, true, true, true, true, true, true, true, true, false, false, false, false, false] rfl rfl (take_ofW HT_.out HW_.out (by kernel_rfl)) (fun _ _ _ h => h) (Or.inl ⟨by rfl, ?_⟩) hHeld ?_ ?_
        rotate_left
        ·rintro w' ⟨s0, s1, s2, s3, s4, s5, s6, s7, s8⟩
         go_simp
         with_reducible rfl
        rotate_left
        ·simp only [Act.put, List.setIfInBounds_toArray, List.set_cons_zero, List.set_cons_succ, i64_w, i32_w]
         rfl
        refine pure_ (i := 16) (N := some 51) (v := ?_) (a' := ?_) #[true, true, true, true, true, true, true, true, true, true, true, true, true, true, true, true, true, false, false, false, false] rfl rfl (any_of HT_.out (by kernel_rfl)) (fun _ _ _ h => h) (Or.inl ⟨by rfl, ?_⟩) ?_ ?_
        rotate_left
        ·intro w'
         go_simp
         with_reducible rfl
        rotate_left
        ·simp only [Act.put, List.setIfInBounds_toArray, List.set_cons_zero, List.set_cons_succ, i64_w, i32_w]
         rfl
        refine pure_ (i := 17) (N := some 52) (v := ?_) (a' := ?_) #[true, true, true, true, true, true, true, true, true, true, true, true, true, true, true, true, true, true, false, false, false] rfl rfl (any_of HT_.out (by kernel_rfl)) (fun _ _ _ h => h) (Or.inl ⟨by rfl, ?_⟩) ?_ ?_
        rotate_left
        ·intro w'
         go_simp
         with_reducible rfl
        rotate_left
        ·simp only [Act.put, List.setIfInBounds_toArray, List.set_cons_zero, List.set_cons_succ, i64_w, i32_w]
         rfl
        refine last_ (i := 18) (N := some 53) #[true, true, true, true, true, true, true, true, true, true, true, true, true, true, true, true, true, true, true, false, false] rfl rfl (one_of HT_.out (by kernel_rfl)) (by decide) (fun K hK => ?_)
        refine value_ (w1 := ?_) (v := ?_) (by rfl) rfl ?_ ?_
        rotate_left 2
        ·go_simp
         constructor
         ·rfl
         ·rfl
        refine hK.out _ _ ?_
        clear hK K
        refine norm_ (a' := ?_) ?_ ?_
        rotate_left
        ·show Act.put _ (some 53) _ = _
         simp only [Act.put, List.setIfInBounds_toArray, List.set_cons_zero, List.set_cons_succ, i64_w, i32_w]
         rfl
        refine last_ (i := 19) (N := some 54) #[true, true, true, true, true, true, true, true, true, true, true, true, true, true, true, true, true, true, true, true, false] rfl rfl (one_of HT_.out (by kernel_rfl)) (by decide) (fun K hK => ?_)
        refine Kd.R_append_step k54 (w0 := w) w.heap.size (by rfl) (.tmp 35) (.tmp 53) 51 54 (.agg #[(.int .i64 0), (.int .i64 0), (.int .i64 0), (.int .i64 0)]) 32 rfl Try.underlying51 info54 rfl (by decide) (by omega) u3 x3_2 (⟨x13_1, x26_2, wrap64 ((rd t233 (rd l0_2 x26_2)) + a0_5), wrap64 ((rd t236 (rd l0_2 x26_2)) + a0_6)⟩ : S54) [.int .i64 x13_1, .int .i64 x26_2, .int .i64 (wrap64 ((rd t233 (rd l0_2 x26_2)) + a0_5)), .int .i64 (wrap64 ((rd t236 (rd l0_2 x26_2)) + a0_6))] (fun _ => True) (fun _ => False) rfl rfl ?aP (fun _ hk => hk.elim) ?aF ?aO ?aB ?aS ?aL ?_
        (case aP => exact k54_mkM _ _ _ (⟨x13_1, x26_2, wrap64 ((rd t233 (rd l0_2 x26_2)) + a0_5), wrap64 ((rd t236 (rd l0_2 x26_2)) + a0_6)⟩ : S54))
        (case aB => exact (by with_reducible repeat (first | exact HB.out | apply below_alloc | apply pw_below_drewN | apply below_drew1 | refine below_set ?_ GE229.out)))
        (case aF => exact (fun _ _ => trivial))
        (case aO => exact (by (with_reducible repeat (first | apply Kd.R_alloc | apply Kd.R_drewN | apply Kd.R_drew)); exact HO_3.out))
        (case aS => exact (below_size (by with_reducible repeat (first | exact HB.out | apply below_alloc | apply pw_below_drewN | apply below_drew1 | refine below_set ?_ GE229.out))))
        (case aL => have := LMc20.out; omega)
        intro v247 w25 ho hb hg hat
        rw [← Ny246.out] at ho
        have n0_ := Aside0.mk (Kd.R_over' (by (with_reducible repeat (first | apply Kd.R_alloc | apply Kd.R_drewN | apply Kd.R_drew)); exact HO_5.out) (Kd.R_typed (by (with_reducible repeat (first | apply Kd.R_alloc | apply Kd.R_drewN | apply Kd.R_drew)); exact HO_3.out)) (by decide) hg)
        have n1_ := Aside0.mk (Kd.R_over' (by (with_reducible repeat (first | apply Kd.R_alloc | apply Kd.R_drewN | apply Kd.R_drew)); exact HO_6.out) (Kd.R_typed (by (with_reducible repeat (first | apply Kd.R_alloc | apply Kd.R_drewN | apply Kd.R_drew)); exact HO_3.out)) (by decide) hg)
        have n2_ := Aside0.mk (Kd.R_over' (by (with_reducible repeat (first | apply Kd.R_alloc | apply Kd.R_drewN | apply Kd.R_drew)); exact HO_7.out) (Kd.R_typed (by (with_reducible repeat (first | apply Kd.R_alloc | apply Kd.R_drewN | apply Kd.R_drew)); exact HO_3.out)) (by decide) hg)
        have n3_ := Aside0.mk (blk_grown (g := gb229) (by (with_reducible repeat (first | refine blk_drewN ?_ _ | refine blk_drew ?_ | refine blk_alloc ?_ _)); exact BK229.out) hg (Kd.R_ne HO_3.out BK229.out (by decide)))
        have n4_ := Aside0.mk (hb)
        have n5_ := Aside0.mk (ho)
        clear HO_5
        clear HO_6
        clear HO_7
        clear BK229
        clear HB
        clear HO_3
        have HO_5 := n0_
        have HO_6 := n1_
        have HO_7 := n2_
        have BK229 := n3_
        have HB := n4_
        have HO248 := n5_
        clear n0_ n1_ n2_ n3_ n4_ n5_
        clear ho hb hg hat
        refine hK.out _ _ ?_
        clear hK K
        refine norm_ (a' := ?_) ?_ ?_
        rotate_left
        ·show Act.put _ (some 54) _ = _
         simp only [Act.put, List.setIfInBounds_toArray, List.set_cons_zero, List.set_cons_succ, i64_w, i32_w]
         rfl
        refine pure_ (i := 20) (N := some 3) (v := ?_) (a' := ?_) #[true, true, true, true, true, true, true, true, true, true, true, true, true, true, true, true, true, true, true, true, true] rfl rfl (any_of HT_.out (by kernel_rfl)) (fun _ _ _ h => h) (Or.inl ⟨by rfl, ?_⟩) ?_ ?_
        rotate_left
        ·intro w'
         go_simp
         with_reducible rfl
        rotate_left
        ·simp only [Act.put, List.setIfInBounds_toArray, List.set_cons_zero, List.set_cons_succ, i64_w, i32_w]
         rfl
        refine done_ (done_of HT_.out (by kernel_rfl)) ?_
        try go_wp2
        go_roundg k2
        case measure => have := HK1.out; have := HK2.out; omega
        case rel => exact ⟨(y246), (wrap64 (x26_2 + 1)), (by first | rfl | (simp; done) | (simp [*]; done)), H', ⟨by have := HK1.out; have := HK2.out; omega⟩, ⟨by (with_reducible repeat (first | apply Kd.R_alloc | apply Kd.R_drewN | apply Kd.R_drew)); exact HO248.out⟩, ⟨by (with_reducible repeat (first | apply Kd.R_alloc | apply Kd.R_drewN | apply Kd.R_drew)); exact HO_5.out⟩, ⟨by (with_reducible repeat (first | apply Kd.R_alloc | apply Kd.R_drewN | apply Kd.R_drew)); exact HO_6.out⟩, ⟨by (with_reducible repeat (first | apply Kd.R_alloc | apply Kd.R_drewN | apply Kd.R_drew)); exact HO_7.out⟩, ⟨by (with_reducible repeat (first | refine blk_drewN ?_ _ | refine blk_drew ?_ | refine blk_alloc ?_ _)); exact BK229.out⟩, ⟨by with_reducible repeat (first | exact HB.out | apply below_alloc | apply pw_below_drewN | apply below_drew1 | refine below_set ?_ GE229.out)⟩⟩
       ·replace c17 := Bool.eq_false_iff.mpr c17
        subst c17
        rw [if_neg (by decide)] at H
        have H' := Aside0.mk H
        clear H
        have p242 : 0 ≤ (x26_2 : Int) := of_decide_eq_true (by with_reducible assumption)
        have q242 : x26_2 < (l0_2.length : Int) := of_decide_eq_true (by with_reducible assumption)
        obtain ⟨ad242, e242, hx242_0⟩ := Kd.at_int HR0_2.out x26_2 p242 q242
        cases e242
        replace hx242_0 := (HB.out.cell (World.block_lt_of_cell? w _ hx242_0)).trans hx242_0
        replace p242 := eq_true p242
        replace q242 := eq_true q242
        obtain ⟨Ao26, co26, eo26⟩ := Kd.R_slice HO_7.out
        subst eo26
        have p243 : 0 ≤ ((rd l0_2 x26_2) : Int) := of_decide_eq_true (by with_reducible assumption)
        have q243 : (rd l0_2 x26_2) < (t239.length : Int) := of_decide_eq_true (by with_reducible assumption)
        obtain ⟨ad243, e243, hx243_0⟩ := Kd.at_bool (Kd.R_reads' HO_7.out).2.2 (rd l0_2 x26_2) p243 q243
        (try rw [← Nbq16.out] at hx243_0)
        cases e243
        replace p243 := eq_true p243
        replace q243 := eq_true q243
        go_wp2
        go_roundg k2
        case measure => have := HK1.out; have := HK2.out; omega
        case rel => exact ⟨(x3_2), (wrap64 (x26_2 + 1)), (by first | rfl | (simp; done) | (simp [*]; done)), H', ⟨by have := HK1.out; have := HK2.out; omega⟩, ⟨by (with_reducible repeat (first | apply Kd.R_alloc | apply Kd.R_drewN | apply Kd.R_drew)); exact HO_3.out⟩, ⟨by (with_reducible repeat (first | apply Kd.R_alloc | apply Kd.R_drewN | apply Kd.R_drew)); exact HO_5.out⟩, ⟨by (with_reducible repeat (first | apply Kd.R_alloc | apply Kd.R_drewN | apply Kd.R_drew)); exact HO_6.out⟩, ⟨by (with_reducible repeat (first | apply Kd.R_alloc | apply Kd.R_drewN | apply Kd.R_drew)); exact HO_7.out⟩, ⟨by (with_reducible repeat (first | refine blk_drewN ?_ _ | refine blk_drew ?_ | refine blk_alloc ?_ _)); exact BK229.out⟩, ⟨by with_reducible repeat (first | exact HB.out | apply below_alloc | apply pw_below_drewN | apply below_drew1 | refine below_set ?_ GE229.out)⟩⟩
      ·rw [if_neg c11] at H
       have c11b0 : decide (x26_2 < (l0_2.length : Int)) = false := decide_eq_false c11
       clear c11
       have H' := Aside0.mk H
       clear H
       go_wp2
       go_roundg k2
       case measure => have := HK1.out; have := HK2.out; omega
       case rel => exact ⟨(x3_2), (wrap64 (x13_1 + 1)), (by first | rfl | (simp; done) | (simp [*]; done)), H', ⟨by have := HK1.out; have := HK2.out; omega⟩, ⟨by (with_reducible repeat (first | apply Kd.R_alloc | apply Kd.R_drewN | apply Kd.R_drew)); exact HO_3.out⟩, ⟨by (with_reducible repeat (first | refine blk_drewN ?_ _ | refine blk_drew ?_ | refine blk_alloc ?_ _)); exact BK229.out⟩, ⟨by with_reducible repeat (first | exact HB.out | apply below_alloc | apply pw_below_drewN | apply below_drew1 | refine below_set ?_ GE229.out)⟩⟩
   ·rw [if_neg c6] at H
    have c6b0 : decide (x13_1 < a0_0) = false := decide_eq_false c6
    clear c6
    obtain rfl := Option.some.inj H
    go_wp2
    go_ret
    exact ⟨_, by first | rfl | (simp [errW_none, errW_some] <;> rfl) | (simp [*, errW_none, errW_some] <;> rfl), by (with_reducible repeat (first | apply Kd.R_alloc | apply Kd.R_drewN | apply Kd.R_drew)); exact HO_3.out, by with_reducible repeat (first | exact HB.out | apply below_alloc | apply pw_below_drewN | apply below_drew1 | refine below_set ?_ GE229.out)⟩

end Go.Proofs.Ytbkofbcmhddbfaa.Pa

/- The program's delays from a register to each node, and its links. -/
namespace Go.Proofs.Ytbkofbcmhddbfaa.Pure
open Go.RowKit Go.Proofs.Ytbkofbcmhddbfaa.Pa Go.Proofs.YtbkofbcmhddbfaaW.PrintWords Go.Proofs.YtbkofbcmhddbfaaW.PrintLast
set_option linter.unusedVariables false
set_option linter.unusedSimpArgs false

/-- Three rows of so many cells tell a table. -/
structure Rel (N : Nat) (t : List Way) (L M : List Int) (R : List Bool) : Prop where
 l : L.length = N
 m : M.length = N
 r : R.length = N
 no : ∀ v : Nat, v < N → t.getD v none = none → R.getD v false = false
 yes : ∀ v : Nat, v < N → ∀ p, t.getD v none = some p → R.getD v false = true ∧ L.getD v 0 = p.1 ∧ M.getD v 0 = p.2
theorem rdOf_nat {x : Int} (h : 0 ≤ x) (R : List Bool) : rdOf false R x = R.getD x.toNat false := by
 unfold rdOf
 rfl
theorem rd_nat (l : List Int) (x : Int) : rd l x = l.getD x.toNat 0 := rfl
theorem getD_snoc_lt {α : Type} {t : List α} {v : α} {z : α} {i : Nat} (h : i < t.length) : (t ++ [v]).getD i z = t.getD i z := by
 rw [List.getD_eq_getElem?_getD, List.getD_eq_getElem?_getD, List.getElem?_append_left h]
theorem getD_snoc_eq {α : Type} {t : List α} {v : α} {z : α} : (t ++ [v]).getD t.length z = v := by
 rw [List.getD_eq_getElem?_getD, List.getElem?_append_right (Nat.le_refl _)]
 simp
theorem getD_snoc_gt {α : Type} {t : List α} {v : α} {z : α} {i : Nat} (h : t.length < i) : (t ++ [v]).getD i z = z := by
 rw [List.getD_eq_getElem?_getD, List.getElem?_eq_none (by simp; omega)]
 rfl
theorem getD_over {α : Type} {t : List α} {z : α} {i : Nat} (h : t.length ≤ i) : t.getD i z = z := by
 rw [List.getD_eq_getElem?_getD, List.getElem?_eq_none h]
 rfl
theorem getD_set {α : Type} {l : List α} {i j : Nat} {v z : α} (h : i < l.length) : (l.set i v).getD j z = if i = j then v else l.getD j z := by
 rw [List.getD_eq_getElem?_getD, List.getD_eq_getElem?_getD, List.getElem?_set]
 split
 ·simp [h]
 ·rfl
theorem Rel.none {N : Nat} {t : List Way} {L M : List Int} {R : List Bool} (h : Rel N t L M R) : Rel N (t ++ [none]) L M R := by
 have e : ∀ v : Nat, (t ++ [Option.none]).getD v Option.none = t.getD v Option.none := by
  intro v
  rcases Nat.lt_trichotomy v t.length with hv | hv | hv
  ·exact getD_snoc_lt hv
  ·subst hv
   rw [getD_snoc_eq, getD_over (Nat.le_refl _)]
  ·rw [getD_snoc_gt hv, getD_over (by omega)]
 exact ⟨h.l, h.m, h.r, fun v hv ht => h.no v hv (by rw [← e]; exact ht), fun v hv p ht => h.yes v hv p (by rw [← e]; exact ht)⟩
theorem mn_def (a b : Int) : mn a b = if b < a then b else a := rfl
theorem mx_def (a b : Int) : mx a b = if a < b then b else a := rfl
/-- A node's entry is written anew. -/
theorem Rel.put {N : Nat} {t : List Way} {acc : Way} {L M : List Int} {R : List Bool} (h : Rel N (t ++ [acc]) L M R) (ht : t.length < N) (a b : Int) : Rel N (t ++ [some (a, b)]) (L.set t.length a) (M.set t.length b) (R.set t.length true) := by
 have hl := h.l
 have hm := h.m
 have hr := h.r
 refine ⟨by simpa using hl, by simpa using hm, by simpa using hr, fun v hv hn => ?_, fun v hv p hp => ?_⟩
 ·rcases Nat.lt_trichotomy v t.length with hvt | hvt | hvt
  ·rw [getD_set (by omega), if_neg (by omega)]
   rw [getD_snoc_lt hvt] at hn
   exact h.no v hv (by rw [getD_snoc_lt hvt]; exact hn)
  ·subst hvt
   rw [getD_snoc_eq] at hn
   simp at hn
  ·rw [getD_set (by omega), if_neg (by omega)]
   exact h.no v hv (getD_snoc_gt hvt)
 ·rcases Nat.lt_trichotomy v t.length with hvt | hvt | hvt
  ·rw [getD_set (by omega), getD_set (by omega), getD_set (by omega), if_neg (by omega), if_neg (by omega), if_neg (by omega)]
   rw [getD_snoc_lt hvt] at hp
   exact h.yes v hv p (by rw [getD_snoc_lt hvt]; exact hp)
  ·subst hvt
   rw [getD_snoc_eq] at hp
   rw [getD_set (by omega), getD_set (by omega), getD_set (by omega), if_pos rfl, if_pos rfl, if_pos rfl]
   simp only [Option.some.injEq] at hp
   subst hp
   exact ⟨rfl, rfl, rfl⟩
  ·rw [getD_snoc_gt hvt] at hp
   simp at hp
theorem set_same {l : List Bool} {i : Nat} (h : l.getD i false = true) : l.set i true = l := by
 apply List.ext_getElem?
 intro j
 rw [List.getElem?_set]
 split
 ·rename_i e
  subst e
  rw [List.getD_eq_getElem?_getD] at h
  cases hg : l[i]? with
  | none => rw [hg] at h; simp at h
  | some b =>
   rw [hg] at h
   simp only [Option.getD_some] at h
   have := (List.getElem?_eq_some_iff.mp hg).1
   rw [if_pos this, h]
 ·rfl
theorem delays_l1 (n a3 a4 a5 a6 : Int) (gates : List S36) (data : List Int) (i : Nat) (hi' : i < gates.length) (C : Gates n gates)
  (t : List Way) (m : Int) (hm : m ≤ 10000) (ht : ∀ v ∈ t, Bd m v) (htl : (t.length : Int) = n + i) (N : Nat) (hN : t.length < N) (d : Nat) :
  ∀ (j : Nat) (acc : Way) (L M : List Int) (R : List Bool), j + d = gates[i].f2.length → Bd (m + 100) acc → Rel N (t ++ [acc]) L M R →
  ∃ L' M' R', Rel N (t ++ [joins gates[i] t acc (gates[i].f2.drop j)]) L' M' R' ∧ ∀ r, Ev (fun k => impl_Circuit_delays.l0 k L' M' R' gates (gates.length : Int) ((i : Int) + 1) n gates data a3 a4 a5 a6) r →
  Ev (fun k => impl_Circuit_delays.l1 k L M R (n + (i : Int)) gates (gates.length : Int) (i : Int) gates[i].f2 (gates[i].f2.length : Int) (j : Int) n gates data a3 a4 a5 a6 gates[i].f0 gates[i].f1 gates[i].f2) r := by
 have hc := C.n0
 have hc1 := C.n1
 have hcl := C.len
 have hg := C.gate i hi'
 have hwide := C.wide i hi'
 induction d with
 | zero =>
  intro j acc L M R h hb hR
  rw [List.drop_of_length_le (by omega)]
  refine ⟨L, M, R, hR, fun r hE => ?_⟩
  obtain ⟨K, hK⟩ := hE
  refine ⟨K + 1, fun k hk => ?_⟩
  obtain ⟨k, rfl⟩ : ∃ m, k = m + 1 := ⟨k - 1, by omega⟩
  simp only [impl_Circuit_delays.l1]
  rw [if_neg (by omega), wrap_id (by omega) (by omega)]
  exact hK k (by omega)
 | succ d ih =>
  intro j acc L M R h hb hR
  have hj : j < gates[i].f2.length := by omega
  have hxj := hg.2.2.2.2 _ (List.getElem_mem hj)
  rw [List.drop_eq_getElem_cons hj]
  simp only [joins]
  have hvb := getD_bd ht (gates[i].f2[j]).toNat
  have hw : wrap64 ((j : Int) + 1) = (j : Int) + 1 := wrap_id (by omega) (by omega)
  have hl := hR.l
  have hm' := hR.m
  have hr := hR.r
  have hxt : (gates[i].f2[j]).toNat < t.length := by omega
  have hxN : (gates[i].f2[j]).toNat < N := by omega
  have hnode : ((n + (i : Int)).toNat) = t.length := by omega
  have hsnoc := getD_snoc_lt (v := acc) (z := (none : Way)) hxt
  have c1 : (j : Int) < (gates[i].f2.length : Int) := Int.ofNat_lt.mpr hj
  have c2 : gates[i].f2[j] < (R.length : Int) := by omega
  have c3 : gates[i].f2[j] < (L.length : Int) := by omega
  have c4 : gates[i].f2[j] < (M.length : Int) := by omega
  have c5 : 0 ≤ n + (i : Int) := by omega
  have c6 : n + (i : Int) < (R.length : Int) := by omega
  have c7 : n + (i : Int) < (L.length : Int) := by omega
  have c8 : n + (i : Int) < (M.length : Int) := by omega
  cases hv : t.getD (gates[i].f2[j]).toNat none with
  | none =>
   have hE' : joins gates[i] t (joinG gates[i] acc none) (gates[i].f2.drop (j + 1)) = joins gates[i] t acc (gates[i].f2.drop (j + 1)) := by
    cases acc <;> rfl
   obtain ⟨L', M', R', hR', hE⟩ := ih (j + 1) acc L M R (by omega) hb hR
   refine ⟨L', M', R', by rw [hE']; exact hR', fun r hr' => ?_⟩
   obtain ⟨K, hK⟩ := hE r hr'
   refine ⟨K + 1, fun k hk => ?_⟩
   obtain ⟨k, rfl⟩ : ∃ m, k = m + 1 := ⟨k - 1, by omega⟩
   have hk2 := hK k (by omega)
   push_cast at hk2
   simp only [impl_Circuit_delays.l1]
   rw [if_pos c1, if_pos (Int.natCast_nonneg j), if_pos c1, rd_get hj, if_pos hxj.1, if_pos c2, rdOf_nat hxj.1, hR.no _ hxN (hsnoc.trans hv), if_neg (by decide), hw]
   exact hk2
  | some p =>
   rw [hv] at hvb
   have hp := hvb p rfl
   obtain ⟨y1, y2, y3⟩ := hR.yes _ hxN p (hsnoc.trans hv)
   have w1 : wrap64 (p.1 + gates[i].f0) = p.1 + gates[i].f0 := wrap_id (by omega) (by omega)
   have w2 : wrap64 (p.2 + gates[i].f1) = p.2 + gates[i].f1 := wrap_id (by omega) (by omega)
   cases acc with
   | none =>
    have hput := hR.put hN (p.1 + gates[i].f0) (p.2 + gates[i].f1)
    obtain ⟨L', M', R', hR', hE⟩ := ih (j + 1) _ _ _ _ (by omega) (joinG_bd ⟨hg.1, hg.2.1, hg.2.2.1⟩ hb hvb) hput
    refine ⟨L', M', R', hR', fun r hr' => ?_⟩
    obtain ⟨K, hK⟩ := hE r hr'
    refine ⟨K + 1, fun k hk => ?_⟩
    obtain ⟨k, rfl⟩ : ∃ m, k = m + 1 := ⟨k - 1, by omega⟩
    have hk2 := hK k (by omega)
    push_cast at hk2
    simp only [impl_Circuit_delays.l1]
    rw [if_pos c1, if_pos (Int.natCast_nonneg j), if_pos c1, rd_get hj, if_pos hxj.1, if_pos c2, rdOf_nat hxj.1, y1, if_pos rfl, if_pos c3, if_pos c4, if_pos c5, if_pos c6, rdOf_nat c5, hnode, hR.no _ hN getD_snoc_eq, if_neg (by decide), if_pos c7]
    simp only [Option.bind_some]
    rw [if_pos c8]
    simp only [rd_nat, Option.bind_some, y2, y3, w1, w2, hnode, hw]
    rw [getD_set (by omega), if_pos rfl, getD_set (by omega), if_pos rfl, mn_def, mx_def, if_neg (by omega), if_neg (by omega), List.set_set, List.set_set]
    exact hk2
   | some q =>
    have hq := hb q rfl
    obtain ⟨z1, z2, z3⟩ := hR.yes _ hN q getD_snoc_eq
    have hput := hR.put hN (if p.1 + gates[i].f0 < q.1 then p.1 + gates[i].f0 else q.1) (if q.2 < p.2 + gates[i].f1 then p.2 + gates[i].f1 else q.2)
    rw [set_same z1] at hput
    obtain ⟨L', M', R', hR', hE⟩ := ih (j + 1) _ _ _ _ (by omega) (joinG_bd ⟨hg.1, hg.2.1, hg.2.2.1⟩ hb hvb) hput
    refine ⟨L', M', R', hR', fun r hr' => ?_⟩
    obtain ⟨K, hK⟩ := hE r hr'
    refine ⟨K + 1, fun k hk => ?_⟩
    obtain ⟨k, rfl⟩ : ∃ m, k = m + 1 := ⟨k - 1, by omega⟩
    have hk2 := hK k (by omega)
    push_cast at hk2
    simp only [impl_Circuit_delays.l1]
    rw [if_pos c1, if_pos (Int.natCast_nonneg j), if_pos c1, rd_get hj, if_pos hxj.1, if_pos c2, rdOf_nat hxj.1, y1, if_pos rfl, if_pos c3, if_pos c4, if_pos c5, if_pos c6, rdOf_nat c5, hnode, z1, if_pos rfl, if_pos c7, if_pos c8]
    simp only [rd_nat, y2, y3, w1, w2, hnode, hw, z2, z3, mn_def, mx_def]
    exact hk2
theorem delays_l0 (n a3 a4 a5 a6 : Int) (gates : List S36) (data : List Int) (C : Gates n gates) (N : Nat) (hN : (N : Int) = n + gates.length) (d : Nat) : ∀ (i : Nat) (t : List Way) (L M : List Int) (R : List Bool), i + d = gates.length → (t.length : Int) = n + i → (∀ v ∈ t, Bd (100 * i) v) → Rel N t L M R →
  ∃ L' M' R', Ev (fun k => impl_Circuit_delays.l0 k L M R gates (gates.length : Int) (i : Int) n gates data a3 a4 a5 a6) (L', M', R') ∧ Rel N (tabG t (gates.drop i)) L' M' R' := by
 have hc := C.n0
 have hc1 := C.n1
 have hcl := C.len
 induction d with
 | zero =>
  intro i t L M R h htl ht hR
  refine ⟨L, M, R, ⟨1, fun k hk => ?_⟩, ?_⟩
  ·obtain ⟨k, rfl⟩ : ∃ m, k = m + 1 := ⟨k - 1, by omega⟩
   simp only [impl_Circuit_delays.l0]
   rw [if_neg (by omega)]
  ·rw [List.drop_of_length_le (by omega)]
   exact hR
 | succ d ih =>
  intro i t L M R h htl ht hR
  have hi' : i < gates.length := by omega
  have hg := C.gate i hi'
  have hb := joins_bd ⟨hg.1, hg.2.1, hg.2.2.1⟩ ht gates[i].f2 none (Bd.none _)
  obtain ⟨L1, M1, R1, hR1, hE1⟩ := delays_l1 n a3 a4 a5 a6 gates data i hi' C t (100 * i) (by omega) ht htl N (by omega) gates[i].f2.length 0 none L M R (by omega) (Bd.none _) hR.none
  rw [List.drop_zero] at hR1
  obtain ⟨L2, M2, R2, hE2, hR2⟩ := ih (i + 1) _ L1 M1 R1 (by omega) (by simp; omega) (by
   intro v hv
   have := append_bd ht hb v hv
   rw [show (100 : Int) * ((i + 1 : Nat) : Int) = 100 * i + 100 by push_cast; omega]
   exact this) hR1
  refine ⟨L2, M2, R2, ?_, by rw [List.drop_eq_getElem_cons hi', tabG_cons]; exact hR2⟩
  push_cast at hE2
  obtain ⟨K, hK⟩ := hE1 _ hE2
  refine ⟨K + 1, fun k hk => ?_⟩
  obtain ⟨k, rfl⟩ : ∃ m, k = m + 1 := ⟨k - 1, by omega⟩
  simp only [impl_Circuit_delays.l0]
  rw [if_pos (Int.ofNat_lt.mpr hi'), if_pos (Int.natCast_nonneg i), if_pos (Int.ofNat_lt.mpr hi'), rdG' hi', wrap_id (x := n + (i : Int)) (by omega) (by omega)]
  exact hK k (by omega)
theorem rel0 (a : Int) (n : Int) (N : Nat) (h0 : 0 ≤ a) (h1 : a < n) (hN : n ≤ N) : Rel N (tab0 a n.toNat) (List.replicate N 0) (List.replicate N 0) ((List.replicate N false).set a.toNat true) := by
 have hg : ∀ v : Nat, (tab0 a n.toNat).getD v none = if v = a.toNat then some (0, 0) else none := by
  intro v
  unfold tab0
  by_cases hv : v < n.toNat
  ·rw [List.getD_eq_getElem?_getD, List.getElem?_map, List.getElem?_range hv]
   simp only [Option.map_some, Option.getD_some]
   by_cases e : v = a.toNat
   ·rw [if_pos (by omega), if_pos e]
   ·rw [if_neg (by omega), if_neg e]
  ·rw [getD_over (by simp; omega), if_neg (by omega)]
 refine ⟨by simp, by simp, by simp, fun v hv hn => ?_, fun v hv p hp => ?_⟩
 ·rw [hg] at hn
  rw [getD_set (by simp; omega)]
  split at hn
  ·simp at hn
  ·rename_i e
   rw [if_neg (fun x => e x.symm), List.getD_eq_getElem?_getD, List.getElem?_replicate]
   split <;> rfl
 ·rw [hg] at hp
  split at hp
  ·rename_i e
   simp only [Option.some.injEq] at hp
   subst hp e
   rw [getD_set (by simp; omega), if_pos rfl]
   refine ⟨rfl, ?_, ?_⟩ <;> (rw [List.getD_eq_getElem?_getD, List.getElem?_replicate, if_pos hv]; rfl)
  ·simp at hp
theorem delays_at (a n a3 a4 a5 a6 : Int) (gates : List S36) (data : List Int) (C : Gates n gates) (h0 : 0 ≤ a) (h1 : a < n) :
  ∃ L M R, Ev (fun k => impl_Circuit_delays.f k n gates data a3 a4 a5 a6 a) (L, M, R) ∧ Rel (n.toNat + gates.length) (tab a n gates) L M R := by
 have hc := C.n0
 have hc1 := C.n1
 have hcl := C.len
 obtain ⟨L, M, R, hE, hR⟩ := delays_l0 n a3 a4 a5 a6 gates data C (n.toNat + gates.length) (by omega) gates.length 0 (tab0 a n.toNat) _ _ _ (by omega) (by rw [tab0_len]; omega) (by simpa using tab0_bd a n.toNat) (rel0 a n _ h0 h1 (by omega))
 refine ⟨L, M, R, ?_, hR⟩
 obtain ⟨K, hK⟩ := hE
 refine ⟨K, fun k hk => ?_⟩
 have hk2 := hK k hk
 show impl_Circuit_delays.f k n gates data a3 a4 a5 a6 a = _
 unfold impl_Circuit_delays.f impl_Circuit_nodes.f
 rw [wrap_id (x := n + (gates.length : Int)) (by omega) (by omega)]
 simp only [Option.bind_some]
 rw [if_pos (by omega), if_pos (by omega), if_pos (by omega), if_pos h0, if_pos (by simp; omega), show (n + (gates.length : Int)).toNat = n.toNat + gates.length by omega]
 exact hk2
end Go.Proofs.Ytbkofbcmhddbfaa.Pure

/- The links of a circuit, and what is read from them. -/
namespace Go.Proofs.Ytbkofbcmhddbfaa.Pure
open Go.RowKit Go.Proofs.Ytbkofbcmhddbfaa.Pa Go.Proofs.YtbkofbcmhddbfaaW.PrintWords Go.Proofs.YtbkofbcmhddbfaaW.PrintLast
set_option linter.unusedVariables false
set_option linter.unusedSimpArgs false

def linkO (a b : Int) : Way → List S54
 | none => []
 | some p => [⟨a, b, p.1, p.2⟩]
/-- The links from a register to those from b on, d of them. -/
def linksTo (P : Int → Int → Way) (a : Int) : Nat → Nat → List S54
 | _, 0 => []
 | b, d + 1 => linkO a (b : Int) (P a (b : Int)) ++ linksTo P a (b + 1) d
def linksFrom (P : Int → Int → Way) (n : Nat) : Nat → Nat → List S54
 | _, 0 => []
 | a, d + 1 => linksTo P (a : Int) 0 n ++ linksFrom P n (a + 1) d
def linksOf (P : Int → Int → Way) (n : Nat) : List S54 := linksFrom P n 0 n
theorem linkO_len (a b : Int) (v : Way) : (linkO a b v).length ≤ 1 := by cases v <;> simp [linkO]
theorem linksTo_len (P : Int → Int → Way) (a : Int) (d : Nat) : ∀ b, (linksTo P a b d).length ≤ d := by
 induction d with
 | zero => intro b; simp [linksTo]
 | succ d ih => intro b; have := linkO_len a (b : Int) (P a b); have := ih (b + 1); simp [linksTo]; omega
theorem linksTo_mem (P : Int → Int → Way) (a : Int) (d : Nat) : ∀ b, ∀ x ∈ linksTo P a b d, x.f0 = a ∧ (b : Int) ≤ x.f1 ∧ x.f1 < (b : Int) + d ∧ P x.f0 x.f1 = some (x.f2, x.f3) := by
 induction d with
 | zero => intro b x hx; simp [linksTo] at hx
 | succ d ih =>
  intro b x hx
  simp only [linksTo] at hx
  rcases List.mem_append.mp hx with hx | hx
  ·cases hv : P a (b : Int) with
   | none => rw [hv] at hx; simp [linkO] at hx
   | some p =>
    rw [hv] at hx
    simp only [linkO, List.mem_singleton] at hx
    subst hx
    exact ⟨rfl, by dsimp only; omega, by dsimp only; omega, hv⟩
  ·have := ih (b + 1) x hx
   push_cast at this ⊢
   exact ⟨this.1, by omega, by omega, this.2.2.2⟩
theorem linksFrom_mem (P : Int → Int → Way) (n : Nat) (d : Nat) : ∀ a, ∀ x ∈ linksFrom P n a d, (a : Int) ≤ x.f0 ∧ x.f0 < (a : Int) + d ∧ 0 ≤ x.f1 ∧ x.f1 < n ∧ P x.f0 x.f1 = some (x.f2, x.f3) := by
 induction d with
 | zero => intro a x hx; simp [linksFrom] at hx
 | succ d ih =>
  intro a x hx
  simp only [linksFrom] at hx
  rcases List.mem_append.mp hx with hx | hx
  ·have := linksTo_mem P (a : Int) n 0 x hx
   push_cast at this ⊢
   exact ⟨by omega, by omega, by omega, by omega, this.2.2.2⟩
  ·have := ih (a + 1) x hx
   push_cast at this ⊢
   exact ⟨by omega, by omega, this.2.2.1, this.2.2.2.1, this.2.2.2.2⟩
theorem linksOf_mem (P : Int → Int → Way) (n : Nat) : ∀ x ∈ linksOf P n, 0 ≤ x.f0 ∧ x.f0 < n ∧ 0 ≤ x.f1 ∧ x.f1 < n ∧ P x.f0 x.f1 = some (x.f2, x.f3) := by
 intro x hx
 have := linksFrom_mem P n n 0 x hx
 simpa using this
theorem mem_linksTo (P : Int → Int → Way) (a : Int) (p : Int × Int) (d : Nat) : ∀ b c : Nat, b ≤ c → c < b + d → P a (c : Int) = some p → (⟨a, (c : Int), p.1, p.2⟩ : S54) ∈ linksTo P a b d := by
 induction d with
 | zero => intro b c h1 h2; omega
 | succ d ih =>
  intro b c h1 h2 hp
  simp only [linksTo]
  by_cases e : b = c
  ·subst e
   rw [hp]
   simp [linkO]
  ·exact List.mem_append.mpr (.inr (ih (b + 1) c (by omega) (by omega) hp))
theorem mem_linksFrom (P : Int → Int → Way) (n : Nat) (p : Int × Int) (b : Nat) (hb : b < n) (d : Nat) : ∀ a c : Nat, a ≤ c → c < a + d → P (c : Int) (b : Int) = some p → (⟨(c : Int), (b : Int), p.1, p.2⟩ : S54) ∈ linksFrom P n a d := by
 induction d with
 | zero => intro a c h1 h2; omega
 | succ d ih =>
  intro a c h1 h2 hp
  simp only [linksFrom]
  by_cases e : a = c
  ·subst e
   exact List.mem_append.mpr (.inl (mem_linksTo P _ p n 0 b (by omega) (by omega) hp))
  ·exact List.mem_append.mpr (.inr (ih (a + 1) c (by omega) (by omega) hp))
theorem mem_linksOf (P : Int → Int → Way) (n : Nat) (p : Int × Int) (a b : Nat) (ha : a < n) (hb : b < n) (hp : P (a : Int) (b : Int) = some p) : (⟨(a : Int), (b : Int), p.1, p.2⟩ : S54) ∈ linksOf P n :=
 mem_linksFrom P n p b hb n 0 a (by omega) (by omega) hp
/-- What the walks need of a circuit. -/
structure Ready (n : Int) (gates : List S36) (data : List Int) : Prop where
 gs : Gates n gates
 dlen : (data.length : Int) = n
 node : ∀ x ∈ data, 0 ≤ x ∧ x ≤ n + gates.length - 1
theorem Circ.ready {n : Int} {gates : List S36} {data : List Int} {a3 a4 a5 a6 : Int} (h : Circ n gates data a3 a4 a5 a6) (hw : ∀ g ∈ gates, g.f2.length ≤ 1048576) : Ready n gates data :=
 ⟨⟨h.n0, h.n1, h.len, h.gate, fun i hi => hw _ (List.getElem_mem hi)⟩, h.dlen, h.node⟩
theorem links_l1 (n a3 a4 a5 a6 : Int) (gates : List S36) (data : List Int) (C : Ready n gates data) (a : Int) (L M : List Int) (R : List Bool) (hR : Rel (n.toNat + gates.length) (tab a n gates) L M R) (d : Nat) :
  ∀ (b : Nat) (acc : List S54) (r : List S54), (b : Int) + d = n → acc.length + d ≤ 1000 →
  Ev (fun k => impl_Circuit_links.l0 k (acc ++ linksTo (pathO n gates data a5 a6) a b d) n (wrap64 (a + 1)) n gates data a3 a4 a5 a6) r →
  Ev (fun k => impl_Circuit_links.l1 k acc a L M R n a data (data.length : Int) (b : Int) n gates data a3 a4 a5 a6) r := by
 have hn := C.gs.n0
 have hn1 := C.gs.n1
 have hgl := C.gs.len
 have hdl := C.dlen
 induction d with
 | zero =>
  rintro b acc r h hl ⟨K, hK⟩
  refine ⟨K + 1, fun k hk => ?_⟩
  obtain ⟨k, rfl⟩ : ∃ m, k = m + 1 := ⟨k - 1, by omega⟩
  simp only [impl_Circuit_links.l1]
  rw [if_neg (by omega)]
  have := hK k (by omega)
  simpa [linksTo] using this
 | succ d ih =>
  intro b acc r h hl hE
  have hb : b < data.length := by omega
  have hx := C.node _ (List.getElem_mem hb)
  have hxl := hR.l
  have hxm := hR.m
  have hxr := hR.r
  have hxN : (data[b]).toNat < n.toNat + gates.length := by omega
  have hw : wrap64 ((b : Int) + 1) = (b : Int) + 1 := wrap_id (by omega) (by omega)
  have c1 : (b : Int) < (data.length : Int) := Int.ofNat_lt.mpr hb
  have c2 : data[b] < (R.length : Int) := by omega
  have c3 : data[b] < (L.length : Int) := by omega
  have c4 : data[b] < (M.length : Int) := by omega
  have c5 : acc.length < 4398046511104 := by omega
  simp only [linksTo] at hE
  rw [← List.append_assoc] at hE
  have hP : pathO n gates data a5 a6 a (b : Int) = ((tab a n gates).getD (data[b]).toNat none).map fun p => (wrap64 (p.1 + a5), wrap64 (p.2 + a6)) := by
   unfold pathO
   rw [rd_get hb]
  cases hv : (tab a n gates).getD (data[b]).toNat none with
  | none =>
   rw [hP, hv] at hE
   simp only [Option.map_none, linkO, List.append_nil] at hE
   obtain ⟨K, hK⟩ := ih (b + 1) acc r (by omega) (by omega) hE
   refine ⟨K + 1, fun k hk => ?_⟩
   obtain ⟨k, rfl⟩ : ∃ m, k = m + 1 := ⟨k - 1, by omega⟩
   have hk2 := hK k (by omega)
   push_cast at hk2
   simp only [impl_Circuit_links.l1]
   rw [if_pos c1, if_pos (Int.natCast_nonneg b), if_pos c1, rd_get hb, if_pos hx.1, if_pos c2, rdOf_nat hx.1, hR.no _ hxN hv, if_neg (by decide), hw]
   exact hk2
  | some p =>
   rw [hP, hv] at hE
   simp only [Option.map_some, linkO] at hE
   obtain ⟨y1, y2, y3⟩ := hR.yes _ hxN p hv
   obtain ⟨K, hK⟩ := ih (b + 1) _ r (by omega) (by simp; omega) hE
   refine ⟨K + 1, fun k hk => ?_⟩
   obtain ⟨k, rfl⟩ : ∃ m, k = m + 1 := ⟨k - 1, by omega⟩
   have hk2 := hK k (by omega)
   push_cast at hk2
   simp only [impl_Circuit_links.l1]
   rw [if_pos c1, if_pos (Int.natCast_nonneg b), if_pos c1, rd_get hb, if_pos hx.1, if_pos c2, rdOf_nat hx.1, y1, if_pos rfl, if_pos c3, if_pos c4, if_pos c5, hw, rd_nat, rd_nat, y2, y3]
   exact hk2
theorem links_l0 (n a3 a4 a5 a6 : Int) (gates : List S36) (data : List Int) (C : Ready n gates data) (d : Nat) : ∀ (a : Nat) (acc : List S54), (a : Int) + d = n → acc.length + 10 * d ≤ 900 →
  Ev (fun k => impl_Circuit_links.l0 k acc n (a : Int) n gates data a3 a4 a5 a6) (acc ++ linksFrom (pathO n gates data a5 a6) n.toNat a d) := by
 have hn := C.gs.n0
 have hn1 := C.gs.n1
 induction d with
 | zero =>
  intro a acc h hl
  refine ⟨1, fun k hk => ?_⟩
  obtain ⟨k, rfl⟩ : ∃ m, k = m + 1 := ⟨k - 1, by omega⟩
  simp only [impl_Circuit_links.l0, linksFrom, List.append_nil]
  rw [if_neg (by omega)]
 | succ d ih =>
  intro a acc h hl
  obtain ⟨L, M, R, ⟨K1, hK1⟩, hR⟩ := delays_at (a : Int) n a3 a4 a5 a6 gates data C.gs (by omega) (by omega)
  have hlen := linksTo_len (pathO n gates data a5 a6) (a : Int) n.toNat 0
  have h1 := ih (a + 1) (acc ++ linksTo (pathO n gates data a5 a6) (a : Int) 0 n.toNat) (by omega) (by simp; omega)
  have hw : wrap64 ((a : Int) + 1) = (a : Int) + 1 := wrap_id (by omega) (by omega)
  obtain ⟨K2, hK2⟩ := links_l1 n a3 a4 a5 a6 gates data C (a : Int) L M R hR n.toNat 0 acc _ (by omega) (by omega) (by rw [hw]; exact_mod_cast h1)
  refine ⟨K1 + K2 + 1, fun k hk => ?_⟩
  obtain ⟨k, rfl⟩ : ∃ m, k = m + 1 := ⟨k - 1, by omega⟩
  have hk1 : impl_Circuit_delays.f k n gates data a3 a4 a5 a6 (a : Int) = _ := hK1 k (by omega)
  have hk2 := hK2 k (by omega)
  simp only [impl_Circuit_links.l0, linksFrom]
  rw [if_pos (by omega), hk1, ← List.append_assoc]
  exact hk2
theorem links_tells (n a3 a4 a5 a6 : Int) (gates : List S36) (data : List Int) (C : Ready n gates data) :
  Ev (fun k => impl_Circuit_links.f k n gates data a3 a4 a5 a6) (linksOf (pathO n gates data a5 a6) n.toNat) := by
 have hn := C.gs.n0
 have hn1 := C.gs.n1
 have := links_l0 n a3 a4 a5 a6 gates data C n.toNat 0 [] (by omega) (by simp; omega)
 exact this
theorem tabG_prefix (l : List S36) : ∀ (t : List Way) (v : Nat), v < t.length → (tabG t l).getD v none = t.getD v none := by
 induction l with
 | nil => intro t v hv; rfl
 | cons g l ih =>
  intro t v hv
  rw [tabG_cons, ih _ v (by simp; omega), getD_snoc_lt hv]
theorem joins_congr (g : S36) (t t' : List Way) (l : List Int) : ∀ acc, (∀ x ∈ l, t.getD x.toNat none = t'.getD x.toNat none) → joins g t acc l = joins g t' acc l := by
 induction l with
 | nil => intro acc h; rfl
 | cons x l ih =>
  intro acc h
  simp only [joins]
  rw [h x (by simp), ih _ (fun y hy => h y (by simp [hy]))]
theorem tabG_node (l : List S36) : ∀ (t : List Way) (i : Nat) (h : i < l.length), (∀ (j : Nat) (h : j < l.length), ∀ x ∈ l[j].f2, 0 ≤ x ∧ x < (t.length : Int) + j) → (tabG t l).getD (t.length + i) none = joins l[i] (tabG t l) none l[i].f2 := by
 induction l with
 | nil => intro t i h; simp at h
 | cons g l ih =>
  intro t i h hx
  rw [tabG_cons]
  cases i with
  | zero =>
   rw [Nat.add_zero, tabG_prefix _ _ _ (by simp), getD_snoc_eq]
   simp only [List.getElem_cons_zero]
   apply joins_congr
   intro x hxx
   have := hx 0 (by simp) x hxx
   rw [tabG_prefix _ _ _ (by simp; omega), getD_snoc_lt (by omega)]
  | succ i =>
   have := ih (t ++ [joins g t none g.f2]) i (by simpa using h) (by
    intro j hj x hxx
    have := hx (j + 1) (by simpa using hj) x (by simpa using hxx)
    push_cast at this
    simp
    omega)
   rw [show t.length + (i + 1) = (t ++ [joins g t none g.f2]).length + i by simp; omega]
   simpa using this
theorem tab0_get (a : Int) (N v : Nat) (h : v < N) : (tab0 a N).getD v none = if (v : Int) = a then some (0, 0) else none := by
 unfold tab0
 rw [List.getD_eq_getElem?_getD, List.getElem?_map, List.getElem?_range h]
 rfl
theorem tab_reg (a n : Int) (gates : List S36) (v : Nat) (h : (v : Int) < n) : (tab a n gates).getD v none = if (v : Int) = a then some (0, 0) else none := by
 unfold tab
 rw [tabG_prefix _ _ _ (by rw [tab0_len]; omega), tab0_get a _ v (by omega)]
theorem tab_node (a n : Int) (gates : List S36) (C : Gates n gates) (i : Nat) (h : i < gates.length) : (tab a n gates).getD (n.toNat + i) none = joins gates[i] (tab a n gates) none gates[i].f2 := by
 have hn := C.n0
 have := tabG_node gates (tab0 a n.toNat) i h (fun j hj x hx => by
  have := (C.gate j hj).2.2.2.2 x hx
  rw [tab0_len]
  omega)
 rw [tab0_len] at this
 exact this
end Go.Proofs.Ytbkofbcmhddbfaa.Pure

/- Ways through a circuit: from a register to each node, and from each node to a goal: the greatest delay is the same from both ends. -/
namespace Go.Proofs.Ytbkofbcmhddbfaa.Pure
open Go.RowKit Go.Proofs.Ytbkofbcmhddbfaa.Pa Go.Proofs.YtbkofbcmhddbfaaW.PrintWords Go.Proofs.YtbkofbcmhddbfaaW.PrintLast Go.Proofs.YtbkofbcmhddbfaaW.PrintMore
set_option linter.unusedVariables false
set_option linter.unusedSimpArgs false

section
variable {n : Int} {gates : List S36}
/-- A way from a node to a node, with the least and the greatest delay of its gates. -/
inductive Wy (n : Int) (gates : List S36) : Int → Int → Int → Int → Prop
 | here (u : Int) : Wy n gates u u 0 0
 | step {u x a b : Int} (i : Nat) (h : i < gates.length) : Wy n gates u x a b → x ∈ gates[i].f2 → Wy n gates u (n + i) (a + gates[i].f0) (b + gates[i].f1)
/-- A gate ahead of a way. -/
theorem Wy.ahead {v a b : Int} (i : Nat) (h : i < gates.length) (hw : Wy n gates (n + i) v a b) {x : Int} (hx : x ∈ gates[i].f2) : Wy n gates x v (a + gates[i].f0) (b + gates[i].f1) := by
 induction hw with
 | here =>
  have := Wy.step (n := n) i h (Wy.here x) hx
  simpa using this
 | @step y a b j hj hw' hx' ih =>
  have := Wy.step j hj ih hx'
  rw [show a + gates[i].f0 + gates[j].f0 = a + gates[j].f0 + gates[i].f0 by omega, show b + gates[i].f1 + gates[j].f1 = b + gates[j].f1 + gates[i].f1 by omega] at this
  exact this
/-- A way is a gate ahead of a way, or stays. -/
theorem Wy.first {u v a b : Int} (hw : Wy n gates u v a b) : (u = v ∧ a = 0 ∧ b = 0) ∨ ∃ (i : Nat) (h : i < gates.length) (a' b' : Int), u ∈ gates[i].f2 ∧ Wy n gates (n + i) v a' b' ∧ a = a' + gates[i].f0 ∧ b = b' + gates[i].f1 := by
 induction hw with
 | here => exact Or.inl ⟨rfl, rfl, rfl⟩
 | step j hj hw' hx' ih =>
  right
  rcases ih with ⟨rfl, rfl, rfl⟩ | ⟨i, h, a', b', hu, hw2, rfl, rfl⟩
  ·exact ⟨j, hj, 0, 0, hx', Wy.here _, rfl, rfl⟩
  ·exact ⟨i, h, _, _, hu, Wy.step j hj hw2 hx', by omega, by omega⟩
/-- Ways lead upward. -/
theorem Wy.up (C : Gates n gates) {u v a b : Int} (hw : Wy n gates u v a b) : u ≤ v ∧ 0 ≤ a ∧ a ≤ b := by
 induction hw with
 | here => omega
 | step i h hw' hx ih =>
  have g := C.gate i h
  have := g.2.2.2.2 _ hx
  omega
theorem Wy.last {u v a b : Int} (hw : Wy n gates u v a b) (hv : ∀ i : Nat, i < gates.length → v ≠ n + i) : u = v ∧ a = 0 ∧ b = 0 := by
 cases hw with
 | here => exact ⟨rfl, rfl, rfl⟩
 | step i h _ _ => exact absurd rfl (hv i h)
/-- The least and the greatest of what a list gives. -/
def Best (P : Int → Int → Prop) (v : Way) : Prop := (v = none → ∀ a b, ¬ P a b) ∧ ∀ p, v = some p → (∃ b, P p.1 b) ∧ (∃ a, P a p.2) ∧ ∀ a b, P a b → p.1 ≤ a ∧ b ≤ p.2
theorem Best.congr {P Q : Int → Int → Prop} {v : Way} (h : Best P v) (e : ∀ a b, P a b ↔ Q a b) : Best Q v := by
 have : P = Q := by funext a b; exact propext (e a b)
 rw [← this]; exact h
theorem joinG_best (g : S36) {P Q : Int → Int → Prop} {acc v : Way} (ha : Best P acc) (hv : Best Q v) : Best (fun a b => P a b ∨ ∃ a' b', Q a' b' ∧ a = a' + g.f0 ∧ b = b' + g.f1) (joinG g acc v) := by
 cases v with
 | none =>
  refine ha.congr fun a b => ⟨Or.inl, fun h => ?_⟩
  rcases h with h | ⟨a', b', h, _⟩
  ·exact h
  ·exact absurd h (hv.1 rfl a' b')
 | some p =>
  obtain ⟨⟨b1, h1⟩, ⟨a1, h2⟩, h3⟩ := hv.2 p rfl
  cases acc with
  | none =>
   refine ⟨fun h => by simp [joinG] at h, fun q hq => ?_⟩
   simp only [joinG, Option.some.injEq] at hq
   subst hq
   refine ⟨⟨_, Or.inr ⟨_, _, h1, rfl, rfl⟩⟩, ⟨_, Or.inr ⟨_, _, h2, rfl, rfl⟩⟩, fun a b h => ?_⟩
   rcases h with h | ⟨a', b', h, rfl, rfl⟩
   ·exact absurd h (ha.1 rfl a b)
   ·have := h3 _ _ h
    dsimp only
    omega
  | some r =>
   obtain ⟨⟨b4, h4⟩, ⟨a5, h5⟩, h6⟩ := ha.2 r rfl
   refine ⟨fun h => by simp [joinG] at h, fun q hq => ?_⟩
   simp only [joinG, Option.some.injEq] at hq
   subst hq
   dsimp only
   refine ⟨?_, ?_, fun a b h => ?_⟩
   ·split
    ·exact ⟨_, Or.inr ⟨_, _, h1, rfl, rfl⟩⟩
    ·exact ⟨_, Or.inl h4⟩
   ·split
    ·exact ⟨_, Or.inr ⟨_, _, h2, rfl, rfl⟩⟩
    ·exact ⟨_, Or.inl h5⟩
   ·rcases h with h | ⟨a', b', h, rfl, rfl⟩
    ·have := h6 _ _ h
     constructor <;> split <;> omega
    ·have := h3 _ _ h
     constructor <;> split <;> omega
theorem joins_best (g : S36) (t : List Way) (Q : Int → Int → Int → Prop) : ∀ (l : List Int) (P : Int → Int → Prop) (acc : Way), Best P acc → (∀ x ∈ l, Best (Q x) (t.getD x.toNat none)) → Best (fun a b => P a b ∨ ∃ x ∈ l, ∃ a' b', Q x a' b' ∧ a = a' + g.f0 ∧ b = b' + g.f1) (joins g t acc l)
 | [], P, acc, ha, _ => ha.congr fun a b => ⟨Or.inl, fun h => by
   rcases h with h | ⟨x, hx, _⟩
   ·exact h
   ·simp at hx⟩
 | x :: l, P, acc, ha, hx => by
  have h1 := joinG_best g ha (hx x (List.mem_cons_self ..))
  refine (joins_best g t Q l _ _ h1 (fun y hy => hx y (List.mem_cons_of_mem _ hy))).congr fun a b => ?_
  constructor
  ·rintro ((h | ⟨a', b', h⟩) | ⟨y, hy, h⟩)
   ·exact Or.inl h
   ·exact Or.inr ⟨x, List.mem_cons_self .., a', b', h⟩
   ·exact Or.inr ⟨y, List.mem_cons_of_mem _ hy, h⟩
  ·rintro (h | ⟨y, hy, h⟩)
   ·exact Or.inl (Or.inl h)
   ·rcases List.mem_cons.mp hy with rfl | hy
    ·obtain ⟨a', b', h⟩ := h
     exact Or.inl (Or.inr ⟨a', b', h⟩)
    ·exact Or.inr ⟨y, hy, h⟩
/-- The table tells the least and the greatest delay of the ways from a register. -/
theorem tab_best (C : Gates n gates) (a : Int) (a0 : 0 ≤ a) (a1 : a < n) : ∀ (N v : Nat), v < N → (v : Int) < n + gates.length → Best (fun x y => Wy n gates a v x y) ((tab a n gates).getD v none) := by
 intro N
 have hn := C.n0
 induction N with
 | zero => intro v h; omega
 | succ N ih =>
  intro v hv hv2
  by_cases hr : (v : Int) < n
  ·rw [tab_reg a n gates v hr]
   have hlast : ∀ x y, Wy n gates a v x y → a = v ∧ x = 0 ∧ y = 0 := fun x y h => h.last (fun i _ => by omega)
   by_cases e : (v : Int) = a
   ·rw [if_pos e]
    refine ⟨fun h => (by cases h), fun p hp => ?_⟩
    obtain rfl := Option.some.inj hp
    subst e
    exact ⟨⟨0, Wy.here _⟩, ⟨0, Wy.here _⟩, fun x y h => by
     obtain ⟨_, rfl, rfl⟩ := hlast x y h
     exact ⟨Int.le_refl _, Int.le_refl _⟩⟩
   ·rw [if_neg e]
    exact ⟨fun _ x y h => e (hlast x y h).1.symm, fun p hp => (by cases hp)⟩
  ·obtain ⟨i, rfl⟩ : ∃ i, v = n.toNat + i := ⟨v - n.toNat, by omega⟩
   have hi : i < gates.length := by omega
   rw [tab_node a n gates C i hi]
   have g := (C.gate i hi).2.2.2.2
   refine (joins_best gates[i] (tab a n gates) (fun x p q => Wy n gates a x p q) gates[i].f2 (fun _ _ => False) none ⟨fun _ _ _ h => h, fun p hp => (by cases hp)⟩ (fun x hx => ?_)).congr fun p q => ?_
   ·have := g x hx
    have h1 := ih x.toNat (by omega) (by omega)
    rwa [show ((x.toNat : Nat) : Int) = x by omega] at h1
   ·rw [show ((n.toNat + i : Nat) : Int) = n + i by omega]
    constructor
    ·rintro (h | ⟨x, hx, p', q', h, rfl, rfl⟩)
     ·exact h.elim
     ·exact Wy.step i hi h hx
    ·intro h
     right
     generalize hz : n + (i : Int) = z at h
     cases h with
     | here => omega
     | step j hj hw hx =>
      obtain rfl : i = j := by omega
      exact ⟨_, hx, _, _, hw, rfl, rfl⟩
end
end Go.Proofs.Ytbkofbcmhddbfaa.Pure

namespace Go.Proofs.Ytbkofbcmhddbfaa.Pa
open Go.RowKit Go.Proofs.YtbkofbcmhddbfaaW.PrintWords Go.Proofs.YtbkofbcmhddbfaaW.PrintLast Go.Proofs.YtbkofbcmhddbfaaW.PrintMore
attribute [local go_sem] max2_int min2_int max_two min_two max_three min_three max_four min_four   -- for this text's walks alone
set_option linter.unusedVariables false
set_option linter.unusedSimpArgs false

/-! ### AUX longF -/
/-- One gate's inputs. -/
def restJ (goal nd most : Int) : List Int → List Int → List Int
 | R, [] => R
 | R, x :: l => restJ goal nd most (if 0 ≤ rd R nd ∧ x ≠ goal then R.set x.toNat (if rd R x < wrap64 (rd R nd + most) then wrap64 (rd R nd + most) else rd R x) else R) l
/-- The gates from the last on. -/
def restI (n goal : Int) (gates : List S36) : Nat → List Int → List Int
 | 0, R => R
 | i + 1, R => restI n goal gates i (restJ goal (n + i) (rd_T36 gates (i : Int)).f1 R (rd_T36 gates (i : Int)).f2)
/-- What the program lays down. -/
def restP (n goal : Int) (gates : List S36) : List Int := restI n goal gates gates.length ((List.replicate (n.toNat + gates.length) (-1)).set goal.toNat 0)
/-- The gates that a node leads to, for one node. -/
def leftJ (n : Int) (gates : List S36) (v : Int) : Nat → Nat → List Int → List Int
 | 0, _, R => R
 | d + 1, i, R => leftJ n gates v d (i + 1) (if v ∈ (rd_T36 gates (i : Int)).f2 ∧ 0 ≤ rd R (n + i) then R.set v.toNat (if rd R v < wrap64 (rd R (n + i) + (rd_T36 gates (i : Int)).f1) then wrap64 (rd R (n + i) + (rd_T36 gates (i : Int)).f1) else rd R v) else R)
/-- The nodes from the last on. -/
def leftI (n goal : Int) (gates : List S36) : Nat → List Int → List Int
 | 0, R => R
 | v + 1, R => leftI n goal gates v (leftJ n gates (v : Int) gates.length 0 (R.set v (if (v : Int) = goal then 0 else -1)))
def leftP (n goal : Int) (gates : List S36) : List Int := leftI n goal gates (n.toNat + gates.length) (List.replicate (n.toNat + gates.length) 0)
/-- The first gate that a longest path goes on to. -/
def nextF (n : Int) (gates : List S36) (R : List Int) (at_ : Int) : Nat → Nat → Option Nat
 | 0, _ => none
 | d + 1, i => if at_ ∈ (rd_T36 gates (i : Int)).f2 ∧ 0 ≤ rd R (n + i) ∧ rd R at_ = wrap64 (rd R (n + i) + (rd_T36 gates (i : Int)).f1) then some i else nextF n gates R at_ d (i + 1)
def pathL (n goal : Int) (gates : List S36) (R : List Int) : Nat → Int → List Int → Option (List Int)
 | 0, _, _ => none
 | k + 1, at_, acc => if at_ = goal then some acc else (nextF n gates R at_ gates.length 0).bind fun i => pathL n goal gates R k (n + (i : Int)) (acc ++ [n + (i : Int)])
/-- What the indices of both sides' walks must be. -/
def longC (n : Int) (gates : List S36) (data : List Int) (a b : Int) : Bool := decide (1 ≤ n ∧ n ≤ 6 ∧ gates.length ≤ 10 ∧ 0 ≤ a ∧ a < n ∧ 0 ≤ b ∧ b < (data.length : Int) ∧ 0 ≤ rd data b ∧ rd data b < n + (gates.length : Int)) && (List.range gates.length).all fun i => (rd_T36 gates (i : Int)).f2.all fun x => decide (0 ≤ x ∧ x < n + (i : Int))

end Go.Proofs.Ytbkofbcmhddbfaa.Pa

/- The greatest delay behind each node up to a goal: what the program and the reference lay down. -/
namespace Go.Proofs.Ytbkofbcmhddbfaa.Pure
open Go.RowKit Go.Proofs.Ytbkofbcmhddbfaa.Pa Go.Proofs.YtbkofbcmhddbfaaW.PrintWords Go.Proofs.YtbkofbcmhddbfaaW.PrintLast Go.Proofs.YtbkofbcmhddbfaaW.PrintMore
set_option linter.unusedVariables false
set_option linter.unusedSimpArgs false

/-- The greatest number with a property, or -1 where there is none. -/
def Top (P : Int → Prop) (r : Int) : Prop := (r = -1 ∧ ∀ b, ¬ P b) ∨ (0 ≤ r ∧ P r ∧ ∀ b, P b → b ≤ r)
theorem Top.congr {P Q : Int → Prop} {r : Int} (h : Top P r) (e : ∀ b, P b ↔ Q b) : Top Q r := by
 have : P = Q := by funext b; exact propext (e b)
 rw [← this]; exact h
theorem Top.add {P : Int → Prop} {r q : Int} (h : Top P r) (hq : 0 ≤ q) : Top (fun b => P b ∨ b = q) (if r < q then q else r) := by
 rcases h with ⟨e, h⟩ | ⟨e, h, h2⟩
 ·rw [if_pos (by omega)]
  refine Or.inr ⟨hq, Or.inr rfl, fun b hb => ?_⟩
  rcases hb with hb | hb
  ·exact absurd hb (h b)
  ·omega
 ·by_cases c : r < q
  ·rw [if_pos c]
   refine Or.inr ⟨hq, Or.inr rfl, fun b hb => ?_⟩
   rcases hb with hb | hb
   ·have := h2 b hb; omega
   ·omega
  ·rw [if_neg c]
   refine Or.inr ⟨e, Or.inl h, fun b hb => ?_⟩
   rcases hb with hb | hb
   ·exact h2 b hb
   ·omega
section
variable {n : Int} {gates : List S36}
/-- A way's greatest delay. -/
def Up (n : Int) (gates : List S36) (goal v b : Int) : Prop := ∃ a, Wy n gates v goal a b
/-- .. by way of a gate. -/
def Via (n : Int) (gates : List S36) (goal v : Int) (i : Nat) (b : Int) : Prop := ∃ (h : i < gates.length) (b' : Int), v ∈ gates[i].f2 ∧ Up n gates goal (n + i) b' ∧ b = b' + gates[i].f1
theorem Up_iff (goal v b : Int) : Up n gates goal v b ↔ (v = goal ∧ b = 0) ∨ ∃ i, Via n gates goal v i b := by
 constructor
 ·rintro ⟨a, h⟩
  rcases h.first with ⟨e, _, hb⟩ | ⟨i, hi, a', b', hv, hw, _, hb⟩
  ·exact Or.inl ⟨e, hb⟩
  ·exact Or.inr ⟨i, hi, b', hv, ⟨a', hw⟩, hb⟩
 ·rintro (⟨rfl, rfl⟩ | ⟨i, hi, b', hv, ⟨a', hw⟩, rfl⟩)
  ·exact ⟨0, Wy.here _⟩
  ·exact ⟨_, Wy.ahead i hi hw hv⟩
theorem Up_bound (C : Gates n gates) {goal v b : Int} (h : Up n gates goal v b) : v ≤ goal ∧ 0 ≤ b := by
 obtain ⟨a, h⟩ := h
 have := h.up C
 omega
/-- No way's delay is above 100 for each gate between. -/
theorem Wy.most (C : Gates n gates) {u v a b : Int} (hw : Wy n gates u v a b) : (v < n ∧ u = v ∧ b = 0) ∨ (n ≤ v ∧ b ≤ 100 * (v - n + 1)) := by
 induction hw with
 | here =>
  by_cases h : u < n
  ·exact Or.inl ⟨h, rfl, rfl⟩
  ·exact Or.inr ⟨by omega, by omega⟩
 | @step x a b i h hw' hx ih =>
  right
  have g := C.gate i h
  have := g.2.2.2.2 _ hx
  rcases ih with ih | ih <;> constructor <;> omega
theorem Via_bound (C : Gates n gates) {goal v b : Int} {i : Nat} (h : Via n gates goal v i b) : v < n + i ∧ n + i ≤ goal ∧ 0 ≤ b := by
 obtain ⟨hi, b', hv, hu, rfl⟩ := h
 have g := C.gate i hi
 have := g.2.2.2.2 _ hv
 have := Up_bound C hu
 omega
/-- What is laid down for all nodes. -/
def IsRest (n : Int) (gates : List S36) (goal : Int) (R : List Int) : Prop := (R.length : Int) = n + gates.length ∧ ∀ v : Int, 0 ≤ v → v < n + gates.length → Top (Up n gates goal v) (rd R v)
theorem rd_put {R : List Int} {x y q : Int} (h0 : 0 ≤ x) (h1 : x < (R.length : Int)) (h2 : 0 ≤ y) : rd (R.set x.toNat q) y = if y = x then q else rd R y := by
 obtain ⟨i, rfl⟩ : ∃ i : Nat, x = i := ⟨x.toNat, by omega⟩
 obtain ⟨j, rfl⟩ : ∃ j : Nat, y = j := ⟨y.toNat, by omega⟩
 unfold rd
 simp only [Int.toNat_natCast, List.getD_eq_getElem?_getD]
 rw [List.getElem?_set]
 by_cases e : i = j
 ·subst e
  rw [if_pos rfl, if_pos (by omega), if_pos rfl]
  rfl
 ·rw [if_neg e, if_neg (by omega)]
theorem restJ_tells (C : Gates n gates) {goal : Int} (hg : goal < n + gates.length) (i : Nat) (hi : i < gates.length) (P : Int → Int → Prop) : ∀ (l pre : List Int) (R : List Int), (R.length : Int) = n + gates.length → (∀ x ∈ l, x ∈ gates[i].f2) → Top (Up n gates goal (n + i)) (rd R (n + i)) →
  (∀ v, 0 ≤ v → v < n + gates.length → Top (fun b => P v b ∨ (v ∈ pre ∧ Via n gates goal v i b)) (rd R v)) →
  ((restJ goal (n + i) gates[i].f1 R l).length : Int) = n + gates.length ∧ (∀ v, n + i ≤ v → rd (restJ goal (n + i) gates[i].f1 R l) v = rd R v) ∧ ∀ v, 0 ≤ v → v < n + gates.length → Top (fun b => P v b ∨ (v ∈ pre ++ l ∧ Via n gates goal v i b)) (rd (restJ goal (n + i) gates[i].f1 R l) v)
 | [], pre, R, hl, _, _, h => by
  refine ⟨hl, fun v _ => rfl, fun v h0 h1 => ?_⟩
  rw [List.append_nil]
  exact h v h0 h1
 | x :: l, pre, R, hl, hx, ht, h => by
  have g := C.gate i hi
  have hn := C.n0
  have hn6 := C.n1
  have hgl := C.len
  have hxi := hx x (List.mem_cons_self ..)
  have hxb := g.2.2.2.2 x hxi
  have e : pre ++ x :: l = (pre ++ [x]) ++ l := by simp
  rw [e, restJ]
  have hrb : 0 ≤ rd R (n + i) → rd R (n + i) ≤ 2000 := by
   intro h0
   rcases ht with ⟨q, _⟩ | ⟨_, ⟨a, hw⟩, _⟩
   ·omega
   ·have := hw.most C
    omega
  by_cases c : 0 ≤ rd R (n + i) ∧ x ≠ goal
  ·rw [if_pos c, wrap_id (by have := hrb c.1; omega) (by have := hrb c.1; omega)]
   have hm : Top (fun b => (P x b ∨ (x ∈ pre ∧ Via n gates goal x i b)) ∨ b = rd R (n + i) + gates[i].f1) (if rd R x < rd R (n + i) + gates[i].f1 then rd R (n + i) + gates[i].f1 else rd R x) := (h x (by omega) (by omega)).add (by omega)
   generalize hq : (if rd R x < rd R (n + i) + gates[i].f1 then rd R (n + i) + gates[i].f1 else rd R x) = q at hm ⊢
   have hput := fun y h2 => rd_put (R := R) (x := x) (y := y) (q := q) (by omega) (by omega) h2
   have htop : 0 ≤ rd R (n + i) ∧ Up n gates goal (n + i) (rd R (n + i)) ∧ ∀ b, Up n gates goal (n + i) b → b ≤ rd R (n + i) := by
    rcases ht with ⟨q, _⟩ | q
    ·omega
    ·exact q
   have ih := restJ_tells C hg i hi P l (pre ++ [x]) (R.set x.toNat q) (by simpa using hl) (fun y hy => hx y (List.mem_cons_of_mem _ hy)) (by rw [hput _ (by omega), if_neg (by omega)]; exact ht) (fun v h0 h1 => by
    rw [hput v h0]
    by_cases ev : v = x
    ·subst ev
     rw [if_pos rfl]
     rcases hm with ⟨_, hm⟩ | ⟨m0, m1, m2⟩
     ·exact absurd (Or.inr rfl) (hm (rd R (n + i) + gates[i].f1))
     ·refine Or.inr ⟨m0, ?_, fun b hb => ?_⟩
      ·rcases m1 with (m1 | ⟨m1, m3⟩) | m1
       ·exact Or.inl m1
       ·exact Or.inr ⟨by simp [m1], m3⟩
       ·exact Or.inr ⟨by simp, hi, _, hxi, htop.2.1, m1⟩
      ·rcases hb with hb | ⟨_, hb⟩
       ·exact m2 b (Or.inl (Or.inl hb))
       ·have hmx := m2 _ (Or.inr rfl)
        obtain ⟨_, b', _, hu, rfl⟩ := hb
        have := htop.2.2 _ hu
        omega
    ·rw [if_neg ev]
     refine (h v h0 h1).congr fun b => ?_
     simp [ev])
   refine ⟨ih.1, fun v hv => ?_, ih.2.2⟩
   rw [ih.2.1 v hv, hput v (by omega), if_neg (by omega)]
  ·rw [if_neg c]
   have ih := restJ_tells C hg i hi P l (pre ++ [x]) R hl (fun y hy => hx y (List.mem_cons_of_mem _ hy)) ht (fun v h0 h1 => by
    by_cases ev : v = x
    ·subst ev
     have hno : ∀ b, ¬ Via n gates goal v i b := by
      intro b hb
      have hvb := Via_bound C hb
      by_cases e2 : v = goal
      ·omega
      ·obtain ⟨_, b', _, hu, _⟩ := hb
       rcases ht with ⟨_, q⟩ | ⟨q, _⟩
       ·exact q b' hu
       ·exact c ⟨q, e2⟩
     refine (h v h0 h1).congr fun b => ?_
     constructor
     ·rintro (p | ⟨_, p⟩)
      ·exact Or.inl p
      ·exact absurd p (hno b)
     ·rintro (p | ⟨_, p⟩)
      ·exact Or.inl p
      ·exact absurd p (hno b)
    ·refine (h v h0 h1).congr fun b => ?_
     simp [ev])
   exact ih
theorem restI_tells (C : Gates n gates) {goal : Int} (hg : goal < n + gates.length) : ∀ (i : Nat) (R : List Int), i ≤ gates.length → (R.length : Int) = n + gates.length →
  (∀ v, 0 ≤ v → v < n + gates.length → Top (fun b => (v = goal ∧ b = 0) ∨ ∃ j, i ≤ j ∧ Via n gates goal v j b) (rd R v)) → IsRest n gates goal (restI n goal gates i R)
 | 0, R, _, hl, h => by
  refine ⟨hl, fun v h0 h1 => (h v h0 h1).congr fun b => ?_⟩
  rw [Up_iff]
  simp
 | i + 1, R, hi, hl, h => by
  have hlt : i < gates.length := by omega
  have hr : rd_T36 gates (i : Int) = gates[i] := rdG' hlt
  have hn := C.n0
  rw [restI, hr]
  have hnode : Top (Up n gates goal (n + i)) (rd R (n + i)) := by
   refine (h (n + i) (by omega) (by omega)).congr fun b => ?_
   rw [Up_iff]
   constructor
   ·rintro (p | ⟨j, _, p⟩)
    ·exact Or.inl p
    ·exact Or.inr ⟨j, p⟩
   ·rintro (p | ⟨j, p⟩)
    ·exact Or.inl p
    ·have := Via_bound C p
     exact Or.inr ⟨j, by omega, p⟩
  have hj := restJ_tells C hg i hlt (fun v b => (v = goal ∧ b = 0) ∨ ∃ j, i + 1 ≤ j ∧ Via n gates goal v j b) gates[i].f2 [] R hl (fun x hx => hx) hnode (fun v h0 h1 => (h v h0 h1).congr fun b => by simp)
  refine restI_tells C hg i _ (by omega) hj.1 (fun v h0 h1 => (hj.2.2 v h0 h1).congr fun b => ?_)
  rw [List.nil_append]
  constructor
  ·rintro ((p | ⟨j, hj, p⟩) | ⟨_, p⟩)
   ·exact Or.inl p
   ·exact Or.inr ⟨j, by omega, p⟩
   ·exact Or.inr ⟨i, by omega, p⟩
  ·rintro (p | ⟨j, hj, p⟩)
   ·exact Or.inl (Or.inl p)
   ·by_cases e : j = i
    ·subst e
     obtain ⟨_, b', hv, hr⟩ := p
     exact Or.inr ⟨hv, hlt, b', hv, hr⟩
    ·exact Or.inl (Or.inr ⟨j, by omega, p⟩)
theorem restP_is (C : Gates n gates) {goal : Int} (h0 : 0 ≤ goal) (hg : goal < n + gates.length) : IsRest n gates goal (restP n goal gates) := by
 have hn := C.n0
 refine restI_tells C hg _ _ (Nat.le_refl _) (by simp; omega) (fun v h1 h2 => ?_)
 rw [rd_put h0 (by simp; omega) h1]
 by_cases e : v = goal
 ·rw [if_pos e]
  refine Or.inr ⟨Int.le_refl _, Or.inl ⟨e, rfl⟩, fun b hb => ?_⟩
  rcases hb with hb | ⟨j, hj, hb⟩
  ·omega
  ·obtain ⟨hlt, _⟩ := hb
   omega
 ·rw [if_neg e]
  refine Or.inl ⟨?_, fun b hb => ?_⟩
  ·obtain ⟨j, rfl⟩ : ∃ j : Nat, v = j := ⟨v.toNat, by omega⟩
   rw [rd_get (by simp; omega)]
   simp
  ·rcases hb with hb | ⟨j, hj, hb⟩
   ·exact e hb.1
   ·obtain ⟨hlt, _⟩ := hb
    omega
end
end Go.Proofs.Ytbkofbcmhddbfaa.Pure

/- What the reference lays down for the longest path, and the path that both sides read off it. -/
namespace Go.Proofs.Ytbkofbcmhddbfaa.Pure
open Go.RowKit Go.Proofs.Ytbkofbcmhddbfaa.Pa Go.Proofs.YtbkofbcmhddbfaaW.PrintWords Go.Proofs.YtbkofbcmhddbfaaW.PrintLast Go.Proofs.YtbkofbcmhddbfaaW.PrintMore
set_option linter.unusedVariables false
set_option linter.unusedSimpArgs false

section
variable {n : Int} {gates : List S36}
theorem nextF_some {R : List Int} {at_ : Int} : ∀ (d i j : Nat), nextF n gates R at_ d i = some j → i ≤ j ∧ j < i + d ∧ at_ ∈ (rd_T36 gates (j : Int)).f2 ∧ 0 ≤ rd R (n + j) ∧ rd R at_ = wrap64 (rd R (n + j) + (rd_T36 gates (j : Int)).f1)
 | 0, i, j, h => by cases h
 | d + 1, i, j, h => by
  unfold nextF at h
  split at h
  ·rename_i c
   obtain rfl := Option.some.inj h
   exact ⟨Nat.le_refl _, by omega, c⟩
  ·have := nextF_some d (i + 1) j h
   exact ⟨by omega, by omega, this.2.2⟩
theorem nextF_none {R : List Int} {at_ : Int} : ∀ (d i : Nat), nextF n gates R at_ d i = none → ∀ j, i ≤ j → j < i + d → ¬ (at_ ∈ (rd_T36 gates (j : Int)).f2 ∧ 0 ≤ rd R (n + j) ∧ rd R at_ = wrap64 (rd R (n + j) + (rd_T36 gates (j : Int)).f1))
 | 0, i, _, j, h1, h2 => by omega
 | d + 1, i, h, j, h1, h2 => by
  unfold nextF at h
  split at h
  ·cases h
  ·rename_i c
   by_cases e : j = i
   ·subst e; exact c
   ·exact nextF_none d (i + 1) h j (by omega) (by omega)
/-- A way as the list of its gates' nodes, with its greatest delay. -/
inductive PathIs (n : Int) (gates : List S36) (goal : Int) : Int → List Int → Int → Prop
 | here : PathIs n gates goal goal [] 0
 | step {at_ b : Int} {r : List Int} (i : Nat) (h : i < gates.length) : at_ ∈ gates[i].f2 → PathIs n gates goal (n + i) r b → PathIs n gates goal at_ ((n + i) :: r) (b + gates[i].f1)
theorem pathL_tells (C : Gates n gates) {goal : Int} (hg : goal < n + gates.length) {R : List Int} (hR : IsRest n gates goal R) : ∀ (k : Nat) (at_ : Int) (acc : List Int), 0 ≤ at_ → at_ < n + gates.length → 0 ≤ rd R at_ → goal - at_ < k → ∃ r, pathL n goal gates R k at_ acc = some (acc ++ r) ∧ PathIs n gates goal at_ r (rd R at_) ∧ (r.length : Int) ≤ goal - at_
 | 0, at_, acc, h0, h1, h2, hk => by
  rcases hR.2 at_ h0 h1 with ⟨q, _⟩ | ⟨_, q, _⟩
  ·omega
  ·have := Up_bound C q
   omega
 | k + 1, at_, acc, h0, h1, h2, hk => by
  have htop := hR.2 at_ h0 h1
  have hn := C.n0
  have hgl := C.len
  have hn6 := C.n1
  rcases htop with ⟨q, _⟩ | ⟨_, q, qm⟩
  ·omega
  ·by_cases e : at_ = goal
   ·subst e
    refine ⟨[], by simp [pathL], ?_, by simp⟩
    have hz : rd R at_ = 0 := by
     rcases (Up_iff at_ at_ _).1 q with ⟨_, z⟩ | ⟨i, z⟩
     ·exact z
     ·have := Via_bound C z
      omega
    rw [hz]
    exact PathIs.here
   ·unfold pathL
    rw [if_neg e]
    have hnode : ∀ j : Nat, j < gates.length → 0 ≤ rd R (n + j) → (Up n gates goal (n + j) (rd R (n + j)) ∧ rd R (n + j) ≤ 2000 ∧ ∀ b, Up n gates goal (n + j) b → b ≤ rd R (n + j)) := by
     intro j hj hp
     rcases hR.2 (n + j) (by omega) (by omega) with ⟨z, _⟩ | ⟨_, z, zm⟩
     ·omega
     ·refine ⟨z, ?_, zm⟩
      obtain ⟨a, hw⟩ := z
      have := hw.most C
      omega
    cases hq : nextF n gates R at_ gates.length 0 with
    | none =>
     exfalso
     rcases (Up_iff goal at_ _).1 q with ⟨z, _⟩ | ⟨i, z⟩
     ·exact e z
     ·obtain ⟨hi, b', hx, hu, hb⟩ := z
      have hr : rd_T36 gates (i : Int) = gates[i] := rdG' hi
      have g := C.gate i hi
      have hp : 0 ≤ rd R (n + i) := by
       rcases hR.2 (n + i) (by omega) (by omega) with ⟨_, z⟩ | ⟨z, _⟩
       ·exact absurd hu (z b')
       ·exact z
      obtain ⟨u1, u2, u3⟩ := hnode i hi hp
      have hle := u3 b' hu
      have hge := qm _ ((Up_iff goal at_ _).2 (Or.inr ⟨i, hi, _, hx, u1, rfl⟩))
      refine nextF_none _ _ hq i (by omega) (by omega) ?_
      rw [hr]
      exact ⟨hx, hp, by rw [wrap_id (by omega) (by omega)]; omega⟩
    | some j =>
     obtain ⟨_, hj, hx, hp, heq⟩ := nextF_some _ _ _ hq
     have hj : j < gates.length := by omega
     have hr : rd_T36 gates (j : Int) = gates[j] := rdG' hj
     rw [hr] at hx heq
     have g := C.gate j hj
     have hxb := g.2.2.2.2 _ hx
     obtain ⟨u1, u2, u3⟩ := hnode j hj hp
     rw [wrap_id (by omega) (by omega)] at heq
     obtain ⟨r, h3, h4, h5⟩ := pathL_tells C hg hR k (n + j) (acc ++ [n + (j : Int)]) (by omega) (by omega) hp (by omega)
     refine ⟨(n + (j : Int)) :: r, ?_, ?_, ?_⟩
     ·simp only [Option.bind_some]
      rw [h3]
      simp
     ·rw [heq]
      exact PathIs.step j hj hx h4
     ·rw [List.length_cons]
      push_cast
      omega
end
end Go.Proofs.Ytbkofbcmhddbfaa.Pure

/- The longest path's two sides are one: there is a path just where there are delays, and it is theirs. -/
namespace Go.Proofs.Ytbkofbcmhddbfaa.Pure
open Go.RowKit Go.Proofs.Ytbkofbcmhddbfaa.Pa Go.Proofs.YtbkofbcmhddbfaaW.PrintWords Go.Proofs.YtbkofbcmhddbfaaW.PrintLast Go.Proofs.YtbkofbcmhddbfaaW.PrintMore
set_option linter.unusedVariables false
set_option linter.unusedSimpArgs false

section
variable {n : Int} {gates : List S36} {data : List Int}
theorem goal_in (C : Ready n gates data) {b : Int} (b0 : 0 ≤ b) (b1 : b < n) : 0 ≤ rd data b ∧ rd data b < n + gates.length := by
 have hd := C.dlen
 obtain ⟨j, rfl⟩ : ∃ j : Nat, b = j := ⟨b.toNat, by omega⟩
 rw [rd_get (by omega)]
 have := C.node _ (List.getElem_mem (show j < data.length by omega))
 omega
theorem longC_is (C : Ready n gates data) {a b : Int} (a0 : 0 ≤ a) (a1 : a < n) (b0 : 0 ≤ b) (b1 : b < n) : longC n gates data a b = true := by
 have g := goal_in C b0 b1
 have hd := C.dlen
 have h0 := C.gs.n0
 have h1 := C.gs.n1
 have h2 := C.gs.len
 unfold longC
 rw [Bool.and_eq_true, decide_eq_true_eq, List.all_eq_true]
 refine ⟨by omega, fun i hi => ?_⟩
 have hi := List.mem_range.1 hi
 rw [List.all_eq_true]
 intro x hx
 rw [rdG' hi] at hx
 have := (C.gs.gate i hi).2.2.2.2 x hx
 exact decide_eq_true (by omega)
/-- The greatest delay from both ends. -/
theorem both_ends (C : Ready n gates data) {a b : Int} (a0 : 0 ≤ a) (a1 : a < n) (b0 : 0 ≤ b) (b1 : b < n) :
  ((tab a n gates).getD (rd data b).toNat none = none → rd (restP n (rd data b) gates) a = -1) ∧ ∀ p, (tab a n gates).getD (rd data b).toNat none = some p → rd (restP n (rd data b) gates) a = p.2 ∧ 0 ≤ p.2 := by
 have g := goal_in C b0 b1
 have hR := (restP_is C.gs g.1 g.2).2 a a0 (by omega)
 have hT := tab_best C.gs a a0 a1 ((rd data b).toNat + 1) (rd data b).toNat (by omega) (by omega)
 rw [show (((rd data b).toNat : Nat) : Int) = rd data b by omega] at hT
 constructor
 ·intro h
  rcases hR with ⟨e, _⟩ | ⟨_, ⟨x, hw⟩, _⟩
  ·exact e
  ·exact absurd hw (hT.1 h _ _)
 ·intro p hp
  obtain ⟨_, ⟨x, hx⟩, hm⟩ := hT.2 p hp
  have hup := hx.up C.gs
  rcases hR with ⟨_, h⟩ | ⟨_, ⟨y, hy⟩, h⟩
  ·exact absurd ⟨x, hx⟩ (h p.2)
  ·have h1 := h p.2 ⟨x, hx⟩
   have h2 := (hm _ _ hy).2
   omega
/-- Where there are delays, both sides find the path. -/
theorem path_is (C : Ready n gates data) {a b : Int} (a0 : 0 ≤ a) (a1 : a < n) (b0 : 0 ≤ b) (b1 : b < n) (h : 0 ≤ rd (restP n (rd data b) gates) a) :
  ∃ r, pathL n (rd data b) gates (restP n (rd data b) gates) 40 a [a] = some (a :: r) ∧ PathIs n gates (rd data b) a r (rd (restP n (rd data b) gates) a) ∧ r.length ≤ 16 := by
 have g := goal_in C b0 b1
 have h1 := C.gs.n1
 have h2 := C.gs.len
 obtain ⟨r, e, hp, hl⟩ := pathL_tells C.gs g.2 (restP_is C.gs g.1 g.2) 40 a [a] a0 (by omega) h (by omega)
 exact ⟨r, e, hp, by omega⟩
end
end Go.Proofs.Ytbkofbcmhddbfaa.Pure

namespace Go.Proofs.Ytbkofbcmhddbfaa.Pa
open Go.RowKit Go.Proofs.YtbkofbcmhddbfaaW.PrintWords Go.Proofs.YtbkofbcmhddbfaaW.PrintLast Go.Proofs.YtbkofbcmhddbfaaW.PrintMore
attribute [local go_sem] max2_int min2_int max_two min_two max_three min_three max_four min_four   -- for this text's walks alone
set_option linter.unusedVariables false
set_option linter.unusedSimpArgs false

/-! ### spec_l00Has: function 35 -/
def spec_l00Has.l0 : Nat → List Int → Int → Int → Option (Bool)
 | 0, _, _, _ => none
 | k + 1, x0, x1, x5 => if x5 < (x0.length : Int) then (if 0 ≤ x5 then (if (rd x0 x5) = x1 then (some true) else (spec_l00Has.l0 k x0 x1 (wrap64 (x5 + 1)))) else (none)) else (some false)
def spec_l00Has.f (k : Nat) (l0 : List Int) (a1 : Int) : Option (Bool) := spec_l00Has.l0 k l0 a1 0
end Go.Proofs.Ytbkofbcmhddbfaa.Pa

namespace Go.Proofs.Ytbkofbcmhddbfaa.Pa
open Go.RowKit Go.Proofs.YtbkofbcmhddbfaaW.PrintWords Go.Proofs.YtbkofbcmhddbfaaW.PrintLast Go.Proofs.YtbkofbcmhddbfaaW.PrintMore
attribute [local go_sem] max2_int min2_int max_two min_two max_three min_three max_four min_four   -- for this text's walks alone
set_option linter.unusedVariables false
set_option linter.unusedSimpArgs false

/-! ### spec_l00Max: function 36 -/
def spec_l00Max.f (a0 : Int) (a1 : Int) : Option (Int) := if a0 > a1 then (some a0) else (some a1)
end Go.Proofs.Ytbkofbcmhddbfaa.Pa

namespace Go.Proofs.Ytbkofbcmhddbfaa.Pa
open Go.RowKit Go.Proofs.YtbkofbcmhddbfaaW.PrintWords Go.Proofs.YtbkofbcmhddbfaaW.PrintLast Go.Proofs.YtbkofbcmhddbfaaW.PrintMore
attribute [local go_sem] max2_int min2_int max_two min_two max_three min_three max_four min_four   -- for this text's walks alone
set_option linter.unusedVariables false
set_option linter.unusedSimpArgs false

/-! ### spec_l06Both_at: function 200034 -/
def spec_l06Both_at.f (a0_0 : Int) (l0_1 : List (S36)) (l0_2 : List Int) (a0_3 a0_4 a0_5 a0_6 a1 a2 : Int) : Option Bool := if validB a0_0 l0_1 l0_2 a0_3 a0_4 a0_5 a0_6 = true then ((spec_l00In.f a1 0 (wrap64 (a0_0 - 1))).bind fun p => if p = true then spec_l00In.f a2 0 (wrap64 (a0_0 - 1)) else some false) else some false
end Go.Proofs.Ytbkofbcmhddbfaa.Pa

