-- Written for this claim by a program of this session.
import Derived.Test.YtahjcmmgdcedpaaXCoreP1
import Derived.Test.YtahjcmmgdcedpaaXCoreP3
import Derived.Test.YtahjcmmgdcedpaaXCoreP4
import Derived.Test.YtahjcmmgdcedpaaXCoreP5
import Derived.Test.YtahjcmmgdcedpaaXPax0
import Derived.Shelf.Abstract
/- The delays from a register to each node: the program's table and the reference's are one. -/
namespace Go.Proofs.Ytahjcmmgdcedpaa.Pure
open Go.RowKit Go.Proofs.Ytahjcmmgdcedpaa.Pa Go.Proofs.YtahjcmmgdcedpaaW.PrintWords Go.Proofs.YtahjcmmgdcedpaaW.PrintLast
set_option linter.unusedVariables false
set_option linter.unusedSimpArgs false

/-- The least and the greatest delay on ways to a node, if there is one. -/
abbrev Way := Option (Int × Int)
def lo : Way → Int
 | none => -1
 | some p => p.1
def hi : Way → Int
 | none => -1
 | some p => p.2
/-- One more input of a gate. -/
def joinG (g : S56) : Way → Way → Way
 | acc, none => acc
 | none, some p => some (p.1 + g.f0, p.2 + g.f1)
 | some q, some p => some (if p.1 + g.f0 < q.1 then p.1 + g.f0 else q.1, if q.2 < p.2 + g.f1 then p.2 + g.f1 else q.2)
def joins (g : S56) (t : List Way) : Way → List Int → Way
 | acc, [] => acc
 | acc, x :: l => joins g t (joinG g acc (t.getD x.toNat none)) l
def tabG : List Way → List S56 → List Way
 | t, [] => t
 | t, g :: l => tabG (t ++ [joins g t none g.f2]) l
def tab0 (a : Int) (n : Nat) : List Way := (List.range n).map fun r : Nat => if (r : Int) = a then some (0, 0) else none
/-- The table of all nodes, from a register. -/
def tab (a n : Int) (gates : List S56) : List Way := tabG (tab0 a n.toNat) gates
def Bd (m : Int) (v : Way) : Prop := ∀ p, v = some p → 0 ≤ p.1 ∧ p.1 ≤ p.2 ∧ p.2 ≤ m
theorem Bd.none (m : Int) : Bd m none := fun _ h => by simp at h
theorem Bd.mono {m m' : Int} {v : Way} (h : Bd m v) (hm : m ≤ m') : Bd m' v := fun p hp => by
 have := h p hp
 exact ⟨this.1, this.2.1, by omega⟩
theorem joinG_bd {g : S56} {m : Int} (hg : 0 ≤ g.f0 ∧ g.f0 ≤ g.f1 ∧ g.f1 ≤ 100) {acc v : Way} (ha : Bd (m + 100) acc) (hv : Bd m v) : Bd (m + 100) (joinG g acc v) := by
 intro p hp
 cases v with
 | none =>
  simp only [joinG] at hp
  exact ha p hp
 | some q =>
  have h1 := hv q rfl
  cases acc with
  | none =>
   simp only [joinG, Option.some.injEq] at hp
   subst hp
   exact ⟨by dsimp only; omega, by dsimp only; omega, by dsimp only; omega⟩
  | some r =>
   have h2 := ha r rfl
   simp only [joinG, Option.some.injEq] at hp
   subst hp
   dsimp only
   refine ⟨?_, ?_, ?_⟩ <;> (repeat' split) <;> omega
theorem getD_bd {m : Int} {t : List Way} (ht : ∀ v ∈ t, Bd m v) (i : Nat) : Bd m (t.getD i none) := by
 rw [List.getD_eq_getElem?_getD]
 by_cases h : i < t.length
 ·rw [List.getElem?_eq_getElem h]
  exact ht _ (List.getElem_mem h)
 ·rw [List.getElem?_eq_none (by omega)]
  exact Bd.none m
theorem joins_bd {g : S56} {m : Int} (hg : 0 ≤ g.f0 ∧ g.f0 ≤ g.f1 ∧ g.f1 ≤ 100) {t : List Way} (ht : ∀ v ∈ t, Bd m v) (l : List Int) : ∀ acc, Bd (m + 100) acc → Bd (m + 100) (joins g t acc l) := by
 induction l with
 | nil => intro acc h; exact h
 | cons x l ih => intro acc h; exact ih _ (joinG_bd hg h (getD_bd ht _))
theorem tabG_cons (t : List Way) (g : S56) (l : List S56) : tabG t (g :: l) = tabG (t ++ [joins g t none g.f2]) l := rfl
/-- What is known of a circuit's gates, read from a place on. -/
structure Gates (n : Int) (gates : List S56) : Prop where
 n0 : 1 ≤ n
 n1 : n ≤ 6
 len : gates.length ≤ 10
 gate : ∀ (i : Nat) (h : i < gates.length), 0 ≤ gates[i].f0 ∧ gates[i].f0 ≤ gates[i].f1 ∧ gates[i].f1 ≤ 100 ∧ gates[i].f2 ≠ [] ∧ ∀ x ∈ gates[i].f2, 0 ≤ x ∧ x ≤ n + i - 1
 wide : ∀ (i : Nat) (h : i < gates.length), gates[i].f2.length ≤ 1048576
theorem append_bd {m : Int} {t : List Way} {v : Way} (ht : ∀ v ∈ t, Bd m v) (hv : Bd (m + 100) v) : ∀ u ∈ t ++ [v], Bd (m + 100) u := by
 intro u hu
 rcases List.mem_append.mp hu with hu | hu
 ·exact (ht u hu).mono (by omega)
 ·rw [List.mem_singleton.mp hu]
  exact hv
theorem tab0_len (a : Int) (i : Nat) : (tab0 a i).length = i := by simp [tab0]
theorem tab0_bd (a : Int) (i : Nat) : ∀ v ∈ tab0 a i, Bd 0 v := by
 intro v hv p hp
 unfold tab0 at hv
 obtain ⟨r, _, rfl⟩ := List.mem_map.mp hv
 split at hp
 ·simp only [Option.some.injEq] at hp
  subst hp
  simp
 ·simp at hp
theorem tabG_len (l : List S56) : ∀ t, (tabG t l).length = t.length + l.length := by
 induction l with
 | nil => intro t; rfl
 | cons g l ih => intro t; rw [tabG_cons, ih]; simp; omega
theorem tabG_bd (n : Int) (gates : List S56) (C : Gates n gates) (d : Nat) : ∀ (i : Nat) (t : List Way), i + d = gates.length → (∀ v ∈ t, Bd (100 * i) v) → ∀ v ∈ tabG t (gates.drop i), Bd 1000 v := by
 have hl := C.len
 induction d with
 | zero =>
  intro i t h ht v hv
  rw [List.drop_of_length_le (by omega)] at hv
  exact (ht v hv).mono (by omega)
 | succ d ih =>
  intro i t h ht
  have hi' : i < gates.length := by omega
  have hg := C.gate i hi'
  rw [List.drop_eq_getElem_cons hi', tabG_cons]
  apply ih (i + 1) _ (by omega)
  intro v hv
  have := append_bd ht (joins_bd ⟨hg.1, hg.2.1, hg.2.2.1⟩ ht gates[i].f2 none (Bd.none _)) v hv
  rw [show (100 : Int) * ((i + 1 : Nat) : Int) = 100 * i + 100 by push_cast; omega]
  exact this
theorem tab_bd (a n : Int) (gates : List S56) (C : Gates n gates) : ∀ v ∈ tab a n gates, Bd 1000 v := by
 unfold tab
 have := tabG_bd n gates C gates.length 0 (tab0 a n.toNat) (by omega) (by simpa using tab0_bd a n.toNat)
 simpa using this
/-- The least and the greatest delay between two registers, if there is a path. -/
def pathO (n : Int) (gates : List S56) (data : List Int) (a5 a6 a b : Int) : Way := ((tab a n gates).getD (rd data b).toNat none).map fun p => (wrap64 (p.1 + a5), wrap64 (p.2 + a6))
end Go.Proofs.Ytahjcmmgdcedpaa.Pure

namespace Go.Proofs.Ytahjcmmgdcedpaa.Pa
open Go.RowKit Go.Proofs.YtahjcmmgdcedpaaW.PrintWords Go.Proofs.YtahjcmmgdcedpaaW.PrintLast Go.Proofs.YtahjcmmgdcedpaaW.PrintMore
attribute [local go_sem] max2_int min2_int max_two min_two max_three min_three max_four min_four   -- for this text's walks alone
set_option linter.unusedVariables false
set_option linter.unusedSimpArgs false

/-! ### impl_Circuit_links: function 49 -/
mutual
def impl_Circuit_links.l0 : Nat → List (S77) → Int → Int → Int → List (S56) → List Int → Int → Int → Int → Int → Option ((List (S77)))
 | 0, _, _, _, _, _, _, _, _, _, _ => none
 | k + 1, x3, x12, x13, x464000, x464001, x464002, x464003, x464004, x464005, x464006 => if x13 < x12 then ((impl_Circuit_delays.f k x464000 x464001 x464002 x464003 x464004 x464005 x464006 x13).bind fun bt467 => (impl_Circuit_links.l1 k x3 x13 bt467.1 bt467.2.1 bt467.2.2 x12 x13 x464002 (x464002.length : Int) 0 x464000 x464001 x464002 x464003 x464004 x464005 x464006)) else (some x3)
def impl_Circuit_links.l1 : Nat → List (S77) → Int → List Int → List Int → List Bool → Int → Int → List Int → Int → Int → Int → List (S56) → List Int → Int → Int → Int → Int → Option ((List (S77)))
 | 0, _, _, _, _, _, _, _, _, _, _, _, _, _, _, _, _, _ => none
 | k + 1, x3, x4, x5, x6, x7, x12, x13, x24, x25, x26, x464000, x464001, x464002, x464003, x464004, x464005, x464006 => if x26 < x25 then (if 0 ≤ x26 then (if x26 < (x24.length : Int) then (if 0 ≤ (rd x24 x26) then (if (rd x24 x26) < (x7.length : Int) then (if rdOf false x7 (rd x24 x26) = true then (if (rd x24 x26) < (x5.length : Int) then (if (rd x24 x26) < (x6.length : Int) then (if x3.length < 4398046511104 then (impl_Circuit_links.l1 k (x3 ++ [(⟨x4, x26, wrap64 ((rd x5 (rd x24 x26)) + x464005), wrap64 ((rd x6 (rd x24 x26)) + x464006)⟩ : S77)]) x4 x5 x6 x7 x12 x13 x24 x25 (wrap64 (x26 + 1)) x464000 x464001 x464002 x464003 x464004 x464005 x464006) else (none)) else (none)) else (none)) else (impl_Circuit_links.l1 k x3 x4 x5 x6 x7 x12 x13 x24 x25 (wrap64 (x26 + 1)) x464000 x464001 x464002 x464003 x464004 x464005 x464006)) else (none)) else (none)) else (none)) else (none)) else (impl_Circuit_links.l0 k x3 x12 (wrap64 (x13 + 1)) x464000 x464001 x464002 x464003 x464004 x464005 x464006)
end
def impl_Circuit_links.f (k : Nat) (a0_0 : Int) (l0_1 : List (S56)) (l0_2 : List Int) (a0_3 : Int) (a0_4 : Int) (a0_5 : Int) (a0_6 : Int) : Option ((List (S77))) := impl_Circuit_links.l0 k (([] : List (S77))) a0_0 0 a0_0 l0_1 l0_2 a0_3 a0_4 a0_5 a0_6
def impl_Circuit_links.T10 : Bool × List (List Nat × List Nat) := (true, [([], []), ([], []), ([], []), ([], []), ([], []), ([3, 4], [3, 4]), ([5], [5]), ([], []), ([7], [7]), ([6, 8], [6, 8]), ([], []), ([], []), ([10, 11], [10, 11]), ([12], [12]), ([], []), ([14], [14]), ([13, 15], [13, 15]), ([1, 2, 9, 16], [1, 2, 9, 16]), ([17], [17]), ([0, 18], [0, 18]), ([19, 19, 0, 1, 2, 3, 4, 5, 6, 7, 8, 9, 10, 11, 12, 13, 14, 15, 16, 17, 18, 19], [0, 19])])
def impl_Circuit_links.B10 : List Nat := [0, 0, 0, 0, 0, 24, 56, 0, 128, 504, 0, 0, 3072, 7168, 0, 16384, 64512, 131070, 262142, 524287, 1048575]
theorem impl_Circuit_links.tab10 : rtab .any (opsOf Try.f49 10) = impl_Circuit_links.T10 := by kernel_rfl
theorem impl_Circuit_links.bits10 : waitsOk impl_Circuit_links.T10.2 impl_Circuit_links.B10 = true := by kernel_rfl
set_option maxHeartbeats 8000000 in
set_option maxRecDepth 100000 in
theorem impl_Circuit_links.calls (k : Nat) (a0_0 : Int) (A0_1 : Option Addr) (c0_1 : Nat) (l0_1 : List (S56)) (A0_2 : Option Addr) (c0_2 : Nat) (l0_2 : List Int) (a0_3 : Int) (a0_4 : Int) (a0_5 : Int) (a0_6 : Int) (r : List (S77)) (w : World) (hr0_1 : Kd.C k56 w A0_1 l0_1.length l0_1) (hc0_1 : l0_1.length ≤ c0_1) (hr0_2 : Kd.C (Kd.int .i64) w A0_2 l0_2.length l0_2) (hc0_2 : l0_2.length ≤ c0_2) (h : impl_Circuit_links.f k a0_0 l0_1 l0_2 a0_3 a0_4 a0_5 a0_6 = some r) :
  Calls Try.prog 49 #[.agg #[.int .i64 a0_0, .slice A0_1 l0_1.length c0_1, .slice A0_2 l0_2.length c0_2, .int .i64 a0_3, .int .i64 a0_4, .int .i64 a0_5, .int .i64 a0_6]] w fun e w' => ∃ v0_ : Value, e = .returned (v0_) ∧ Kd.R k77 77 w' w.heap.size (fun _ => True) v0_ r ∧ Below w.heap.size w w' := by
 have hu45 := Try.underlying45
 have hu77 := Try.underlying77
 have HR0_1 := Aside0.mk hr0_1
 have HC0_1 := Aside0.mk hc0_1
 clear hr0_1 hc0_1
 have HR0_2 := Aside0.mk hr0_2
 have HC0_2 := Aside0.mk hc0_2
 clear hr0_2 hc0_2
 have HB := Aside0.mk (Below.refl w.heap.size w)
 have H : (impl_Circuit_links.l0 k (([] : List (S77))) a0_0 0 a0_0 l0_1 l0_2 a0_3 a0_4 a0_5 a0_6) = some r := h
 clear h
 obtain ⟨y464, hy464⟩ : ∃ y_ : List (S77), y_ = (([] : List (S77))) := ⟨_, rfl⟩
 (try rw [Option.bind_some] at H); try rw [← hy464] at H
 have Ny464 := Aside0.mk hy464
 clear hy464
 have H' := Aside0.mk H
 clear H
 go_enter Try.func49, Try.ntmps49
 go_wp2_with (first | ((with_reducible refine gate_dst (N := 1) rfl ?_); refine box_event ?hg (N := 1) ?hd (cs := #[.int .i64 a0_0, .slice A0_1 l0_1.length c0_1, .slice A0_2 l0_2.length c0_2, .int .i64 a0_3, .int .i64 a0_4, .int .i64 a0_5, .int .i64 a0_6]) (t := 45) ?hr ?_; (case hd => rfl); (case hg => rfl); (case hr => first | (go_simp; done) | (go_simp; rfl)); intro gb463 hg w2 hbox hb; have n0_ := Aside0.mk (below_step (by with_reducible repeat (first | exact HB.out | apply below_alloc | apply pw_below_drewN | apply below_drew1)) hb); have n1_ := Aside0.mk (hbox); have n2_ := Aside0.mk ((by rw [hg]; exact (below_size (by with_reducible repeat (first | exact HB.out | apply below_alloc | apply pw_below_drewN | apply below_drew1))) : w.heap.size ≤ gb463)); have n3_ := Aside0.mk ((by rw [hg]; exact (below_size (by with_reducible repeat (first | exact HB.out | apply below_alloc | apply pw_below_drewN | apply below_drew1))) : w.heap.size ≤ gb463)); clear HB; have HB := n0_; have BK463 := n1_; have GW463 := n2_; have GE463 := n3_; clear n0_ n1_ n2_ n3_; clear hb hbox hg) | ((with_reducible refine gate_dst (N := 10) rfl ?_); refine Kd.R_lit k77 _ 77 ?hg (N := 10) ?hd (xs := ([] : List (S77))) (inner := []) (ok := fun _ => True) (okp := fun _ => True) ?hr ?hp (fun _ hk => hk) trivial (Below.refl _ _) (Nat.le_refl _) (by simp) ?_; (case hd => rfl); (case hg => rfl); (case hr => first | (go_simp; done) | (go_simp; rfl)); (case hp => exact (Reps.none _ _)); intro v465 w3 ho4 hb hg_ hnew_; clear hg_ hnew_; (first | rw [← Ny464.out] at ho4 | (simp only [Int.reduceToNat] at ho4; rw [← Ny464.out] at ho4)); have n0_ := Aside0.mk (Kd.R_lower ho4 (below_size (by with_reducible repeat (first | exact HB.out | apply below_alloc | apply pw_below_drewN | apply below_drew1 | refine below_set ?_ GE463.out)))); have n1_ := Aside0.mk (blk_below (g := gb463) (by (with_reducible repeat (first | refine blk_drewN ?_ _ | refine blk_drew ?_ | refine blk_alloc ?_ _)); exact BK463.out) hb); have n2_ := Aside0.mk (below_step (by with_reducible repeat (first | exact HB.out | apply below_alloc | apply pw_below_drewN | apply below_drew1 | refine below_set ?_ GE463.out)) hb); clear BK463; clear HB; have HO466 := n0_; have BK463 := n1_; have HB := n2_; clear n0_ n1_ n2_; clear hb ho4; have hcz5_0 : w3.cell? ⟨gb463, 0, none⟩ = some (.int .i64 a0_0) := (blk_cell BK463.out 0).trans rfl; have hcz5_1 : w3.cell? ⟨gb463, 1, none⟩ = some (.slice A0_1 l0_1.length c0_1) := (blk_cell BK463.out 1).trans rfl; have hcz5_2 : w3.cell? ⟨gb463, 2, none⟩ = some (.slice A0_2 l0_2.length c0_2) := (blk_cell BK463.out 2).trans rfl; have hcz5_3 : w3.cell? ⟨gb463, 3, none⟩ = some (.int .i64 a0_3) := (blk_cell BK463.out 3).trans rfl; have hcz5_4 : w3.cell? ⟨gb463, 4, none⟩ = some (.int .i64 a0_4) := (blk_cell BK463.out 4).trans rfl; have hcz5_5 : w3.cell? ⟨gb463, 5, none⟩ = some (.int .i64 a0_5) := (blk_cell BK463.out 5).trans rfl; have hcz5_6 : w3.cell? ⟨gb463, 6, none⟩ = some (.int .i64 a0_6) := (blk_cell BK463.out 6).trans rfl; have hfz5_0 := blk_frozen BK463.out 0; have hfz5_1 := blk_frozen BK463.out 1; have hfz5_2 := blk_frozen BK463.out 2; have hfz5_3 := blk_frozen BK463.out 3; have hfz5_4 := blk_frozen BK463.out 4; have hfz5_5 := blk_frozen BK463.out 5; have hfz5_6 := blk_frozen BK463.out 6))
 go_loopg [3, 13] k (fun kq v3 v13 w' => ∃ (x3_1 : List (S77)) (x13_1 : Int), v13 = .int .i64 x13_1 ∧ Aside0 (impl_Circuit_links.l0 kq x3_1 a0_0 x13_1 a0_0 l0_1 l0_2 a0_3 a0_4 a0_5 a0_6 = some r) ∧ Aside0 (kq ≤ k) ∧ Aside0 (Kd.R k77 77 w' w.heap.size (fun _ => True) v3 x3_1) ∧ Aside0 (w'.heap[gb463]? = some (.cells #[.int .i64 a0_0, (.slice A0_1 l0_1.length c0_1), (.slice A0_2 l0_2.length c0_2), .int .i64 a0_3, .int .i64 a0_4, .int .i64 a0_5, .int .i64 a0_6] 45 (0, 0))) ∧ Aside0 (Below w.heap.size w w'))
 case atStart => exact ⟨(y464), (0), (by first | rfl | (simp; done) | (simp [*]; done)), H', ⟨Nat.le_refl _⟩, ⟨by (with_reducible repeat (first | apply Kd.R_alloc | apply Kd.R_drewN | apply Kd.R_drew)); exact HO466.out⟩, ⟨by (with_reducible repeat (first | refine blk_drewN ?_ _ | refine blk_drew ?_ | refine blk_alloc ?_ _)); exact BK463.out⟩, ⟨by with_reducible repeat (first | exact HB.out | apply below_alloc | apply pw_below_drewN | apply below_drew1 | refine below_set ?_ GE463.out)⟩⟩
 case round =>
  clear H'
  try clear p2
  try clear c4
  try clear hcz5_0
  try clear hcz5_1
  try clear hcz5_2
  try clear hcz5_3
  try clear hcz5_4
  try clear hcz5_5
  try clear hcz5_6
  try clear hfz5_0
  try clear hfz5_1
  try clear hfz5_2
  try clear hfz5_3
  try clear hfz5_4
  try clear hfz5_5
  try clear hfz5_6
  obtain ⟨x3_1, x13_1, rfl, HA, HK1, HO_3, BK463, HB⟩ := hrel
  cases gk with
  | zero => exact absurd HA.out (by simp [impl_Circuit_links.l0])
  | succ k1 =>
   have H := HA.out
   clear HA
   simp only [impl_Circuit_links.l0] at H
   by_cases c6 : x13_1 < a0_0
   ·rw [if_pos c6] at H
    have c6b0 : decide (x13_1 < a0_0) = true := decide_eq_true c6
    clear c6
    replace H := Option.bind_eq_some_iff.mp H
    obtain ⟨⟨t467, t470, t473⟩, A70, H⟩ := H
    try dsimp only at H
    have A7 := Aside0.mk A70
    clear A70
    have H' := Aside0.mk H
    clear H
    have hcz8_0 : wr.cell? ⟨gb463, 0, none⟩ = some (.int .i64 a0_0) := (blk_cell BK463.out 0).trans rfl
    have hcz8_1 : wr.cell? ⟨gb463, 1, none⟩ = some (.slice A0_1 l0_1.length c0_1) := (blk_cell BK463.out 1).trans rfl
    have hcz8_2 : wr.cell? ⟨gb463, 2, none⟩ = some (.slice A0_2 l0_2.length c0_2) := (blk_cell BK463.out 2).trans rfl
    have hcz8_3 : wr.cell? ⟨gb463, 3, none⟩ = some (.int .i64 a0_3) := (blk_cell BK463.out 3).trans rfl
    have hcz8_4 : wr.cell? ⟨gb463, 4, none⟩ = some (.int .i64 a0_4) := (blk_cell BK463.out 4).trans rfl
    have hcz8_5 : wr.cell? ⟨gb463, 5, none⟩ = some (.int .i64 a0_5) := (blk_cell BK463.out 5).trans rfl
    have hcz8_6 : wr.cell? ⟨gb463, 6, none⟩ = some (.int .i64 a0_6) := (blk_cell BK463.out 6).trans rfl
    have hfz8_0 := blk_frozen BK463.out 0
    have hfz8_1 := blk_frozen BK463.out 1
    have hfz8_2 := blk_frozen BK463.out 2
    have hfz8_3 := blk_frozen BK463.out 3
    have hfz8_4 := blk_frozen BK463.out 4
    have hfz8_5 := blk_frozen BK463.out 5
    have hfz8_6 := blk_frozen BK463.out 6
    go_wp2_with (first | ((with_reducible refine gate_callee (f := 74) rfl ?_); refine goesL_ (some 19) rfl rfl Try.func74 (by kernel_rfl) rfl #[.agg #[.int .i64 a0_0, .slice A0_1 l0_1.length c0_1, .slice A0_2 l0_2.length c0_2, .int .i64 a0_3, .int .i64 a0_4, .int .i64 a0_5, .int .i64 a0_6], .int .i64 x13_1] rfl (by (try simp only [List.map_toArray, List.map_cons, List.map_nil]); first | done | rfl | (simp only [List.length_drop, List.length_take]; rfl)) ?_; (with_reducible refine (impl_Circuit_delays.calls k1 a0_0 _ _ l0_1 _ _ l0_2 a0_3 a0_4 a0_5 a0_6 x13_1 t467 t470 t473 _ ?side1 ?side2 ?side3 ?side4 A7.out).mono ?_); (case side1 => repeat (first | exact (Kd.C_below HR0_1.out HB.out) | (with_reducible refine Kd.C_alloc ?_ _) | (with_reducible refine Kd.C_drewN ?_ _) | (with_reducible refine Kd.C_drew ?_))); (case side2 => exact HC0_1.out); (case side3 => repeat (first | exact (Kd.C_below HR0_2.out HB.out) | (with_reducible refine Kd.C_alloc ?_ _) | (with_reducible refine Kd.C_drewN ?_ _) | (with_reducible refine Kd.C_drew ?_))); (case side4 => exact HC0_2.out); rintro e w9 ⟨v468, v471, v474, rfl, ho0, ho1, ho2, hb⟩; refine ⟨_, rfl, ?_⟩; have n0_ := Aside0.mk (Kd.R_below (by (with_reducible repeat (first | apply Kd.R_alloc | apply Kd.R_drewN | apply Kd.R_drew)); exact HO_3.out) hb); have n1_ := Aside0.mk (Kd.R_lower ho0 (below_size (by with_reducible repeat (first | exact HB.out | apply below_alloc | apply pw_below_drewN | apply below_drew1 | refine below_set ?_ GE463.out)))); have n2_ := Aside0.mk (Kd.R_lower ho1 (below_size (by with_reducible repeat (first | exact HB.out | apply below_alloc | apply pw_below_drewN | apply below_drew1 | refine below_set ?_ GE463.out)))); have n3_ := Aside0.mk (Kd.R_lower ho2 (below_size (by with_reducible repeat (first | exact HB.out | apply below_alloc | apply pw_below_drewN | apply below_drew1 | refine below_set ?_ GE463.out)))); have n4_ := Aside0.mk (blk_below (g := gb463) (by (with_reducible repeat (first | refine blk_drewN ?_ _ | refine blk_drew ?_ | refine blk_alloc ?_ _)); exact BK463.out) hb); have n5_ := Aside0.mk (below_step (by with_reducible repeat (first | exact HB.out | apply below_alloc | apply pw_below_drewN | apply below_drew1 | refine below_set ?_ GE463.out)) hb); clear HO_3; clear BK463; clear HB; have HO_3 := n0_; have HO469 := n1_; have HO472 := n2_; have HO475 := n3_; have BK463 := n4_; have HB := n5_; clear n0_ n1_ n2_ n3_ n4_ n5_; (try clear hb); (try clear hb2); (try clear hk); (try clear hi); (try clear ho0); (try clear ho1); (try clear ho2); have hcz10_0 : w9.cell? ⟨gb463, 0, none⟩ = some (.int .i64 a0_0) := (blk_cell BK463.out 0).trans rfl; have hcz10_1 : w9.cell? ⟨gb463, 1, none⟩ = some (.slice A0_1 l0_1.length c0_1) := (blk_cell BK463.out 1).trans rfl; have hcz10_2 : w9.cell? ⟨gb463, 2, none⟩ = some (.slice A0_2 l0_2.length c0_2) := (blk_cell BK463.out 2).trans rfl; have hcz10_3 : w9.cell? ⟨gb463, 3, none⟩ = some (.int .i64 a0_3) := (blk_cell BK463.out 3).trans rfl; have hcz10_4 : w9.cell? ⟨gb463, 4, none⟩ = some (.int .i64 a0_4) := (blk_cell BK463.out 4).trans rfl; have hcz10_5 : w9.cell? ⟨gb463, 5, none⟩ = some (.int .i64 a0_5) := (blk_cell BK463.out 5).trans rfl; have hcz10_6 : w9.cell? ⟨gb463, 6, none⟩ = some (.int .i64 a0_6) := (blk_cell BK463.out 6).trans rfl; have hfz10_0 := blk_frozen BK463.out 0; have hfz10_1 := blk_frozen BK463.out 1; have hfz10_2 := blk_frozen BK463.out 2; have hfz10_3 := blk_frozen BK463.out 3; have hfz10_4 := blk_frozen BK463.out 4; have hfz10_5 := blk_frozen BK463.out 5; have hfz10_6 := blk_frozen BK463.out 6))
    go_loopg [3, 26] k1 (fun kq v3 v26 w' => ∃ (x3_2 : List (S77)) (x26_2 : Int), v26 = .int .i64 x26_2 ∧ Aside0 (impl_Circuit_links.l1 kq x3_2 x13_1 t467 t470 t473 a0_0 x13_1 l0_2 (l0_2.length : Int) x26_2 a0_0 l0_1 l0_2 a0_3 a0_4 a0_5 a0_6 = some r) ∧ Aside0 (kq ≤ k1) ∧ Aside0 (Kd.R k77 77 w' w.heap.size (fun _ => True) v3 x3_2) ∧ Aside0 (Kd.R (Kd.int .i64) 2 w' w.heap.size (fun k_ => some k_ ≠ (v471 : Value).ownBlock) v468 t467) ∧ Aside0 (Kd.R (Kd.int .i64) 2 w' w.heap.size (fun k_ => some k_ ≠ (v468 : Value).ownBlock) v471 t470) ∧ Aside0 (Kd.R Kd.bool 4 w' w.heap.size (fun _ => True) v474 t473) ∧ Aside0 (w'.heap[gb463]? = some (.cells #[.int .i64 a0_0, (.slice A0_1 l0_1.length c0_1), (.slice A0_2 l0_2.length c0_2), .int .i64 a0_3, .int .i64 a0_4, .int .i64 a0_5, .int .i64 a0_6] 45 (0, 0))) ∧ Aside0 (Below w.heap.size w w'))
    case atStart => exact ⟨(x3_1), (0), (by first | rfl | (simp; done) | (simp [*]; done)), H', ⟨Nat.le_refl _⟩, ⟨by (with_reducible repeat (first | apply Kd.R_alloc | apply Kd.R_drewN | apply Kd.R_drew)); exact HO_3.out⟩, ⟨by (with_reducible repeat (first | apply Kd.R_alloc | apply Kd.R_drewN | apply Kd.R_drew)); exact HO469.out⟩, ⟨by (with_reducible repeat (first | apply Kd.R_alloc | apply Kd.R_drewN | apply Kd.R_drew)); exact HO472.out⟩, ⟨by (with_reducible repeat (first | apply Kd.R_alloc | apply Kd.R_drewN | apply Kd.R_drew)); exact HO475.out⟩, ⟨by (with_reducible repeat (first | refine blk_drewN ?_ _ | refine blk_drew ?_ | refine blk_alloc ?_ _)); exact BK463.out⟩, ⟨by with_reducible repeat (first | exact HB.out | apply below_alloc | apply pw_below_drewN | apply below_drew1 | refine below_set ?_ GE463.out)⟩⟩
    case round =>
     clear H'
     try clear p2
     try clear c4
     try clear c6
     try clear c6b0
     try clear c7
     try clear hcz10_0
     try clear hcz10_1
     try clear hcz10_2
     try clear hcz10_3
     try clear hcz10_4
     try clear hcz10_5
     try clear hcz10_6
     try clear hcz5_0
     try clear hcz5_1
     try clear hcz5_2
     try clear hcz5_3
     try clear hcz5_4
     try clear hcz5_5
     try clear hcz5_6
     try clear hcz8_0
     try clear hcz8_1
     try clear hcz8_2
     try clear hcz8_3
     try clear hcz8_4
     try clear hcz8_5
     try clear hcz8_6
     try clear hfz10_0
     try clear hfz10_1
     try clear hfz10_2
     try clear hfz10_3
     try clear hfz10_4
     try clear hfz10_5
     try clear hfz10_6
     try clear hfz5_0
     try clear hfz5_1
     try clear hfz5_2
     try clear hfz5_3
     try clear hfz5_4
     try clear hfz5_5
     try clear hfz5_6
     try clear hfz8_0
     try clear hfz8_1
     try clear hfz8_2
     try clear hfz8_3
     try clear hfz8_4
     try clear hfz8_5
     try clear hfz8_6
     try clear p2
     obtain ⟨x3_2, x26_2, rfl, HA, HK2, HO_3, HO_5, HO_6, HO_7, BK463, HB⟩ := hrel
     cases gk with
     | zero => exact absurd HA.out (by simp [impl_Circuit_links.l1])
     | succ k2 =>
      have H := HA.out
      clear HA
      simp only [impl_Circuit_links.l1] at H
      by_cases c11 : x26_2 < (l0_2.length : Int)
      ·rw [if_pos c11] at H
       have c11b0 : decide (x26_2 < (l0_2.length : Int)) = true := decide_eq_true c11
       clear c11
       by_cases c12 : 0 ≤ x26_2
       case neg => rw [if_neg c12] at H; exact absurd H (by simp)
       rw [if_pos c12] at H
       have c12b0 : decide (0 ≤ x26_2) = true := decide_eq_true c12
       clear c12
       by_cases c13 : x26_2 < (l0_2.length : Int)
       case neg => rw [if_neg c13] at H; exact absurd H (by simp)
       rw [if_pos c13] at H
       have c13b0 : decide (x26_2 < (l0_2.length : Int)) = true := decide_eq_true c13
       clear c13
       by_cases c14 : 0 ≤ (rd l0_2 x26_2)
       case neg => rw [if_neg c14] at H; exact absurd H (by simp)
       rw [if_pos c14] at H
       have c14b0 : decide (0 ≤ (rd l0_2 x26_2)) = true := decide_eq_true c14
       clear c14
       by_cases c15 : (rd l0_2 x26_2) < (t473.length : Int)
       case neg => rw [if_neg c15] at H; exact absurd H (by simp)
       rw [if_pos c15] at H
       have c15b0 : decide ((rd l0_2 x26_2) < (t473.length : Int)) = true := decide_eq_true c15
       clear c15
       obtain ⟨bq16, hbq16⟩ : ∃ b_ : Bool, b_ = (rdOf false t473 (rd l0_2 x26_2)) := ⟨_, rfl⟩
       rw [← hbq16] at H
       have Nbq16 := Aside0.mk hbq16
       clear hbq16
       by_cases c17 : bq16 = true
       ·subst c17
        rw [if_pos rfl] at H
        by_cases c18 : (rd l0_2 x26_2) < (t467.length : Int)
        case neg => rw [if_neg c18] at H; exact absurd H (by simp)
        rw [if_pos c18] at H
        have c18b0 : decide ((rd l0_2 x26_2) < (t467.length : Int)) = true := decide_eq_true c18
        clear c18
        by_cases c19 : (rd l0_2 x26_2) < (t470.length : Int)
        case neg => rw [if_neg c19] at H; exact absurd H (by simp)
        rw [if_pos c19] at H
        have c19b0 : decide ((rd l0_2 x26_2) < (t470.length : Int)) = true := decide_eq_true c19
        clear c19
        by_cases c20 : x3_2.length < 4398046511104
        case neg => rw [if_neg c20] at H; exact absurd H (by simp)
        rw [if_pos c20] at H
        have LMc20 := Aside0.mk c20
        clear c20
        obtain ⟨y480, hy480⟩ : ∃ y_ : List (S77), y_ = (x3_2 ++ [(⟨x13_1, x26_2, wrap64 ((rd t467 (rd l0_2 x26_2)) + a0_5), wrap64 ((rd t470 (rd l0_2 x26_2)) + a0_6)⟩ : S77)]) := ⟨_, rfl⟩
        (try rw [Option.bind_some] at H); try rw [← hy480] at H
        have Ny480 := Aside0.mk hy480
        clear hy480
        have H' := Aside0.mk H
        clear H
        have p476 : 0 ≤ (x26_2 : Int) := of_decide_eq_true (by with_reducible assumption)
        have q476 : x26_2 < (l0_2.length : Int) := of_decide_eq_true (by with_reducible assumption)
        obtain ⟨ad476, e476, hx476_0⟩ := Kd.at_int HR0_2.out x26_2 p476 q476
        cases e476
        replace hx476_0 := (HB.out.cell (World.block_lt_of_cell? w _ hx476_0)).trans hx476_0
        replace p476 := eq_true p476
        replace q476 := eq_true q476
        obtain ⟨Ao21, co21, eo21⟩ := Kd.R_slice HO_7.out
        subst eo21
        have p477 : 0 ≤ ((rd l0_2 x26_2) : Int) := of_decide_eq_true (by with_reducible assumption)
        have q477 : (rd l0_2 x26_2) < (t473.length : Int) := of_decide_eq_true (by with_reducible assumption)
        obtain ⟨ad477, e477, hx477_0⟩ := Kd.at_bool (Kd.R_reads' HO_7.out).2.2 (rd l0_2 x26_2) p477 q477
        (try rw [← Nbq16.out] at hx477_0)
        cases e477
        replace p477 := eq_true p477
        replace q477 := eq_true q477
        try go_wp2
        have n0_ := Aside0.mk (Kd.R_drew HO_3.out)
        have n1_ := Aside0.mk (Kd.R_drew HO_5.out)
        have n2_ := Aside0.mk (Kd.R_drew HO_6.out)
        have n3_ := Aside0.mk (Kd.R_drew HO_7.out)
        have n4_ := Aside0.mk (blk_drew BK463.out)
        have n5_ := Aside0.mk (below_drew1 HB.out)
        clear HO_3
        clear HO_5
        clear HO_6
        clear HO_7
        clear BK463
        clear HB
        have HO_3 := n0_
        have HO_5 := n1_
        have HO_6 := n2_
        have HO_7 := n3_
        have BK463 := n4_
        have HB := n5_
        clear n0_ n1_ n2_ n3_ n4_ n5_
        obtain ⟨Ao23, co23, eo23⟩ := Kd.R_slice HO_5.out
        (first | subst eo23 | (injection eo23 with f1_ f2_ f3_; have f4_ := f1_.symm; have f5_ := f3_.symm; clear f1_ f2_ f3_; subst f4_; subst f5_))
        have p478 : 0 ≤ ((rd l0_2 x26_2) : Int) := of_decide_eq_true (by with_reducible assumption)
        have q478 : (rd l0_2 x26_2) < (t467.length : Int) := of_decide_eq_true (by with_reducible assumption)
        obtain ⟨ad478, e478, hx478_0⟩ := Kd.at_int (Kd.R_reads' HO_5.out).2.2 (rd l0_2 x26_2) p478 q478
        cases e478
        replace p478 := eq_true p478
        replace q478 := eq_true q478
        obtain ⟨Ao24, co24, eo24⟩ := Kd.R_slice HO_6.out
        (first | subst eo24 | (injection eo24 with f1_ f2_ f3_; have f4_ := f1_.symm; have f5_ := f3_.symm; clear f1_ f2_ f3_; subst f4_; subst f5_))
        have p479 : 0 ≤ ((rd l0_2 x26_2) : Int) := of_decide_eq_true (by with_reducible assumption)
        have q479 : (rd l0_2 x26_2) < (t470.length : Int) := of_decide_eq_true (by with_reducible assumption)
        obtain ⟨ad479, e479, hx479_0⟩ := Kd.at_int (Kd.R_reads' HO_6.out).2.2 (rd l0_2 x26_2) p479 q479
        cases e479
        replace p479 := eq_true p479
        replace q479 := eq_true q479
        refine start_ (n := 21) (S := fun w' => w'.cell? ⟨gb463, 0, none⟩ = some (.int .i64 a0_0) ∧ w'.cell? ⟨gb463, 1, none⟩ = some (.slice A0_1 l0_1.length c0_1) ∧ w'.cell? ⟨gb463, 2, none⟩ = some (.slice (some ad476) l0_2.length c0_2) ∧ w'.cell? ⟨gb463, 3, none⟩ = some (.int .i64 a0_3) ∧ w'.cell? ⟨gb463, 4, none⟩ = some (.int .i64 a0_4) ∧ w'.cell? ⟨gb463, 5, none⟩ = some (.int .i64 a0_5) ∧ w'.cell? ⟨gb463, 6, none⟩ = some (.int .i64 a0_6) ∧ w'.cell? (ad478.add ((rd l0_2 x26_2)).toNat) = some (.int .i64 (rd t467 (rd l0_2 x26_2))) ∧ w'.cell? (ad479.add ((rd l0_2 x26_2)).toNat) = some (.int .i64 (rd t470 (rd l0_2 x26_2)))) (ds := [18, 19]) #[false, false, false, false, false, false, false, false, false, false, false, false, false, false, false, false, false, false, false, false, false] (by kernel_rfl) rfl rfl ⟨(blk_cell BK463.out 0).trans rfl, (blk_cell BK463.out 1).trans rfl, (blk_cell BK463.out 2).trans rfl, (blk_cell BK463.out 3).trans rfl, (blk_cell BK463.out 4).trans rfl, (blk_cell BK463.out 5).trans rfl, (blk_cell BK463.out 6).trans rfl, hx478_0, hx479_0⟩ (fun hHeld => ?_); refine with_tabW impl_Circuit_links.tab10 impl_Circuit_links.bits10 (fun HT_ HW_ => ?_)
        generalize wr.drew = w22 at HO_3 HO_5 HO_6 HO_7 BK463 HB hx478_0 hx479_0 hHeld ⊢
        refine pure_ (i := 0) (N := some 35) (v := ?_) (a' := ?_) #[true, false, false, false, false, false, false, false, false, false, false, false, false, false, false, false, false, false, false, false, false] rfl rfl (any_of HT_.out (by kernel_rfl)) (fun _ _ _ h => h) (Or.inl ⟨by rfl, ?_⟩) ?_ ?_
        rotate_left
        ·intro w'
         go_simp
         with_reducible rfl
        rotate_left
        ·simp only [Act.put, List.setIfInBounds_toArray, List.set_cons_zero, List.set_cons_succ, i64_w, i32_w]
         rfl
        refine pure_ (i := 1) (N := some 36) (v := ?_) (a' := ?_) #[true, true, false, false, false, false, false, false, false, false, false, false, false, false, false, false, false, false, false, false, false] rfl rfl (any_of HT_.out (by kernel_rfl)) (fun _ _ _ h => h) (Or.inl ⟨by rfl, ?_⟩) ?_ ?_
        rotate_left
        ·intro w'
         go_simp
         with_reducible rfl
        rotate_left
        ·simp only [Act.put, List.setIfInBounds_toArray, List.set_cons_zero, List.set_cons_succ, i64_w, i32_w]
         rfl
        refine pure_ (i := 2) (N := some 37) (v := ?_) (a' := ?_) #[true, true, true, false, false, false, false, false, false, false, false, false, false, false, false, false, false, false, false, false, false] rfl rfl (any_of HT_.out (by kernel_rfl)) (fun _ _ _ h => h) (Or.inl ⟨by rfl, ?_⟩) ?_ ?_
        rotate_left
        ·intro w'
         go_simp
         with_reducible rfl
        rotate_left
        ·simp only [Act.put, List.setIfInBounds_toArray, List.set_cons_zero, List.set_cons_succ, i64_w, i32_w]
         rfl
        refine pure_ (i := 3) (N := some 38) (v := ?_) (a' := ?_) #[true, true, true, true, false, false, false, false, false, false, false, false, false, false, false, false, false, false, false, false, false] rfl rfl (any_of HT_.out (by kernel_rfl)) (fun _ _ _ h => h) (Or.inl ⟨by rfl, ?_⟩) ?_ ?_
        rotate_left
        ·intro w'
         go_simp
         with_reducible rfl
        rotate_left
        ·simp only [Act.put, List.setIfInBounds_toArray, List.set_cons_zero, List.set_cons_succ, i64_w, i32_w]
         rfl
        refine pure_ (i := 4) (N := some 39) (v := ?_) (a' := ?_) #[true, true, true, true, true, false, false, false, false, false, false, false, false, false, false, false, false, false, false, false, false] rfl rfl (any_of HT_.out (by kernel_rfl)) (fun _ _ _ h => h) (Or.inl ⟨by rfl, ?_⟩) ?_ ?_
        rotate_left
        ·intro w'
         go_simp
         with_reducible rfl
        rotate_left
        ·simp only [Act.put, List.setIfInBounds_toArray, List.set_cons_zero, List.set_cons_succ, i64_w, i32_w]
         rfl
        refine pure_ (i := 5) (N := some 40) (v := ?_) (a' := ?_) #[true, true, true, true, true, true, false, false, false, false, false, false, false, false, false, false, false, false, false, false, false] rfl rfl (any_of HT_.out (by kernel_rfl)) (fun _ _ _ h => h) (Or.inl ⟨by rfl, ?_⟩) ?_ ?_
        rotate_left
        ·intro w'
         go_simp
         with_reducible rfl
        rotate_left
        ·simp only [Act.put, List.setIfInBounds_toArray, List.set_cons_zero, List.set_cons_succ, i64_w, i32_w]
         rfl
        refine pure_ (i := 7) (N := some 42) (v := ?_) (a' := ?_) #[true, true, true, true, true, true, false, true, false, false, false, false, false, false, false, false, false, false, false, false, false] rfl rfl (any_of HT_.out (by kernel_rfl)) (fun _ _ _ h => h) (Or.inl ⟨by rfl, ?_⟩) ?_ ?_
        rotate_left
        ·intro w'
         go_simp
         with_reducible rfl
        rotate_left
        ·simp only [Act.put, List.setIfInBounds_toArray, List.set_cons_zero, List.set_cons_succ, i64_w, i32_w]
         rfl
        refine pure_ (i := 10) (N := some 45) (v := ?_) (a' := ?_) #[true, true, true, true, true, true, false, true, false, false, true, false, false, false, false, false, false, false, false, false, false] rfl rfl (any_of HT_.out (by kernel_rfl)) (fun _ _ _ h => h) (Or.inl ⟨by rfl, ?_⟩) ?_ ?_
        rotate_left
        ·intro w'
         go_simp
         with_reducible rfl
        rotate_left
        ·simp only [Act.put, List.setIfInBounds_toArray, List.set_cons_zero, List.set_cons_succ, i64_w, i32_w]
         rfl
        refine pure_ (i := 11) (N := some 46) (v := ?_) (a' := ?_) #[true, true, true, true, true, true, false, true, false, false, true, true, false, false, false, false, false, false, false, false, false] rfl rfl (any_of HT_.out (by kernel_rfl)) (fun _ _ _ h => h) (Or.inl ⟨by rfl, ?_⟩) ?_ ?_
        rotate_left
        ·intro w'
         go_simp
         with_reducible rfl
        rotate_left
        ·simp only [Act.put, List.setIfInBounds_toArray, List.set_cons_zero, List.set_cons_succ, i64_w, i32_w]
         rfl
        refine pure_ (i := 12) (N := some 47) (v := ?_) (a' := ?_) #[true, true, true, true, true, true, false, true, false, false, true, true, true, false, false, false, false, false, false, false, false] rfl rfl (any_of HT_.out (by kernel_rfl)) (fun _ _ _ h => h) (Or.inl ⟨by rfl, ?_⟩) ?_ ?_
        rotate_left
        ·intro w'
         go_simp
         with_reducible rfl
        rotate_left
        ·simp only [Act.put, List.setIfInBounds_toArray, List.set_cons_zero, List.set_cons_succ, i64_w, i32_w]
         rfl
        refine pure_ (i := 14) (N := some 49) (v := ?_) (a' := ?_) #[true, true, true, true, true, true, false, true, false, false, true, true, true, false, true, false, false, false, false, false, false] rfl rfl (any_of HT_.out (by kernel_rfl)) (fun _ _ _ h => h) (Or.inl ⟨by rfl, ?_⟩) ?_ ?_
        rotate_left
        ·intro w'
         go_simp
         with_reducible rfl
        rotate_left
        ·simp only [Act.put, List.setIfInBounds_toArray, List.set_cons_zero, List.set_cons_succ, i64_w, i32_w]
         rfl
        refine take_ (i := 6) (N := some 41) (v := ?_) (a' := ?_) #[true, true, true, true, true, true, true, true, false, false, true, true, true, false, true, false, false, false, false, false, false] rfl rfl (take_ofW HT_.out HW_.out (by kernel_rfl)) (fun _ _ _ h => h) (Or.inl ⟨by rfl, ?_⟩) hHeld ?_ ?_
        rotate_left
        ·rintro w' ⟨s0, s1, s2, s3, s4, s5, s6, s7, s8⟩
         go_simp
         with_reducible rfl
        rotate_left
        ·simp only [Act.put, List.setIfInBounds_toArray, List.set_cons_zero, List.set_cons_succ, i64_w, i32_w]
         rfl
        refine take_ (i := 8) (N := some 43) (v := ?_) (a' := ?_) #[true, true, true, true, true, true, true, true, true, false, true, true, true, false, true, false, false, false, false, false, false] rfl rfl (take_ofW HT_.out HW_.out (by kernel_rfl)) (fun _ _ _ h => h) (Or.inl ⟨by rfl, ?_⟩) hHeld ?_ ?_
        rotate_left
        ·rintro w' ⟨s0, s1, s2, s3, s4, s5, s6, s7, s8⟩
         go_simp
         with_reducible rfl
        rotate_left
        ·simp only [Act.put, List.setIfInBounds_toArray, List.set_cons_zero, List.set_cons_succ, i64_w, i32_w]
         rfl
        refine pure_ (i := 9) (N := some 44) (v := ?_) (a' := ?_) #[true, true, true, true, true, true, true, true, true, true, true, true, true, false, true, false, false, false, false, false, false] rfl rfl (any_of HT_.out (by kernel_rfl)) (fun _ _ _ h => h) (Or.inl ⟨by rfl, ?_⟩) ?_ ?_
        rotate_left
        ·intro w'
         go_simp
         with_reducible rfl
        rotate_left
        ·simp only [Act.put, List.setIfInBounds_toArray, List.set_cons_zero, List.set_cons_succ, i64_w, i32_w]
         rfl
        refine take_ (i := 13) (N := some 48) (v := ?_) (a' := ?_) #[true, true, true, true, true, true, true, true, true, true, true, true, true, true, true, false, false, false, false, false, false] rfl rfl (take_ofW HT_.out HW_.out (by kernel_rfl)) (fun _ _ _ h => h) (Or.inl ⟨by rfl, ?_⟩) hHeld ?_ ?_
        rotate_left
        ·rintro w' ⟨s0, s1, s2, s3, s4, s5, s6, s7, s8⟩
         go_simp
         with_reducible rfl
        rotate_left
        ·simp only [Act.put, List.setIfInBounds_toArray, List.set_cons_zero, List.set_cons_succ, i64_w, i32_w]
         rfl
        refine take_ (i := 15) (N := some 50) (v := ?_) (a' := ?_) #[true, true, true, true, true, true, true, true, true, true, true, true, true, true, true, true, false, false, false, false, false] rfl rfl (take_ofW HT_.out HW_.out (by kernel_rfl)) (fun _ _ _ h => h) (Or.inl ⟨by rfl, ?_⟩) hHeld ?_ ?_
        rotate_left
        ·rintro w' ⟨s0, s1, s2, s3, s4, s5, s6, s7, s8⟩
         go_simp
         with_reducible rfl
        rotate_left
        ·simp only [Act.put, List.setIfInBounds_toArray, List.set_cons_zero, List.set_cons_succ, i64_w, i32_w]
         rfl
        refine pure_ (i := 16) (N := some 51) (v := ?_) (a' := ?_) #[true, true, true, true, true, true, true, true, true, true, true, true, true, true, true, true, true, false, false, false, false] rfl rfl (any_of HT_.out (by kernel_rfl)) (fun _ _ _ h => h) (Or.inl ⟨by rfl, ?_⟩) ?_ ?_
        rotate_left
        ·intro w'
         go_simp
         with_reducible rfl
        rotate_left
        ·simp only [Act.put, List.setIfInBounds_toArray, List.set_cons_zero, List.set_cons_succ, i64_w, i32_w]
         rfl
        refine pure_ (i := 17) (N := some 52) (v := ?_) (a' := ?_) #[true, true, true, true, true, true, true, true, true, true, true, true, true, true, true, true, true, true, false, false, false] rfl rfl (any_of HT_.out (by kernel_rfl)) (fun _ _ _ h => h) (Or.inl ⟨by rfl, ?_⟩) ?_ ?_
        rotate_left
        ·intro w'
         go_simp
         with_reducible rfl
        rotate_left
        ·simp only [Act.put, List.setIfInBounds_toArray, List.set_cons_zero, List.set_cons_succ, i64_w, i32_w]
         rfl
        refine last_ (i := 18) (N := some 53) #[true, true, true, true, true, true, true, true, true, true, true, true, true, true, true, true, true, true, true, false, false] rfl rfl (one_of HT_.out (by kernel_rfl)) (by decide) (fun K hK => ?_)
        refine value_ (w1 := ?_) (v := ?_) (by rfl) rfl ?_ ?_
        rotate_left 2
        ·go_simp
         constructor
         ·rfl
         ·rfl
        refine hK.out _ _ ?_
        clear hK K
        refine norm_ (a' := ?_) ?_ ?_
        rotate_left
        ·show Act.put _ (some 53) _ = _
         simp only [Act.put, List.setIfInBounds_toArray, List.set_cons_zero, List.set_cons_succ, i64_w, i32_w]
         rfl
        refine last_ (i := 19) (N := some 54) #[true, true, true, true, true, true, true, true, true, true, true, true, true, true, true, true, true, true, true, true, false] rfl rfl (one_of HT_.out (by kernel_rfl)) (by decide) (fun K hK => ?_)
        refine Kd.R_append_step k77 (w0 := w) w.heap.size (by rfl) (.tmp 35) (.tmp 53) 74 77 (.agg #[(.int .i64 0), (.int .i64 0), (.int .i64 0), (.int .i64 0)]) 32 rfl Try.underlying74 info77 rfl (by decide) (by omega) u3 x3_2 (⟨x13_1, x26_2, wrap64 ((rd t467 (rd l0_2 x26_2)) + a0_5), wrap64 ((rd t470 (rd l0_2 x26_2)) + a0_6)⟩ : S77) [.int .i64 x13_1, .int .i64 x26_2, .int .i64 (wrap64 ((rd t467 (rd l0_2 x26_2)) + a0_5)), .int .i64 (wrap64 ((rd t470 (rd l0_2 x26_2)) + a0_6))] (fun _ => True) (fun _ => False) rfl rfl ?aP (fun _ hk => hk.elim) ?aF ?aO ?aB ?aS ?aL ?_
        (case aP => exact k77_mkM _ _ _ (⟨x13_1, x26_2, wrap64 ((rd t467 (rd l0_2 x26_2)) + a0_5), wrap64 ((rd t470 (rd l0_2 x26_2)) + a0_6)⟩ : S77))
        (case aB => exact (by with_reducible repeat (first | exact HB.out | apply below_alloc | apply pw_below_drewN | apply below_drew1 | refine below_set ?_ GE463.out)))
        (case aF => exact (fun _ _ => trivial))
        (case aO => exact (by (with_reducible repeat (first | apply Kd.R_alloc | apply Kd.R_drewN | apply Kd.R_drew)); exact HO_3.out))
        (case aS => exact (below_size (by with_reducible repeat (first | exact HB.out | apply below_alloc | apply pw_below_drewN | apply below_drew1 | refine below_set ?_ GE463.out))))
        (case aL => have := LMc20.out; omega)
        intro v481 w25 ho hb hg hat
        rw [← Ny480.out] at ho
        have n0_ := Aside0.mk (Kd.R_over' (by (with_reducible repeat (first | apply Kd.R_alloc | apply Kd.R_drewN | apply Kd.R_drew)); exact HO_5.out) (Kd.R_typed (by (with_reducible repeat (first | apply Kd.R_alloc | apply Kd.R_drewN | apply Kd.R_drew)); exact HO_3.out)) (by decide) hg)
        have n1_ := Aside0.mk (Kd.R_over' (by (with_reducible repeat (first | apply Kd.R_alloc | apply Kd.R_drewN | apply Kd.R_drew)); exact HO_6.out) (Kd.R_typed (by (with_reducible repeat (first | apply Kd.R_alloc | apply Kd.R_drewN | apply Kd.R_drew)); exact HO_3.out)) (by decide) hg)
        have n2_ := Aside0.mk (Kd.R_over' (by (with_reducible repeat (first | apply Kd.R_alloc | apply Kd.R_drewN | apply Kd.R_drew)); exact HO_7.out) (Kd.R_typed (by (with_reducible repeat (first | apply Kd.R_alloc | apply Kd.R_drewN | apply Kd.R_drew)); exact HO_3.out)) (by decide) hg)
        have n3_ := Aside0.mk (blk_grown (g := gb463) (by (with_reducible repeat (first | refine blk_drewN ?_ _ | refine blk_drew ?_ | refine blk_alloc ?_ _)); exact BK463.out) hg (Kd.R_ne HO_3.out BK463.out (by decide)))
        have n4_ := Aside0.mk (hb)
        have n5_ := Aside0.mk (ho)
        clear HO_5
        clear HO_6
        clear HO_7
        clear BK463
        clear HB
        clear HO_3
        have HO_5 := n0_
        have HO_6 := n1_
        have HO_7 := n2_
        have BK463 := n3_
        have HB := n4_
        have HO482 := n5_
        clear n0_ n1_ n2_ n3_ n4_ n5_
        clear ho hb hg hat
        refine hK.out _ _ ?_
        clear hK K
        refine norm_ (a' := ?_) ?_ ?_
        rotate_left
        ·show Act.put _ (some 54) _ = _
         simp only [Act.put, List.setIfInBounds_toArray, List.set_cons_zero, List.set_cons_succ, i64_w, i32_w]
         rfl
        refine pure_ (i := 20) (N := some 3) (v := ?_) (a' := ?_) #[true, true, true, true, true, true, true, true, true, true, true, true, true, true, true, true, true, true, true, true, true] rfl rfl (any_of HT_.out (by kernel_rfl)) (fun _ _ _ h => h) (Or.inl ⟨by rfl, ?_⟩) ?_ ?_
        rotate_left
        ·intro w'
         go_simp
         with_reducible rfl
        rotate_left
        ·simp only [Act.put, List.setIfInBounds_toArray, List.set_cons_zero, List.set_cons_succ, i64_w, i32_w]
         rfl
        refine done_ (done_of HT_.out (by kernel_rfl)) ?_
        try go_wp2
        go_roundg k2
        case measure => have := HK1.out; have := HK2.out; omega
        case rel => exact ⟨(y480), (wrap64 (x26_2 + 1)), (by first | rfl | (simp; done) | (simp [*]; done)), H', ⟨by have := HK1.out; have := HK2.out; omega⟩, ⟨by (with_reducible repeat (first | apply Kd.R_alloc | apply Kd.R_drewN | apply Kd.R_drew)); exact HO482.out⟩, ⟨by (with_reducible repeat (first | apply Kd.R_alloc | apply Kd.R_drewN | apply Kd.R_drew)); exact HO_5.out⟩, ⟨by (with_reducible repeat (first | apply Kd.R_alloc | apply Kd.R_drewN | apply Kd.R_drew)); exact HO_6.out⟩, ⟨by (with_reducible repeat (first | apply Kd.R_alloc | apply Kd.R_drewN | apply Kd.R_drew)); exact HO_7.out⟩, ⟨by (with_reducible repeat (first | refine blk_drewN ?_ _ | refine blk_drew ?_ | refine blk_alloc ?_ _)); exact BK463.out⟩, ⟨by with_reducible repeat (first | exact HB.out | apply below_alloc | apply pw_below_drewN | apply below_drew1 | refine below_set ?_ GE463.out)⟩⟩
       ·replace c17 := Bool.eq_false_iff.mpr c17
        subst c17
        rw [if_neg (by decide)] at H
        have H' := Aside0.mk H
        clear H
        have p476 : 0 ≤ (x26_2 : Int) := of_decide_eq_true (by with_reducible assumption)
        have q476 : x26_2 < (l0_2.length : Int) := of_decide_eq_true (by with_reducible assumption)
        obtain ⟨ad476, e476, hx476_0⟩ := Kd.at_int HR0_2.out x26_2 p476 q476
        cases e476
        replace hx476_0 := (HB.out.cell (World.block_lt_of_cell? w _ hx476_0)).trans hx476_0
        replace p476 := eq_true p476
        replace q476 := eq_true q476
        obtain ⟨Ao26, co26, eo26⟩ := Kd.R_slice HO_7.out
        subst eo26
        have p477 : 0 ≤ ((rd l0_2 x26_2) : Int) := of_decide_eq_true (by with_reducible assumption)
        have q477 : (rd l0_2 x26_2) < (t473.length : Int) := of_decide_eq_true (by with_reducible assumption)
        obtain ⟨ad477, e477, hx477_0⟩ := Kd.at_bool (Kd.R_reads' HO_7.out).2.2 (rd l0_2 x26_2) p477 q477
        (try rw [← Nbq16.out] at hx477_0)
        cases e477
        replace p477 := eq_true p477
        replace q477 := eq_true q477
        go_wp2
        go_roundg k2
        case measure => have := HK1.out; have := HK2.out; omega
        case rel => exact ⟨(x3_2), (wrap64 (x26_2 + 1)), (by first | rfl | (simp; done) | (simp [*]; done)), H', ⟨by have := HK1.out; have := HK2.out; omega⟩, ⟨by (with_reducible repeat (first | apply Kd.R_alloc | apply Kd.R_drewN | apply Kd.R_drew)); exact HO_3.out⟩, ⟨by (with_reducible repeat (first | apply Kd.R_alloc | apply Kd.R_drewN | apply Kd.R_drew)); exact HO_5.out⟩, ⟨by (with_reducible repeat (first | apply Kd.R_alloc | apply Kd.R_drewN | apply Kd.R_drew)); exact HO_6.out⟩, ⟨by (with_reducible repeat (first | apply Kd.R_alloc | apply Kd.R_drewN | apply Kd.R_drew)); exact HO_7.out⟩, ⟨by (with_reducible repeat (first | refine blk_drewN ?_ _ | refine blk_drew ?_ | refine blk_alloc ?_ _)); exact BK463.out⟩, ⟨by with_reducible repeat (first | exact HB.out | apply below_alloc | apply pw_below_drewN | apply below_drew1 | refine below_set ?_ GE463.out)⟩⟩
      ·rw [if_neg c11] at H
       have c11b0 : decide (x26_2 < (l0_2.length : Int)) = false := decide_eq_false c11
       clear c11
       have H' := Aside0.mk H
       clear H
       go_wp2
       go_roundg k2
       case measure => have := HK1.out; have := HK2.out; omega
       case rel => exact ⟨(x3_2), (wrap64 (x13_1 + 1)), (by first | rfl | (simp; done) | (simp [*]; done)), H', ⟨by have := HK1.out; have := HK2.out; omega⟩, ⟨by (with_reducible repeat (first | apply Kd.R_alloc | apply Kd.R_drewN | apply Kd.R_drew)); exact HO_3.out⟩, ⟨by (with_reducible repeat (first | refine blk_drewN ?_ _ | refine blk_drew ?_ | refine blk_alloc ?_ _)); exact BK463.out⟩, ⟨by with_reducible repeat (first | exact HB.out | apply below_alloc | apply pw_below_drewN | apply below_drew1 | refine below_set ?_ GE463.out)⟩⟩
   ·rw [if_neg c6] at H
    have c6b0 : decide (x13_1 < a0_0) = false := decide_eq_false c6
    clear c6
    obtain rfl := Option.some.inj H
    go_wp2
    go_ret
    exact ⟨_, by first | rfl | (simp [errW_none, errW_some] <;> rfl) | (simp [*, errW_none, errW_some] <;> rfl), by (with_reducible repeat (first | apply Kd.R_alloc | apply Kd.R_drewN | apply Kd.R_drew)); exact HO_3.out, by with_reducible repeat (first | exact HB.out | apply below_alloc | apply pw_below_drewN | apply below_drew1 | refine below_set ?_ GE463.out)⟩

end Go.Proofs.Ytahjcmmgdcedpaa.Pa

/- The program's delays from a register to each node, and its links. -/
namespace Go.Proofs.Ytahjcmmgdcedpaa.Pure
open Go.RowKit Go.Proofs.Ytahjcmmgdcedpaa.Pa Go.Proofs.YtahjcmmgdcedpaaW.PrintWords Go.Proofs.YtahjcmmgdcedpaaW.PrintLast
set_option linter.unusedVariables false
set_option linter.unusedSimpArgs false

/-- Three rows of so many cells tell a table. -/
structure Rel (N : Nat) (t : List Way) (L M : List Int) (R : List Bool) : Prop where
 l : L.length = N
 m : M.length = N
 r : R.length = N
 no : ∀ v : Nat, v < N → t.getD v none = none → R.getD v false = false
 yes : ∀ v : Nat, v < N → ∀ p, t.getD v none = some p → R.getD v false = true ∧ L.getD v 0 = p.1 ∧ M.getD v 0 = p.2
theorem rdOf_nat {x : Int} (h : 0 ≤ x) (R : List Bool) : rdOf false R x = R.getD x.toNat false := by
 unfold rdOf
 rfl
theorem rd_nat (l : List Int) (x : Int) : rd l x = l.getD x.toNat 0 := rfl
theorem getD_snoc_lt {α : Type} {t : List α} {v : α} {z : α} {i : Nat} (h : i < t.length) : (t ++ [v]).getD i z = t.getD i z := by
 rw [List.getD_eq_getElem?_getD, List.getD_eq_getElem?_getD, List.getElem?_append_left h]
theorem getD_snoc_eq {α : Type} {t : List α} {v : α} {z : α} : (t ++ [v]).getD t.length z = v := by
 rw [List.getD_eq_getElem?_getD, List.getElem?_append_right (Nat.le_refl _)]
 simp
theorem getD_snoc_gt {α : Type} {t : List α} {v : α} {z : α} {i : Nat} (h : t.length < i) : (t ++ [v]).getD i z = z := by
 rw [List.getD_eq_getElem?_getD, List.getElem?_eq_none (by simp; omega)]
 rfl
theorem getD_over {α : Type} {t : List α} {z : α} {i : Nat} (h : t.length ≤ i) : t.getD i z = z := by
 rw [List.getD_eq_getElem?_getD, List.getElem?_eq_none h]
 rfl
theorem getD_set {α : Type} {l : List α} {i j : Nat} {v z : α} (h : i < l.length) : (l.set i v).getD j z = if i = j then v else l.getD j z := by
 rw [List.getD_eq_getElem?_getD, List.getD_eq_getElem?_getD, List.getElem?_set]
 split
 ·simp [h]
 ·rfl
theorem Rel.none {N : Nat} {t : List Way} {L M : List Int} {R : List Bool} (h : Rel N t L M R) : Rel N (t ++ [none]) L M R := by
 have e : ∀ v : Nat, (t ++ [Option.none]).getD v Option.none = t.getD v Option.none := by
  intro v
  rcases Nat.lt_trichotomy v t.length with hv | hv | hv
  ·exact getD_snoc_lt hv
  ·subst hv
   rw [getD_snoc_eq, getD_over (Nat.le_refl _)]
  ·rw [getD_snoc_gt hv, getD_over (by omega)]
 exact ⟨h.l, h.m, h.r, fun v hv ht => h.no v hv (by rw [← e]; exact ht), fun v hv p ht => h.yes v hv p (by rw [← e]; exact ht)⟩
theorem mn_def (a b : Int) : mn a b = if b < a then b else a := rfl
theorem mx_def (a b : Int) : mx a b = if a < b then b else a := rfl
/-- A node's entry is written anew. -/
theorem Rel.put {N : Nat} {t : List Way} {acc : Way} {L M : List Int} {R : List Bool} (h : Rel N (t ++ [acc]) L M R) (ht : t.length < N) (a b : Int) : Rel N (t ++ [some (a, b)]) (L.set t.length a) (M.set t.length b) (R.set t.length true) := by
 have hl := h.l
 have hm := h.m
 have hr := h.r
 refine ⟨by simpa using hl, by simpa using hm, by simpa using hr, fun v hv hn => ?_, fun v hv p hp => ?_⟩
 ·rcases Nat.lt_trichotomy v t.length with hvt | hvt | hvt
  ·rw [getD_set (by omega), if_neg (by omega)]
   rw [getD_snoc_lt hvt] at hn
   exact h.no v hv (by rw [getD_snoc_lt hvt]; exact hn)
  ·subst hvt
   rw [getD_snoc_eq] at hn
   simp at hn
  ·rw [getD_set (by omega), if_neg (by omega)]
   exact h.no v hv (getD_snoc_gt hvt)
 ·rcases Nat.lt_trichotomy v t.length with hvt | hvt | hvt
  ·rw [getD_set (by omega), getD_set (by omega), getD_set (by omega), if_neg (by omega), if_neg (by omega), if_neg (by omega)]
   rw [getD_snoc_lt hvt] at hp
   exact h.yes v hv p (by rw [getD_snoc_lt hvt]; exact hp)
  ·subst hvt
   rw [getD_snoc_eq] at hp
   rw [getD_set (by omega), getD_set (by omega), getD_set (by omega), if_pos rfl, if_pos rfl, if_pos rfl]
   simp only [Option.some.injEq] at hp
   subst hp
   exact ⟨rfl, rfl, rfl⟩
  ·rw [getD_snoc_gt hvt] at hp
   simp at hp
theorem set_same {l : List Bool} {i : Nat} (h : l.getD i false = true) : l.set i true = l := by
 apply List.ext_getElem?
 intro j
 rw [List.getElem?_set]
 split
 ·rename_i e
  subst e
  rw [List.getD_eq_getElem?_getD] at h
  cases hg : l[i]? with
  | none => rw [hg] at h; simp at h
  | some b =>
   rw [hg] at h
   simp only [Option.getD_some] at h
   have := (List.getElem?_eq_some_iff.mp hg).1
   rw [if_pos this, h]
 ·rfl
theorem delays_l1 (n a3 a4 a5 a6 : Int) (gates : List S56) (data : List Int) (i : Nat) (hi' : i < gates.length) (C : Gates n gates)
  (t : List Way) (m : Int) (hm : m ≤ 10000) (ht : ∀ v ∈ t, Bd m v) (htl : (t.length : Int) = n + i) (N : Nat) (hN : t.length < N) (d : Nat) :
  ∀ (j : Nat) (acc : Way) (L M : List Int) (R : List Bool), j + d = gates[i].f2.length → Bd (m + 100) acc → Rel N (t ++ [acc]) L M R →
  ∃ L' M' R', Rel N (t ++ [joins gates[i] t acc (gates[i].f2.drop j)]) L' M' R' ∧ ∀ r, Ev (fun k => impl_Circuit_delays.l0 k L' M' R' gates (gates.length : Int) ((i : Int) + 1) n gates data a3 a4 a5 a6) r →
  Ev (fun k => impl_Circuit_delays.l1 k L M R (n + (i : Int)) gates (gates.length : Int) (i : Int) gates[i].f2 (gates[i].f2.length : Int) (j : Int) n gates data a3 a4 a5 a6 gates[i].f0 gates[i].f1 gates[i].f2) r := by
 have hc := C.n0
 have hc1 := C.n1
 have hcl := C.len
 have hg := C.gate i hi'
 have hwide := C.wide i hi'
 induction d with
 | zero =>
  intro j acc L M R h hb hR
  rw [List.drop_of_length_le (by omega)]
  refine ⟨L, M, R, hR, fun r hE => ?_⟩
  obtain ⟨K, hK⟩ := hE
  refine ⟨K + 1, fun k hk => ?_⟩
  obtain ⟨k, rfl⟩ : ∃ m, k = m + 1 := ⟨k - 1, by omega⟩
  simp only [impl_Circuit_delays.l1]
  rw [if_neg (by omega), wrap_id (by omega) (by omega)]
  exact hK k (by omega)
 | succ d ih =>
  intro j acc L M R h hb hR
  have hj : j < gates[i].f2.length := by omega
  have hxj := hg.2.2.2.2 _ (List.getElem_mem hj)
  rw [List.drop_eq_getElem_cons hj]
  simp only [joins]
  have hvb := getD_bd ht (gates[i].f2[j]).toNat
  have hw : wrap64 ((j : Int) + 1) = (j : Int) + 1 := wrap_id (by omega) (by omega)
  have hl := hR.l
  have hm' := hR.m
  have hr := hR.r
  have hxt : (gates[i].f2[j]).toNat < t.length := by omega
  have hxN : (gates[i].f2[j]).toNat < N := by omega
  have hnode : ((n + (i : Int)).toNat) = t.length := by omega
  have hsnoc := getD_snoc_lt (v := acc) (z := (none : Way)) hxt
  have c1 : (j : Int) < (gates[i].f2.length : Int) := Int.ofNat_lt.mpr hj
  have c2 : gates[i].f2[j] < (R.length : Int) := by omega
  have c3 : gates[i].f2[j] < (L.length : Int) := by omega
  have c4 : gates[i].f2[j] < (M.length : Int) := by omega
  have c5 : 0 ≤ n + (i : Int) := by omega
  have c6 : n + (i : Int) < (R.length : Int) := by omega
  have c7 : n + (i : Int) < (L.length : Int) := by omega
  have c8 : n + (i : Int) < (M.length : Int) := by omega
  cases hv : t.getD (gates[i].f2[j]).toNat none with
  | none =>
   have hE' : joins gates[i] t (joinG gates[i] acc none) (gates[i].f2.drop (j + 1)) = joins gates[i] t acc (gates[i].f2.drop (j + 1)) := by
    cases acc <;> rfl
   obtain ⟨L', M', R', hR', hE⟩ := ih (j + 1) acc L M R (by omega) hb hR
   refine ⟨L', M', R', by rw [hE']; exact hR', fun r hr' => ?_⟩
   obtain ⟨K, hK⟩ := hE r hr'
   refine ⟨K + 1, fun k hk => ?_⟩
   obtain ⟨k, rfl⟩ : ∃ m, k = m + 1 := ⟨k - 1, by omega⟩
   have hk2 := hK k (by omega)
   push_cast at hk2
   simp only [impl_Circuit_delays.l1]
   rw [if_pos c1, if_pos (Int.natCast_nonneg j), if_pos c1, rd_get hj, if_pos hxj.1, if_pos c2, rdOf_nat hxj.1, hR.no _ hxN (hsnoc.trans hv), if_neg (by decide), hw]
   exact hk2
  | some p =>
   rw [hv] at hvb
   have hp := hvb p rfl
   obtain ⟨y1, y2, y3⟩ := hR.yes _ hxN p (hsnoc.trans hv)
   have w1 : wrap64 (p.1 + gates[i].f0) = p.1 + gates[i].f0 := wrap_id (by omega) (by omega)
   have w2 : wrap64 (p.2 + gates[i].f1) = p.2 + gates[i].f1 := wrap_id (by omega) (by omega)
   cases acc with
   | none =>
    have hput := hR.put hN (p.1 + gates[i].f0) (p.2 + gates[i].f1)
    obtain ⟨L', M', R', hR', hE⟩ := ih (j + 1) _ _ _ _ (by omega) (joinG_bd ⟨hg.1, hg.2.1, hg.2.2.1⟩ hb hvb) hput
    refine ⟨L', M', R', hR', fun r hr' => ?_⟩
    obtain ⟨K, hK⟩ := hE r hr'
    refine ⟨K + 1, fun k hk => ?_⟩
    obtain ⟨k, rfl⟩ : ∃ m, k = m + 1 := ⟨k - 1, by omega⟩
    have hk2 := hK k (by omega)
    push_cast at hk2
    simp only [impl_Circuit_delays.l1]
    rw [if_pos c1, if_pos (Int.natCast_nonneg j), if_pos c1, rd_get hj, if_pos hxj.1, if_pos c2, rdOf_nat hxj.1, y1, if_pos rfl, if_pos c3, if_pos c4, if_pos c5, if_pos c6, rdOf_nat c5, hnode, hR.no _ hN getD_snoc_eq, if_neg (by decide), if_pos c7]
    simp only [Option.bind_some]
    rw [if_pos c8]
    simp only [rd_nat, Option.bind_some, y2, y3, w1, w2, hnode, hw]
    rw [getD_set (by omega), if_pos rfl, getD_set (by omega), if_pos rfl, mn_def, mx_def, if_neg (by omega), if_neg (by omega), List.set_set, List.set_set]
    exact hk2
   | some q =>
    have hq := hb q rfl
    obtain ⟨z1, z2, z3⟩ := hR.yes _ hN q getD_snoc_eq
    have hput := hR.put hN (if p.1 + gates[i].f0 < q.1 then p.1 + gates[i].f0 else q.1) (if q.2 < p.2 + gates[i].f1 then p.2 + gates[i].f1 else q.2)
    rw [set_same z1] at hput
    obtain ⟨L', M', R', hR', hE⟩ := ih (j + 1) _ _ _ _ (by omega) (joinG_bd ⟨hg.1, hg.2.1, hg.2.2.1⟩ hb hvb) hput
    refine ⟨L', M', R', hR', fun r hr' => ?_⟩
    obtain ⟨K, hK⟩ := hE r hr'
    refine ⟨K + 1, fun k hk => ?_⟩
    obtain ⟨k, rfl⟩ : ∃ m, k = m + 1 := ⟨k - 1, by omega⟩
    have hk2 := hK k (by omega)
    push_cast at hk2
    simp only [impl_Circuit_delays.l1]
    rw [if_pos c1, if_pos (Int.natCast_nonneg j), if_pos c1, rd_get hj, if_pos hxj.1, if_pos c2, rdOf_nat hxj.1, y1, if_pos rfl, if_pos c3, if_pos c4, if_pos c5, if_pos c6, rdOf_nat c5, hnode, z1, if_pos rfl, if_pos c7, if_pos c8]
    simp only [rd_nat, y2, y3, w1, w2, hnode, hw, z2, z3, mn_def, mx_def]
    exact hk2
theorem delays_l0 (n a3 a4 a5 a6 : Int) (gates : List S56) (data : List Int) (C : Gates n gates) (N : Nat) (hN : (N : Int) = n + gates.length) (d : Nat) : ∀ (i : Nat) (t : List Way) (L M : List Int) (R : List Bool), i + d = gates.length → (t.length : Int) = n + i → (∀ v ∈ t, Bd (100 * i) v) → Rel N t L M R →
  ∃ L' M' R', Ev (fun k => impl_Circuit_delays.l0 k L M R gates (gates.length : Int) (i : Int) n gates data a3 a4 a5 a6) (L', M', R') ∧ Rel N (tabG t (gates.drop i)) L' M' R' := by
 have hc := C.n0
 have hc1 := C.n1
 have hcl := C.len
 induction d with
 | zero =>
  intro i t L M R h htl ht hR
  refine ⟨L, M, R, ⟨1, fun k hk => ?_⟩, ?_⟩
  ·obtain ⟨k, rfl⟩ : ∃ m, k = m + 1 := ⟨k - 1, by omega⟩
   simp only [impl_Circuit_delays.l0]
   rw [if_neg (by omega)]
  ·rw [List.drop_of_length_le (by omega)]
   exact hR
 | succ d ih =>
  intro i t L M R h htl ht hR
  have hi' : i < gates.length := by omega
  have hg := C.gate i hi'
  have hb := joins_bd ⟨hg.1, hg.2.1, hg.2.2.1⟩ ht gates[i].f2 none (Bd.none _)
  obtain ⟨L1, M1, R1, hR1, hE1⟩ := delays_l1 n a3 a4 a5 a6 gates data i hi' C t (100 * i) (by omega) ht htl N (by omega) gates[i].f2.length 0 none L M R (by omega) (Bd.none _) hR.none
  rw [List.drop_zero] at hR1
  obtain ⟨L2, M2, R2, hE2, hR2⟩ := ih (i + 1) _ L1 M1 R1 (by omega) (by simp; omega) (by
   intro v hv
   have := append_bd ht hb v hv
   rw [show (100 : Int) * ((i + 1 : Nat) : Int) = 100 * i + 100 by push_cast; omega]
   exact this) hR1
  refine ⟨L2, M2, R2, ?_, by rw [List.drop_eq_getElem_cons hi', tabG_cons]; exact hR2⟩
  push_cast at hE2
  obtain ⟨K, hK⟩ := hE1 _ hE2
  refine ⟨K + 1, fun k hk => ?_⟩
  obtain ⟨k, rfl⟩ : ∃ m, k = m + 1 := ⟨k - 1, by omega⟩
  simp only [impl_Circuit_delays.l0]
  rw [if_pos (Int.ofNat_lt.mpr hi'), if_pos (Int.natCast_nonneg i), if_pos (Int.ofNat_lt.mpr hi'), rdG' hi', wrap_id (x := n + (i : Int)) (by omega) (by omega)]
  exact hK k (by omega)
theorem rel0 (a : Int) (n : Int) (N : Nat) (h0 : 0 ≤ a) (h1 : a < n) (hN : n ≤ N) : Rel N (tab0 a n.toNat) (List.replicate N 0) (List.replicate N 0) ((List.replicate N false).set a.toNat true) := by
 have hg : ∀ v : Nat, (tab0 a n.toNat).getD v none = if v = a.toNat then some (0, 0) else none := by
  intro v
  unfold tab0
  by_cases hv : v < n.toNat
  ·rw [List.getD_eq_getElem?_getD, List.getElem?_map, List.getElem?_range hv]
   simp only [Option.map_some, Option.getD_some]
   by_cases e : v = a.toNat
   ·rw [if_pos (by omega), if_pos e]
   ·rw [if_neg (by omega), if_neg e]
  ·rw [getD_over (by simp; omega), if_neg (by omega)]
 refine ⟨by simp, by simp, by simp, fun v hv hn => ?_, fun v hv p hp => ?_⟩
 ·rw [hg] at hn
  rw [getD_set (by simp; omega)]
  split at hn
  ·simp at hn
  ·rename_i e
   rw [if_neg (fun x => e x.symm), List.getD_eq_getElem?_getD, List.getElem?_replicate]
   split <;> rfl
 ·rw [hg] at hp
  split at hp
  ·rename_i e
   simp only [Option.some.injEq] at hp
   subst hp e
   rw [getD_set (by simp; omega), if_pos rfl]
   refine ⟨rfl, ?_, ?_⟩ <;> (rw [List.getD_eq_getElem?_getD, List.getElem?_replicate, if_pos hv]; rfl)
  ·simp at hp
theorem delays_at (a n a3 a4 a5 a6 : Int) (gates : List S56) (data : List Int) (C : Gates n gates) (h0 : 0 ≤ a) (h1 : a < n) :
  ∃ L M R, Ev (fun k => impl_Circuit_delays.f k n gates data a3 a4 a5 a6 a) (L, M, R) ∧ Rel (n.toNat + gates.length) (tab a n gates) L M R := by
 have hc := C.n0
 have hc1 := C.n1
 have hcl := C.len
 obtain ⟨L, M, R, hE, hR⟩ := delays_l0 n a3 a4 a5 a6 gates data C (n.toNat + gates.length) (by omega) gates.length 0 (tab0 a n.toNat) _ _ _ (by omega) (by rw [tab0_len]; omega) (by simpa using tab0_bd a n.toNat) (rel0 a n _ h0 h1 (by omega))
 refine ⟨L, M, R, ?_, hR⟩
 obtain ⟨K, hK⟩ := hE
 refine ⟨K, fun k hk => ?_⟩
 have hk2 := hK k hk
 show impl_Circuit_delays.f k n gates data a3 a4 a5 a6 a = _
 unfold impl_Circuit_delays.f impl_Circuit_nodes.f
 rw [wrap_id (x := n + (gates.length : Int)) (by omega) (by omega)]
 simp only [Option.bind_some]
 rw [if_pos (by omega), if_pos (by omega), if_pos (by omega), if_pos h0, if_pos (by simp; omega), show (n + (gates.length : Int)).toNat = n.toNat + gates.length by omega]
 exact hk2
end Go.Proofs.Ytahjcmmgdcedpaa.Pure

namespace Go.Proofs.Ytahjcmmgdcedpaa.Pa
open Go.RowKit Go.Proofs.YtahjcmmgdcedpaaW.PrintWords Go.Proofs.YtahjcmmgdcedpaaW.PrintLast Go.Proofs.YtahjcmmgdcedpaaW.PrintMore
attribute [local go_sem] max2_int min2_int max_two min_two max_three min_three max_four min_four   -- for this text's walks alone
set_option linter.unusedVariables false
set_option linter.unusedSimpArgs false

/-! ### AUX leastOf -/
/-- The least of what a function tells, from a number on. -/
def leastFrom (p : S77 → Int) : Int → List S77 → Int
 | m, [] => m
 | m, x :: l => leastFrom p (if p x < m then p x else m) l
def leastL (p : S77 → Int) (l : List S77) : Int := leastFrom p (p (rd_T77 l 0)) l
theorem leastFrom_drop (p : S77 → Int) (m x : Int) (l : List S77) (h0 : 0 ≤ x) (h1 : x < (l.length : Int)) :
  leastFrom p m (l.drop x.toNat) = leastFrom p (if p (rd_T77 l x) < m then p (rd_T77 l x) else m) (l.drop (x + 1).toNat) := by
 rw [List.drop_eq_getElem_cons (by omega), show (x + 1).toNat = x.toNat + 1 from by omega]
 unfold rd_T77
 rw [List.getD_eq_getElem?_getD, List.getElem?_eq_getElem (by omega)]
 rfl
theorem link_mem (l : List S77) (x : Int) (h0 : 0 ≤ x) (h1 : x < (l.length : Int)) : rd_T77 l x ∈ l := by
 unfold rd_T77
 rw [List.getD_eq_getElem?_getD, List.getElem?_eq_getElem (by omega)]
 exact List.getElem_mem _
/-- Both ends of a link are places of a list. -/
def linkIn (l : List Int) (x : S77) : Bool := decide (0 ≤ x.f0) && decide (x.f0 < (l.length : Int)) && decide (0 ≤ x.f1) && decide (x.f1 < (l.length : Int))
attribute [local go_sem] max2_int min2_int max_two min_two
set_option maxHeartbeats 4000000 in
set_option maxRecDepth 100000 in
theorem leastOf.calls (k : Nat) (a0_0 : Int) (A0_1 : Option Addr) (c0_1 : Nat) (l0_1 : List (S56)) (A0_2 : Option Addr) (c0_2 : Nat) (l0_2 : List Int) (a0_3 a0_4 a0_5 a0_6 : Int) (g : Nat) (lb : Array Value) (p : S77 → Int) (ls : List S77) (w : World)
  (hr0_1 : Kd.C k56 w A0_1 l0_1.length l0_1) (hc0_1 : l0_1.length ≤ c0_1) (hr0_2 : Kd.C (Kd.int .i64) w A0_2 l0_2.length l0_2) (hc0_2 : l0_2.length ≤ c0_2)
  (hl : impl_Circuit_links.f k a0_0 l0_1 l0_2 a0_3 a0_4 a0_5 a0_6 = some ls) (hne : 0 < ls.length)
  (eg : ∀ args W, (callFunc g args).run Try.prog W = .ok (.enter g args) W)
  (hp : ∀ (W : World) (x : S77), x ∈ ls → Below w.heap.size w W → Calls Try.prog g (#[.agg #[.int .i64 x.f0, .int .i64 x.f1, .int .i64 x.f2, .int .i64 x.f3]] ++ lb) W fun e w' => e = .returned (.int .i64 (p x)) ∧ Below W.heap.size W w') :
  Calls Try.prog 78 #[.agg #[.int .i64 a0_0, .slice A0_1 l0_1.length c0_1, .slice A0_2 l0_2.length c0_2, .int .i64 a0_3, .int .i64 a0_4, .int .i64 a0_5, .int .i64 a0_6], .func (.func g) #[] lb] w fun e w' => e = .returned (.int .i64 (leastL p ls)) ∧ Below w.heap.size w w' := by
 have hu := Try.underlying45
 have hu2 := Try.underlying77
 have HR1 := Aside0.mk hr0_1
 have HC1 := Aside0.mk hc0_1
 have HR2 := Aside0.mk hr0_2
 have HC2 := Aside0.mk hc0_2
 have HL := Aside0.mk hl
 have HP := Aside0.mk hp
 have HN := Aside0.mk hne
 have h00 := link_mem ls 0 (by omega) (by omega)
 have H00 := Aside0.mk h00
 clear hr0_1 hc0_1 hr0_2 hc0_2 hl hp hne h00
 go_enter Try.func78, Try.ntmps78
 go_wp2_with (first | (go_at_call 49; refine (impl_Circuit_links.calls k a0_0 A0_1 c0_1 l0_1 A0_2 c0_2 l0_2 a0_3 a0_4 a0_5 a0_6 ls _ (Kd.C_alloc HR1.out _) HC1.out (Kd.C_alloc HR2.out _) HC2.out HL.out).mono ?_; rintro e w6 ⟨v0, rfl, ho, hb⟩; obtain ⟨A, c, rfl⟩ := Kd.R_slice ho; have HO := Aside0.mk (Kd.R_reads' ho).2.2; have HB := Aside0.mk (show Below w.heap.size w w6 from (below_alloc (Below.refl _ _) _).trans (Below.mono hb (by simp))); clear ho hb; obtain ⟨ad, e, h0, h1, h2, h3⟩ := at_T77 HO.out 0 (by omega) (by have := HN.out; omega); cases e; have hlen : ls.length ≤ 9223372036854775807 := HO.out.2.1; have hz1 := HN.out; (try simp only [Int.toNat_zero, Nat.zero_mul, Addr.add_zero'] at h0 h1 h2 h3)) | (go_at_fn g; refine (HP.out _ (rd_T77 ls 0) H00.out (by first | exact HB.out | exact pw_below_drewN HB.out _)).mono ?_; rintro e w7 ⟨rfl, hb7⟩; have HB7 := Aside0.mk hb7; clear hb7))
 clear h0 h1 h2 h3
 go_loopg [6, 18] ls.length (fun gg s6 s18 wr => ∃ (m x : Int), s6 = .int .i64 m ∧ s18 = .int .i64 x ∧ Aside0 (0 ≤ x ∧ x ≤ ls.length ∧ (ls.length : Int) - x ≤ gg) ∧ Aside0 (Below w6.heap.size w6 wr) ∧ Aside0 (leastL p ls = leastFrom p m (ls.drop x.toNat)))
 case atStart => exact ⟨_, 0, rfl, rfl, ⟨by omega⟩, HB7, ⟨rfl⟩⟩
 case round =>
  obtain ⟨m, x, rfl, rfl, HX, HW, HF⟩ := hrel
  by_cases hlt : x < (ls.length : Int)
  ·have c0 : decide (0 ≤ x) = true := decide_eq_true HX.out.1
   have c1 : decide (x < (ls.length : Int)) = true := decide_eq_true hlt
   have HL' := Aside0.mk hlt
   clear hlt
   obtain ⟨ad', e, h0, h1, h2, h3⟩ := at_T77 HO.out x HX.out.1 HL'.out
   cases e
   replace h0 := (HW.out.cell (World.block_lt_of_cell? w6 _ h0)).trans h0
   replace h1 := (HW.out.cell (World.block_lt_of_cell? w6 _ h1)).trans h1
   replace h2 := (HW.out.cell (World.block_lt_of_cell? w6 _ h2)).trans h2
   replace h3 := (HW.out.cell (World.block_lt_of_cell? w6 _ h3)).trans h3
   have HM := Aside0.mk (link_mem ls x HX.out.1 HL'.out)
   have HD := Aside0.mk (leastFrom_drop p m x ls HX.out.1 HL'.out)
   have p0 := eq_true HX.out.1
   have p1 := eq_true HL'.out
   go_wp2_with (go_at_fn g; refine (HP.out _ (rd_T77 ls x) HM.out (below_step HB.out (below_alloc HW.out _))).mono ?_; rintro e w' ⟨rfl, hb'⟩; have HB' := Aside0.mk hb'; clear hb')
   all_goals
    have hx1 := HX.out
    have hl1 := HL'.out
    go_roundg ((ls.length : Int) - (x + 1)).toNat
    case measure => omega
    case rel =>
     have hw1 : wrap64 (x + 1) = x + 1 := by unfold wrap64; omega
     exact ⟨_, x + 1, rfl, by rw [hw1], ⟨by omega⟩, ⟨below_step (below_alloc HW.out _) HB'.out⟩, ⟨by rw [HF.out, HD.out]; first | rw [if_pos (by assumption)] | rw [if_neg (Int.not_lt.mpr (by assumption))]⟩⟩
  ·have c1 : decide (x < (ls.length : Int)) = false := decide_eq_false hlt
   have HL' := Aside0.mk hlt
   clear hlt
   go_wp2
   go_ret
   refine ⟨?_, below_step HB.out HW.out⟩
   have hx := HX.out
   have hl := HL'.out
   rw [HF.out, List.drop_of_length_le (by omega)]
   rfl

end Go.Proofs.Ytahjcmmgdcedpaa.Pa

/- The links of a circuit, and what is read from them. -/
namespace Go.Proofs.Ytahjcmmgdcedpaa.Pure
open Go.RowKit Go.Proofs.Ytahjcmmgdcedpaa.Pa Go.Proofs.YtahjcmmgdcedpaaW.PrintWords Go.Proofs.YtahjcmmgdcedpaaW.PrintLast
set_option linter.unusedVariables false
set_option linter.unusedSimpArgs false

def linkO (a b : Int) : Way → List S77
 | none => []
 | some p => [⟨a, b, p.1, p.2⟩]
/-- The links from a register to those from b on, d of them. -/
def linksTo (P : Int → Int → Way) (a : Int) : Nat → Nat → List S77
 | _, 0 => []
 | b, d + 1 => linkO a (b : Int) (P a (b : Int)) ++ linksTo P a (b + 1) d
def linksFrom (P : Int → Int → Way) (n : Nat) : Nat → Nat → List S77
 | _, 0 => []
 | a, d + 1 => linksTo P (a : Int) 0 n ++ linksFrom P n (a + 1) d
def linksOf (P : Int → Int → Way) (n : Nat) : List S77 := linksFrom P n 0 n
theorem linkO_len (a b : Int) (v : Way) : (linkO a b v).length ≤ 1 := by cases v <;> simp [linkO]
theorem linksTo_len (P : Int → Int → Way) (a : Int) (d : Nat) : ∀ b, (linksTo P a b d).length ≤ d := by
 induction d with
 | zero => intro b; simp [linksTo]
 | succ d ih => intro b; have := linkO_len a (b : Int) (P a b); have := ih (b + 1); simp [linksTo]; omega
theorem linksTo_mem (P : Int → Int → Way) (a : Int) (d : Nat) : ∀ b, ∀ x ∈ linksTo P a b d, x.f0 = a ∧ (b : Int) ≤ x.f1 ∧ x.f1 < (b : Int) + d ∧ P x.f0 x.f1 = some (x.f2, x.f3) := by
 induction d with
 | zero => intro b x hx; simp [linksTo] at hx
 | succ d ih =>
  intro b x hx
  simp only [linksTo] at hx
  rcases List.mem_append.mp hx with hx | hx
  ·cases hv : P a (b : Int) with
   | none => rw [hv] at hx; simp [linkO] at hx
   | some p =>
    rw [hv] at hx
    simp only [linkO, List.mem_singleton] at hx
    subst hx
    exact ⟨rfl, by dsimp only; omega, by dsimp only; omega, hv⟩
  ·have := ih (b + 1) x hx
   push_cast at this ⊢
   exact ⟨this.1, by omega, by omega, this.2.2.2⟩
theorem linksFrom_mem (P : Int → Int → Way) (n : Nat) (d : Nat) : ∀ a, ∀ x ∈ linksFrom P n a d, (a : Int) ≤ x.f0 ∧ x.f0 < (a : Int) + d ∧ 0 ≤ x.f1 ∧ x.f1 < n ∧ P x.f0 x.f1 = some (x.f2, x.f3) := by
 induction d with
 | zero => intro a x hx; simp [linksFrom] at hx
 | succ d ih =>
  intro a x hx
  simp only [linksFrom] at hx
  rcases List.mem_append.mp hx with hx | hx
  ·have := linksTo_mem P (a : Int) n 0 x hx
   push_cast at this ⊢
   exact ⟨by omega, by omega, by omega, by omega, this.2.2.2⟩
  ·have := ih (a + 1) x hx
   push_cast at this ⊢
   exact ⟨by omega, by omega, this.2.2.1, this.2.2.2.1, this.2.2.2.2⟩
theorem linksOf_mem (P : Int → Int → Way) (n : Nat) : ∀ x ∈ linksOf P n, 0 ≤ x.f0 ∧ x.f0 < n ∧ 0 ≤ x.f1 ∧ x.f1 < n ∧ P x.f0 x.f1 = some (x.f2, x.f3) := by
 intro x hx
 have := linksFrom_mem P n n 0 x hx
 simpa using this
theorem mem_linksTo (P : Int → Int → Way) (a : Int) (p : Int × Int) (d : Nat) : ∀ b c : Nat, b ≤ c → c < b + d → P a (c : Int) = some p → (⟨a, (c : Int), p.1, p.2⟩ : S77) ∈ linksTo P a b d := by
 induction d with
 | zero => intro b c h1 h2; omega
 | succ d ih =>
  intro b c h1 h2 hp
  simp only [linksTo]
  by_cases e : b = c
  ·subst e
   rw [hp]
   simp [linkO]
  ·exact List.mem_append.mpr (.inr (ih (b + 1) c (by omega) (by omega) hp))
theorem mem_linksFrom (P : Int → Int → Way) (n : Nat) (p : Int × Int) (b : Nat) (hb : b < n) (d : Nat) : ∀ a c : Nat, a ≤ c → c < a + d → P (c : Int) (b : Int) = some p → (⟨(c : Int), (b : Int), p.1, p.2⟩ : S77) ∈ linksFrom P n a d := by
 induction d with
 | zero => intro a c h1 h2; omega
 | succ d ih =>
  intro a c h1 h2 hp
  simp only [linksFrom]
  by_cases e : a = c
  ·subst e
   exact List.mem_append.mpr (.inl (mem_linksTo P _ p n 0 b (by omega) (by omega) hp))
  ·exact List.mem_append.mpr (.inr (ih (a + 1) c (by omega) (by omega) hp))
theorem mem_linksOf (P : Int → Int → Way) (n : Nat) (p : Int × Int) (a b : Nat) (ha : a < n) (hb : b < n) (hp : P (a : Int) (b : Int) = some p) : (⟨(a : Int), (b : Int), p.1, p.2⟩ : S77) ∈ linksOf P n :=
 mem_linksFrom P n p b hb n 0 a (by omega) (by omega) hp
/-- What the walks need of a circuit. -/
structure Ready (n : Int) (gates : List S56) (data : List Int) : Prop where
 gs : Gates n gates
 dlen : (data.length : Int) = n
 node : ∀ x ∈ data, 0 ≤ x ∧ x ≤ n + gates.length - 1
theorem Circ.ready {n : Int} {gates : List S56} {data : List Int} {a3 a4 a5 a6 : Int} (h : Circ n gates data a3 a4 a5 a6) (hw : ∀ g ∈ gates, g.f2.length ≤ 1048576) : Ready n gates data :=
 ⟨⟨h.n0, h.n1, h.len, h.gate, fun i hi => hw _ (List.getElem_mem hi)⟩, h.dlen, h.node⟩
theorem links_l1 (n a3 a4 a5 a6 : Int) (gates : List S56) (data : List Int) (C : Ready n gates data) (a : Int) (L M : List Int) (R : List Bool) (hR : Rel (n.toNat + gates.length) (tab a n gates) L M R) (d : Nat) :
  ∀ (b : Nat) (acc : List S77) (r : List S77), (b : Int) + d = n → acc.length + d ≤ 1000 →
  Ev (fun k => impl_Circuit_links.l0 k (acc ++ linksTo (pathO n gates data a5 a6) a b d) n (wrap64 (a + 1)) n gates data a3 a4 a5 a6) r →
  Ev (fun k => impl_Circuit_links.l1 k acc a L M R n a data (data.length : Int) (b : Int) n gates data a3 a4 a5 a6) r := by
 have hn := C.gs.n0
 have hn1 := C.gs.n1
 have hgl := C.gs.len
 have hdl := C.dlen
 induction d with
 | zero =>
  rintro b acc r h hl ⟨K, hK⟩
  refine ⟨K + 1, fun k hk => ?_⟩
  obtain ⟨k, rfl⟩ : ∃ m, k = m + 1 := ⟨k - 1, by omega⟩
  simp only [impl_Circuit_links.l1]
  rw [if_neg (by omega)]
  have := hK k (by omega)
  simpa [linksTo] using this
 | succ d ih =>
  intro b acc r h hl hE
  have hb : b < data.length := by omega
  have hx := C.node _ (List.getElem_mem hb)
  have hxl := hR.l
  have hxm := hR.m
  have hxr := hR.r
  have hxN : (data[b]).toNat < n.toNat + gates.length := by omega
  have hw : wrap64 ((b : Int) + 1) = (b : Int) + 1 := wrap_id (by omega) (by omega)
  have c1 : (b : Int) < (data.length : Int) := Int.ofNat_lt.mpr hb
  have c2 : data[b] < (R.length : Int) := by omega
  have c3 : data[b] < (L.length : Int) := by omega
  have c4 : data[b] < (M.length : Int) := by omega
  have c5 : acc.length < 4398046511104 := by omega
  simp only [linksTo] at hE
  rw [← List.append_assoc] at hE
  have hP : pathO n gates data a5 a6 a (b : Int) = ((tab a n gates).getD (data[b]).toNat none).map fun p => (wrap64 (p.1 + a5), wrap64 (p.2 + a6)) := by
   unfold pathO
   rw [rd_get hb]
  cases hv : (tab a n gates).getD (data[b]).toNat none with
  | none =>
   rw [hP, hv] at hE
   simp only [Option.map_none, linkO, List.append_nil] at hE
   obtain ⟨K, hK⟩ := ih (b + 1) acc r (by omega) (by omega) hE
   refine ⟨K + 1, fun k hk => ?_⟩
   obtain ⟨k, rfl⟩ : ∃ m, k = m + 1 := ⟨k - 1, by omega⟩
   have hk2 := hK k (by omega)
   push_cast at hk2
   simp only [impl_Circuit_links.l1]
   rw [if_pos c1, if_pos (Int.natCast_nonneg b), if_pos c1, rd_get hb, if_pos hx.1, if_pos c2, rdOf_nat hx.1, hR.no _ hxN hv, if_neg (by decide), hw]
   exact hk2
  | some p =>
   rw [hP, hv] at hE
   simp only [Option.map_some, linkO] at hE
   obtain ⟨y1, y2, y3⟩ := hR.yes _ hxN p hv
   obtain ⟨K, hK⟩ := ih (b + 1) _ r (by omega) (by simp; omega) hE
   refine ⟨K + 1, fun k hk => ?_⟩
   obtain ⟨k, rfl⟩ : ∃ m, k = m + 1 := ⟨k - 1, by omega⟩
   have hk2 := hK k (by omega)
   push_cast at hk2
   simp only [impl_Circuit_links.l1]
   rw [if_pos c1, if_pos (Int.natCast_nonneg b), if_pos c1, rd_get hb, if_pos hx.1, if_pos c2, rdOf_nat hx.1, y1, if_pos rfl, if_pos c3, if_pos c4, if_pos c5, hw, rd_nat, rd_nat, y2, y3]
   exact hk2
theorem links_l0 (n a3 a4 a5 a6 : Int) (gates : List S56) (data : List Int) (C : Ready n gates data) (d : Nat) : ∀ (a : Nat) (acc : List S77), (a : Int) + d = n → acc.length + 10 * d ≤ 900 →
  Ev (fun k => impl_Circuit_links.l0 k acc n (a : Int) n gates data a3 a4 a5 a6) (acc ++ linksFrom (pathO n gates data a5 a6) n.toNat a d) := by
 have hn := C.gs.n0
 have hn1 := C.gs.n1
 induction d with
 | zero =>
  intro a acc h hl
  refine ⟨1, fun k hk => ?_⟩
  obtain ⟨k, rfl⟩ : ∃ m, k = m + 1 := ⟨k - 1, by omega⟩
  simp only [impl_Circuit_links.l0, linksFrom, List.append_nil]
  rw [if_neg (by omega)]
 | succ d ih =>
  intro a acc h hl
  obtain ⟨L, M, R, ⟨K1, hK1⟩, hR⟩ := delays_at (a : Int) n a3 a4 a5 a6 gates data C.gs (by omega) (by omega)
  have hlen := linksTo_len (pathO n gates data a5 a6) (a : Int) n.toNat 0
  have h1 := ih (a + 1) (acc ++ linksTo (pathO n gates data a5 a6) (a : Int) 0 n.toNat) (by omega) (by simp; omega)
  have hw : wrap64 ((a : Int) + 1) = (a : Int) + 1 := wrap_id (by omega) (by omega)
  obtain ⟨K2, hK2⟩ := links_l1 n a3 a4 a5 a6 gates data C (a : Int) L M R hR n.toNat 0 acc _ (by omega) (by omega) (by rw [hw]; exact_mod_cast h1)
  refine ⟨K1 + K2 + 1, fun k hk => ?_⟩
  obtain ⟨k, rfl⟩ : ∃ m, k = m + 1 := ⟨k - 1, by omega⟩
  have hk1 : impl_Circuit_delays.f k n gates data a3 a4 a5 a6 (a : Int) = _ := hK1 k (by omega)
  have hk2 := hK2 k (by omega)
  simp only [impl_Circuit_links.l0, linksFrom]
  rw [if_pos (by omega), hk1, ← List.append_assoc]
  exact hk2
theorem links_tells (n a3 a4 a5 a6 : Int) (gates : List S56) (data : List Int) (C : Ready n gates data) :
  Ev (fun k => impl_Circuit_links.f k n gates data a3 a4 a5 a6) (linksOf (pathO n gates data a5 a6) n.toNat) := by
 have hn := C.gs.n0
 have hn1 := C.gs.n1
 have := links_l0 n a3 a4 a5 a6 gates data C n.toNat 0 [] (by omega) (by simp; omega)
 exact this
theorem tabG_prefix (l : List S56) : ∀ (t : List Way) (v : Nat), v < t.length → (tabG t l).getD v none = t.getD v none := by
 induction l with
 | nil => intro t v hv; rfl
 | cons g l ih =>
  intro t v hv
  rw [tabG_cons, ih _ v (by simp; omega), getD_snoc_lt hv]
theorem joins_congr (g : S56) (t t' : List Way) (l : List Int) : ∀ acc, (∀ x ∈ l, t.getD x.toNat none = t'.getD x.toNat none) → joins g t acc l = joins g t' acc l := by
 induction l with
 | nil => intro acc h; rfl
 | cons x l ih =>
  intro acc h
  simp only [joins]
  rw [h x (by simp), ih _ (fun y hy => h y (by simp [hy]))]
theorem tabG_node (l : List S56) : ∀ (t : List Way) (i : Nat) (h : i < l.length), (∀ (j : Nat) (h : j < l.length), ∀ x ∈ l[j].f2, 0 ≤ x ∧ x < (t.length : Int) + j) → (tabG t l).getD (t.length + i) none = joins l[i] (tabG t l) none l[i].f2 := by
 induction l with
 | nil => intro t i h; simp at h
 | cons g l ih =>
  intro t i h hx
  rw [tabG_cons]
  cases i with
  | zero =>
   rw [Nat.add_zero, tabG_prefix _ _ _ (by simp), getD_snoc_eq]
   simp only [List.getElem_cons_zero]
   apply joins_congr
   intro x hxx
   have := hx 0 (by simp) x hxx
   rw [tabG_prefix _ _ _ (by simp; omega), getD_snoc_lt (by omega)]
  | succ i =>
   have := ih (t ++ [joins g t none g.f2]) i (by simpa using h) (by
    intro j hj x hxx
    have := hx (j + 1) (by simpa using hj) x (by simpa using hxx)
    push_cast at this
    simp
    omega)
   rw [show t.length + (i + 1) = (t ++ [joins g t none g.f2]).length + i by simp; omega]
   simpa using this
theorem joinG_some {g : S56} {acc v : Way} (h : acc ≠ none ∨ v ≠ none) : joinG g acc v ≠ none := by
 cases v with
 | none => rcases h with h | h; exact h; exact absurd rfl h
 | some p => cases acc <;> simp [joinG]
theorem joins_some (g : S56) (t : List Way) (l : List Int) : ∀ acc, (acc ≠ none ∨ ∃ x ∈ l, t.getD x.toNat none ≠ none) → joins g t acc l ≠ none := by
 induction l with
 | nil =>
  rintro acc (h | ⟨x, hx, _⟩)
  ·exact h
  ·simp at hx
 | cons y l ih =>
  rintro acc (h | ⟨x, hx, hn⟩)
  ·exact ih _ (.inl (joinG_some (.inl h)))
  ·rcases List.mem_cons.mp hx with rfl | hx
   ·exact ih _ (.inl (joinG_some (.inr hn)))
   ·exact ih _ (.inr ⟨x, hx, hn⟩)
theorem tab0_get (a : Int) (N v : Nat) (h : v < N) : (tab0 a N).getD v none = if (v : Int) = a then some (0, 0) else none := by
 unfold tab0
 rw [List.getD_eq_getElem?_getD, List.getElem?_map, List.getElem?_range h]
 rfl
theorem tab_reg (a n : Int) (gates : List S56) (v : Nat) (h : (v : Int) < n) : (tab a n gates).getD v none = if (v : Int) = a then some (0, 0) else none := by
 unfold tab
 rw [tabG_prefix _ _ _ (by rw [tab0_len]; omega), tab0_get a _ v (by omega)]
theorem tab_node (a n : Int) (gates : List S56) (C : Gates n gates) (i : Nat) (h : i < gates.length) : (tab a n gates).getD (n.toNat + i) none = joins gates[i] (tab a n gates) none gates[i].f2 := by
 have hn := C.n0
 have := tabG_node gates (tab0 a n.toNat) i h (fun j hj x hx => by
  have := (C.gate j hj).2.2.2.2 x hx
  rw [tab0_len]
  omega)
 rw [tab0_len] at this
 exact this
/-- Each node comes from a register. -/
theorem reached (n : Int) (gates : List S56) (C : Gates n gates) (N : Nat) : ∀ v : Nat, v < N → (v : Int) < n + gates.length → ∃ a : Nat, (a : Int) < n ∧ (tab (a : Int) n gates).getD v none ≠ none := by
 have hn := C.n0
 induction N with
 | zero => intro v h; omega
 | succ N ih =>
  intro v h hv
  by_cases hr : (v : Int) < n
  ·exact ⟨v, hr, by rw [tab_reg _ _ _ _ hr, if_pos rfl]; simp⟩
  ·obtain ⟨i, rfl⟩ : ∃ i, v = n.toNat + i := ⟨v - n.toNat, by omega⟩
   have hi' : i < gates.length := by omega
   have hg := C.gate i hi'
   obtain ⟨x, hx⟩ := List.exists_mem_of_ne_nil _ hg.2.2.2.1
   have hxx := hg.2.2.2.2 x hx
   obtain ⟨a, ha, hne⟩ := ih x.toNat (by omega) (by omega)
   refine ⟨a, ha, ?_⟩
   rw [tab_node _ _ _ C i hi']
   exact joins_some _ _ _ _ (.inr ⟨x, hx, hne⟩)
theorem links_some (n a5 a6 : Int) (gates : List S56) (data : List Int) (C : Ready n gates data) : 0 < (linksOf (pathO n gates data a5 a6) n.toNat).length := by
 have hn := C.gs.n0
 have hd := C.dlen
 have h0 : 0 < data.length := by omega
 have hx := C.node _ (List.getElem_mem h0)
 obtain ⟨a, ha, hne⟩ := reached n gates C.gs ((data[0]).toNat + 1) (data[0]).toNat (by omega) (by omega)
 cases hp : pathO n gates data a5 a6 (a : Int) ((0 : Nat) : Int) with
 | none =>
  unfold pathO at hp
  rw [rd_get h0] at hp
  exact absurd (Option.map_eq_none_iff.mp hp) hne
 | some p => exact List.length_pos_of_mem (mem_linksOf _ n.toNat p a 0 (by omega) (by omega) hp)
/-- The rooms, link by link. -/
def roomStep (f g : S77 → Int) : Option (Int × Int) → S77 → Option (Int × Int)
 | none, x => some (f x, g x)
 | some q, x => some (if f x < q.1 then f x else q.1, if g x < q.2 then g x else q.2)
def rooms (f g : S77 → Int) (acc : Option (Int × Int)) (l : List S77) : Option (Int × Int) := l.foldl (roomStep f g) acc
end Go.Proofs.Ytahjcmmgdcedpaa.Pure

namespace Go.Proofs.Ytahjcmmgdcedpaa.Pa
open Go.RowKit Go.Proofs.YtahjcmmgdcedpaaW.PrintWords Go.Proofs.YtahjcmmgdcedpaaW.PrintLast Go.Proofs.YtahjcmmgdcedpaaW.PrintMore
attribute [local go_sem] max2_int min2_int max_two min_two max_three min_three max_four min_four   -- for this text's walks alone
set_option linter.unusedVariables false
set_option linter.unusedSimpArgs false

/-! ### impl_areSkews_1: function 100073 -/
/-- The test that areSkews hands on: a number that is no skew. -/
def badSkew (x : Int) : Bool := !(decide (0 ≤ x) && decide (x ≤ 100000))
def impl_areSkews_1.f (l : List Int) : Option Bool := some (l.any badSkew)
set_option maxHeartbeats 4000000 in
set_option maxRecDepth 100000 in
theorem impl_areSkews_1.test (w W : World) (x : Int) (hb : Below w.heap.size w W) :
  Calls Try.prog 73 (#[.int .i64 x] ++ #[]) W fun e w' => e = .returned (.bool (badSkew x)) ∧ Below w.heap.size w w' := by
 have HB := Aside0.mk hb
 clear hb
 have hq : impl_within.f x 0 100000 = some (decide (0 ≤ x) && decide (x ≤ 100000)) := by
  unfold impl_within.f
  by_cases h : 0 ≤ x <;> simp [h]
 have HQ := Aside0.mk hq
 clear hq
 unfold badSkew
 generalize (decide (0 ≤ x) && decide (x ≤ 100000)) = q at HQ ⊢
 show Calls Try.prog 73 #[.int .i64 x] W _
 go_enter Try.func73, Try.ntmps73
 go_wp2_with (go_at_call 38; refine (impl_within.calls _ _ _ q _ HQ.out).mono ?_; rintro e w' ⟨rfl, ⟨nd, rfl⟩⟩)
 go_ret
 exact ⟨rfl, pw_below_drewN HB.out nd⟩
theorem impl_areSkews_1.calls (A : Option Addr) (c : Nat) (l : List Int) (r : Bool) (w : World) (hr : Kd.C (Kd.int .i64) w A l.length l) (hc : l.length ≤ c) (h : impl_areSkews_1.f l = some r) :
  Calls Try.prog 36 #[.slice A l.length c, .func (.func 73) #[] #[]] w fun e w' => e = .returned (.bool r) ∧ Below w.heap.size w w' := by
 obtain rfl := Option.some.inj h
 exact containsI.calls A c l 73 #[] badSkew w hr (enters_of Try.func73 (by kernel_rfl) rfl) (fun W x _ hb => impl_areSkews_1.test w W x hb)

end Go.Proofs.Ytahjcmmgdcedpaa.Pa

namespace Go.Proofs.Ytahjcmmgdcedpaa.Pa
open Go.RowKit Go.Proofs.YtahjcmmgdcedpaaW.PrintWords Go.Proofs.YtahjcmmgdcedpaaW.PrintLast Go.Proofs.YtahjcmmgdcedpaaW.PrintMore
attribute [local go_sem] max2_int min2_int max_two min_two max_three min_three max_four min_four   -- for this text's walks alone
set_option linter.unusedVariables false
set_option linter.unusedSimpArgs false

/-! ### impl_areSkews: function 48 -/
def impl_areSkews.f (a0_0 : Int) (l0_1 : List (S56)) (l0_2 : List Int) (a0_3 : Int) (a0_4 : Int) (a0_5 : Int) (a0_6 : Int) (l1 : List Int) : Option (Bool) := (impl_ValidCircuit.f a0_0 l0_1 l0_2 a0_3 a0_4 a0_5 a0_6).bind fun t431 => (if t431 = true then (if (l1.length : Int) = a0_0 then ((impl_areSkews_1.f l1).bind fun t432 => (some (!t432))) else (some false)) else (some false))
set_option maxHeartbeats 8000000 in
set_option maxRecDepth 100000 in
theorem impl_areSkews.calls (a0_0 : Int) (A0_1 : Option Addr) (c0_1 : Nat) (l0_1 : List (S56)) (A0_2 : Option Addr) (c0_2 : Nat) (l0_2 : List Int) (a0_3 : Int) (a0_4 : Int) (a0_5 : Int) (a0_6 : Int) (A1 : Option Addr) (c1 : Nat) (l1 : List Int) (r : Bool) (w : World) (hr0_1 : Kd.C k56 w A0_1 l0_1.length l0_1) (hc0_1 : l0_1.length ≤ c0_1) (hr0_2 : Kd.C (Kd.int .i64) w A0_2 l0_2.length l0_2) (hc0_2 : l0_2.length ≤ c0_2) (hr1 : Kd.C (Kd.int .i64) w A1 l1.length l1) (hc1 : l1.length ≤ c1) (h : impl_areSkews.f a0_0 l0_1 l0_2 a0_3 a0_4 a0_5 a0_6 l1 = some r) :
  Calls Try.prog 48 #[.agg #[.int .i64 a0_0, .slice A0_1 l0_1.length c0_1, .slice A0_2 l0_2.length c0_2, .int .i64 a0_3, .int .i64 a0_4, .int .i64 a0_5, .int .i64 a0_6], .slice A1 l1.length c1] w fun e w' => e = .returned (.bool r) ∧ Below w.heap.size w w' := by
 have hu45 := Try.underlying45
 have HR0_1 := Aside0.mk hr0_1
 have HC0_1 := Aside0.mk hc0_1
 clear hr0_1 hc0_1
 have HR0_2 := Aside0.mk hr0_2
 have HC0_2 := Aside0.mk hc0_2
 clear hr0_2 hc0_2
 have HR1 := Aside0.mk hr1
 have HC1 := Aside0.mk hc1
 clear hr1 hc1
 have HB := Aside0.mk (Below.refl w.heap.size w)
 have H : ((impl_ValidCircuit.f a0_0 l0_1 l0_2 a0_3 a0_4 a0_5 a0_6).bind fun t431 => (if t431 = true then (if (l1.length : Int) = a0_0 then ((impl_areSkews_1.f l1).bind fun t432 => (some (!t432))) else (some false)) else (some false))) = some r := h
 clear h
 replace H := Option.bind_eq_some_iff.mp H
 obtain ⟨t431, A30, H⟩ := H
 replace H : (if t431 = true then (if (l1.length : Int) = a0_0 then ((impl_areSkews_1.f l1).bind fun t432 => (some (!t432))) else (some false)) else (some false)) = some r := H
 have A3 := Aside0.mk A30
 clear A30
 by_cases c4 : t431 = true
 ·subst c4
  have H1 : (if (l1.length : Int) = a0_0 then ((impl_areSkews_1.f l1).bind fun t432 => (some (!t432))) else (some false)) = some r := by rw [if_pos rfl] at H; exact H
  clear H
  have H := H1
  clear H1
  by_cases c5 : (l1.length : Int) = a0_0
  ·rw [if_pos c5] at H
   have c5b0 : ((l1.length : Int) == a0_0) = true := beq_iff_eq.mpr c5
   have c5b1 : ((l1.length : Int) != a0_0) = false := bne_eq_false_iff_eq.mpr c5
   clear c5
   replace H := Option.bind_eq_some_iff.mp H
   obtain ⟨t432, A60, H⟩ := H
   replace H : (some (!t432)) = some r := H
   have A6 := Aside0.mk A60
   clear A60
   obtain rfl := Option.some.inj H
   go_enter Try.func48, Try.ntmps48
   go_wp2_with (first | ((with_reducible refine gate_dst (N := 2) rfl ?_); (try (refine gate_guard (by rfl) ?_; dsimp only)); refine box_event ?hg (N := 2) ?hd (cs := #[.int .i64 a0_0, .slice A0_1 l0_1.length c0_1, .slice A0_2 l0_2.length c0_2, .int .i64 a0_3, .int .i64 a0_4, .int .i64 a0_5, .int .i64 a0_6]) (t := 45) ?hr ?_; (case hd => rfl); (case hg => rfl); (case hr => first | (go_simp; done) | (go_simp; rfl)); intro gb430 hg w7 hbox hb; have n0_ := Aside0.mk (below_step (by repeat (first | (with_reducible first | exact HB.out | apply below_alloc | apply pw_below_drewN | apply below_drew1) | exact HB.out)) hb); have n1_ := Aside0.mk (hbox); have n2_ := Aside0.mk ((by rw [hg]; exact (below_size (by repeat (first | (with_reducible first | exact HB.out | apply below_alloc | apply pw_below_drewN | apply below_drew1) | exact HB.out))) : w.heap.size ≤ gb430)); have n3_ := Aside0.mk ((by rw [hg]; exact (below_size (by repeat (first | (with_reducible first | exact HB.out | apply below_alloc | apply pw_below_drewN | apply below_drew1) | exact HB.out))) : w.heap.size ≤ gb430)); clear HB; have HB := n0_; have BK430 := n1_; have GW430 := n2_; have GE430 := n3_; clear n0_ n1_ n2_ n3_; clear hb hbox hg; have hcz8_0 : w7.cell? ⟨gb430, 0, none⟩ = some (.int .i64 a0_0) := (blk_cell BK430.out 0).trans rfl; have hcz8_1 : w7.cell? ⟨gb430, 1, none⟩ = some (.slice A0_1 l0_1.length c0_1) := (blk_cell BK430.out 1).trans rfl; have hcz8_2 : w7.cell? ⟨gb430, 2, none⟩ = some (.slice A0_2 l0_2.length c0_2) := (blk_cell BK430.out 2).trans rfl; have hcz8_3 : w7.cell? ⟨gb430, 3, none⟩ = some (.int .i64 a0_3) := (blk_cell BK430.out 3).trans rfl; have hcz8_4 : w7.cell? ⟨gb430, 4, none⟩ = some (.int .i64 a0_4) := (blk_cell BK430.out 4).trans rfl; have hcz8_5 : w7.cell? ⟨gb430, 5, none⟩ = some (.int .i64 a0_5) := (blk_cell BK430.out 5).trans rfl; have hcz8_6 : w7.cell? ⟨gb430, 6, none⟩ = some (.int .i64 a0_6) := (blk_cell BK430.out 6).trans rfl; have hfz8_0 := blk_frozen BK430.out 0; have hfz8_1 := blk_frozen BK430.out 1; have hfz8_2 := blk_frozen BK430.out 2; have hfz8_3 := blk_frozen BK430.out 3; have hfz8_4 := blk_frozen BK430.out 4; have hfz8_5 := blk_frozen BK430.out 5; have hfz8_6 := blk_frozen BK430.out 6) | ((with_reducible refine gate_callee (f := 24) rfl ?_); refine goesL_ (some 6) rfl rfl Try.func24 (by kernel_rfl) rfl #[.agg #[.int .i64 a0_0, .slice A0_1 l0_1.length c0_1, .slice A0_2 l0_2.length c0_2, .int .i64 a0_3, .int .i64 a0_4, .int .i64 a0_5, .int .i64 a0_6]] rfl (by (try simp only [List.map_toArray, List.map_cons, List.map_nil]); first | done | rfl | (simp only [List.length_drop, List.length_take]; rfl)) ?_; (with_reducible refine (impl_ValidCircuit.calls a0_0 _ _ l0_1 _ _ l0_2 a0_3 a0_4 a0_5 a0_6 true _ ?side1 ?side2 ?side3 ?side4 A3.out).mono ?_); (case side1 => repeat (first | exact (Kd.C_below HR0_1.out HB.out) | (with_reducible refine Kd.C_alloc ?_ _) | (with_reducible refine Kd.C_drewN ?_ _) | (with_reducible refine Kd.C_drew ?_))); (case side2 => exact HC0_1.out); (case side3 => repeat (first | exact (Kd.C_below HR0_2.out HB.out) | (with_reducible refine Kd.C_alloc ?_ _) | (with_reducible refine Kd.C_drewN ?_ _) | (with_reducible refine Kd.C_drew ?_))); (case side4 => exact HC0_2.out); rintro e w9 ⟨rfl, hb⟩; refine ⟨_, rfl, ?_⟩; have n0_ := Aside0.mk (blk_below (g := gb430) (o := .cells #[.int .i64 a0_0, .slice A0_1 l0_1.length c0_1, .slice A0_2 l0_2.length c0_2, .int .i64 a0_3, .int .i64 a0_4, .int .i64 a0_5, .int .i64 a0_6] 45 (0, 0)) (by (with_reducible repeat (first | refine blk_drewN ?_ _ | refine blk_drew ?_ | refine blk_alloc ?_ _)); exact BK430.out) hb); have n1_ := Aside0.mk (below_step (by repeat (first | (with_reducible first | exact HB.out | apply below_alloc | apply pw_below_drewN | apply below_drew1 | refine below_set ?_ GE430.out) | exact HB.out)) hb); clear BK430; clear HB; have BK430 := n0_; have HB := n1_; clear n0_ n1_; (try clear hb); (try clear hb2); (try clear hk); (try clear hi); have hcz10_0 : w9.cell? ⟨gb430, 0, none⟩ = some (.int .i64 a0_0) := (blk_cell BK430.out 0).trans rfl; have hcz10_1 : w9.cell? ⟨gb430, 1, none⟩ = some (.slice A0_1 l0_1.length c0_1) := (blk_cell BK430.out 1).trans rfl; have hcz10_2 : w9.cell? ⟨gb430, 2, none⟩ = some (.slice A0_2 l0_2.length c0_2) := (blk_cell BK430.out 2).trans rfl; have hcz10_3 : w9.cell? ⟨gb430, 3, none⟩ = some (.int .i64 a0_3) := (blk_cell BK430.out 3).trans rfl; have hcz10_4 : w9.cell? ⟨gb430, 4, none⟩ = some (.int .i64 a0_4) := (blk_cell BK430.out 4).trans rfl; have hcz10_5 : w9.cell? ⟨gb430, 5, none⟩ = some (.int .i64 a0_5) := (blk_cell BK430.out 5).trans rfl; have hcz10_6 : w9.cell? ⟨gb430, 6, none⟩ = some (.int .i64 a0_6) := (blk_cell BK430.out 6).trans rfl; have hfz10_0 := blk_frozen BK430.out 0; have hfz10_1 := blk_frozen BK430.out 1; have hfz10_2 := blk_frozen BK430.out 2; have hfz10_3 := blk_frozen BK430.out 3; have hfz10_4 := blk_frozen BK430.out 4; have hfz10_5 := blk_frozen BK430.out 5; have hfz10_6 := blk_frozen BK430.out 6) | (go_at_call 36; (with_reducible refine (impl_areSkews_1.calls _ _ l1 t432 _ ?side1 ?side2 A6.out).mono ?_); (case side1 => repeat (first | exact (Kd.C_below HR1.out HB.out) | (with_reducible refine Kd.C_alloc ?_ _) | (with_reducible refine Kd.C_drewN ?_ _) | (with_reducible refine Kd.C_drew ?_))); (case side2 => exact HC1.out); rintro e w11 ⟨rfl, hb⟩; have n0_ := Aside0.mk (blk_below (g := gb430) (o := .cells #[.int .i64 a0_0, .slice A0_1 l0_1.length c0_1, .slice A0_2 l0_2.length c0_2, .int .i64 a0_3, .int .i64 a0_4, .int .i64 a0_5, .int .i64 a0_6] 45 (0, 0)) (by (with_reducible repeat (first | refine blk_drewN ?_ _ | refine blk_drew ?_ | refine blk_alloc ?_ _)); exact BK430.out) hb); have n1_ := Aside0.mk (below_step (by repeat (first | (with_reducible first | exact HB.out | apply below_alloc | apply pw_below_drewN | apply below_drew1 | refine below_set ?_ GE430.out) | exact HB.out)) hb); clear BK430; clear HB; have BK430 := n0_; have HB := n1_; clear n0_ n1_; (try clear hb); (try clear hb2); (try clear hk); (try clear hi)))
   go_ret
   exact ⟨by first | rfl | (simp [errW_none, errW_some] <;> rfl) | (simp [*, errW_none, errW_some] <;> rfl), by repeat (first | (with_reducible first | exact HB.out | apply below_alloc | apply pw_below_drewN | apply below_drew1 | refine below_set ?_ GE430.out) | exact HB.out)⟩
  ·rw [if_neg c5] at H
   have c5b0 : ((l1.length : Int) == a0_0) = false := beq_eq_false_iff_ne.mpr c5
   have c5b1 : ((l1.length : Int) != a0_0) = true := bne_iff_ne.mpr c5
   obtain rfl := Option.some.inj H
   go_enter Try.func48, Try.ntmps48
   go_wp2_with (first | ((with_reducible refine gate_dst (N := 2) rfl ?_); (try (refine gate_guard (by rfl) ?_; dsimp only)); refine box_event ?hg (N := 2) ?hd (cs := #[.int .i64 a0_0, .slice A0_1 l0_1.length c0_1, .slice A0_2 l0_2.length c0_2, .int .i64 a0_3, .int .i64 a0_4, .int .i64 a0_5, .int .i64 a0_6]) (t := 45) ?hr ?_; (case hd => rfl); (case hg => rfl); (case hr => first | (go_simp; done) | (go_simp; rfl)); intro gb430 hg w12 hbox hb; have n0_ := Aside0.mk (below_step (by repeat (first | (with_reducible first | exact HB.out | apply below_alloc | apply pw_below_drewN | apply below_drew1) | exact HB.out)) hb); have n1_ := Aside0.mk (hbox); have n2_ := Aside0.mk ((by rw [hg]; exact (below_size (by repeat (first | (with_reducible first | exact HB.out | apply below_alloc | apply pw_below_drewN | apply below_drew1) | exact HB.out))) : w.heap.size ≤ gb430)); have n3_ := Aside0.mk ((by rw [hg]; exact (below_size (by repeat (first | (with_reducible first | exact HB.out | apply below_alloc | apply pw_below_drewN | apply below_drew1) | exact HB.out))) : w.heap.size ≤ gb430)); clear HB; have HB := n0_; have BK430 := n1_; have GW430 := n2_; have GE430 := n3_; clear n0_ n1_ n2_ n3_; clear hb hbox hg; have hcz13_0 : w12.cell? ⟨gb430, 0, none⟩ = some (.int .i64 a0_0) := (blk_cell BK430.out 0).trans rfl; have hcz13_1 : w12.cell? ⟨gb430, 1, none⟩ = some (.slice A0_1 l0_1.length c0_1) := (blk_cell BK430.out 1).trans rfl; have hcz13_2 : w12.cell? ⟨gb430, 2, none⟩ = some (.slice A0_2 l0_2.length c0_2) := (blk_cell BK430.out 2).trans rfl; have hcz13_3 : w12.cell? ⟨gb430, 3, none⟩ = some (.int .i64 a0_3) := (blk_cell BK430.out 3).trans rfl; have hcz13_4 : w12.cell? ⟨gb430, 4, none⟩ = some (.int .i64 a0_4) := (blk_cell BK430.out 4).trans rfl; have hcz13_5 : w12.cell? ⟨gb430, 5, none⟩ = some (.int .i64 a0_5) := (blk_cell BK430.out 5).trans rfl; have hcz13_6 : w12.cell? ⟨gb430, 6, none⟩ = some (.int .i64 a0_6) := (blk_cell BK430.out 6).trans rfl; have hfz13_0 := blk_frozen BK430.out 0; have hfz13_1 := blk_frozen BK430.out 1; have hfz13_2 := blk_frozen BK430.out 2; have hfz13_3 := blk_frozen BK430.out 3; have hfz13_4 := blk_frozen BK430.out 4; have hfz13_5 := blk_frozen BK430.out 5; have hfz13_6 := blk_frozen BK430.out 6) | ((with_reducible refine gate_callee (f := 24) rfl ?_); refine goesL_ (some 6) rfl rfl Try.func24 (by kernel_rfl) rfl #[.agg #[.int .i64 a0_0, .slice A0_1 l0_1.length c0_1, .slice A0_2 l0_2.length c0_2, .int .i64 a0_3, .int .i64 a0_4, .int .i64 a0_5, .int .i64 a0_6]] rfl (by (try simp only [List.map_toArray, List.map_cons, List.map_nil]); first | done | rfl | (simp only [List.length_drop, List.length_take]; rfl)) ?_; (with_reducible refine (impl_ValidCircuit.calls a0_0 _ _ l0_1 _ _ l0_2 a0_3 a0_4 a0_5 a0_6 true _ ?side1 ?side2 ?side3 ?side4 A3.out).mono ?_); (case side1 => repeat (first | exact (Kd.C_below HR0_1.out HB.out) | (with_reducible refine Kd.C_alloc ?_ _) | (with_reducible refine Kd.C_drewN ?_ _) | (with_reducible refine Kd.C_drew ?_))); (case side2 => exact HC0_1.out); (case side3 => repeat (first | exact (Kd.C_below HR0_2.out HB.out) | (with_reducible refine Kd.C_alloc ?_ _) | (with_reducible refine Kd.C_drewN ?_ _) | (with_reducible refine Kd.C_drew ?_))); (case side4 => exact HC0_2.out); rintro e w14 ⟨rfl, hb⟩; refine ⟨_, rfl, ?_⟩; have n0_ := Aside0.mk (blk_below (g := gb430) (o := .cells #[.int .i64 a0_0, .slice A0_1 l0_1.length c0_1, .slice A0_2 l0_2.length c0_2, .int .i64 a0_3, .int .i64 a0_4, .int .i64 a0_5, .int .i64 a0_6] 45 (0, 0)) (by (with_reducible repeat (first | refine blk_drewN ?_ _ | refine blk_drew ?_ | refine blk_alloc ?_ _)); exact BK430.out) hb); have n1_ := Aside0.mk (below_step (by repeat (first | (with_reducible first | exact HB.out | apply below_alloc | apply pw_below_drewN | apply below_drew1 | refine below_set ?_ GE430.out) | exact HB.out)) hb); clear BK430; clear HB; have BK430 := n0_; have HB := n1_; clear n0_ n1_; (try clear hb); (try clear hb2); (try clear hk); (try clear hi); have hcz15_0 : w14.cell? ⟨gb430, 0, none⟩ = some (.int .i64 a0_0) := (blk_cell BK430.out 0).trans rfl; have hcz15_1 : w14.cell? ⟨gb430, 1, none⟩ = some (.slice A0_1 l0_1.length c0_1) := (blk_cell BK430.out 1).trans rfl; have hcz15_2 : w14.cell? ⟨gb430, 2, none⟩ = some (.slice A0_2 l0_2.length c0_2) := (blk_cell BK430.out 2).trans rfl; have hcz15_3 : w14.cell? ⟨gb430, 3, none⟩ = some (.int .i64 a0_3) := (blk_cell BK430.out 3).trans rfl; have hcz15_4 : w14.cell? ⟨gb430, 4, none⟩ = some (.int .i64 a0_4) := (blk_cell BK430.out 4).trans rfl; have hcz15_5 : w14.cell? ⟨gb430, 5, none⟩ = some (.int .i64 a0_5) := (blk_cell BK430.out 5).trans rfl; have hcz15_6 : w14.cell? ⟨gb430, 6, none⟩ = some (.int .i64 a0_6) := (blk_cell BK430.out 6).trans rfl; have hfz15_0 := blk_frozen BK430.out 0; have hfz15_1 := blk_frozen BK430.out 1; have hfz15_2 := blk_frozen BK430.out 2; have hfz15_3 := blk_frozen BK430.out 3; have hfz15_4 := blk_frozen BK430.out 4; have hfz15_5 := blk_frozen BK430.out 5; have hfz15_6 := blk_frozen BK430.out 6))
   go_ret
   exact ⟨by first | rfl | (simp [errW_none, errW_some] <;> rfl) | (simp [*, errW_none, errW_some] <;> rfl), by repeat (first | (with_reducible first | exact HB.out | apply below_alloc | apply pw_below_drewN | apply below_drew1 | refine below_set ?_ GE430.out) | exact HB.out)⟩
 ·replace c4 := Bool.eq_false_iff.mpr c4
  subst c4
  have H1 : (some false) = some r := by rw [if_neg (show ¬ (false = true) by decide)] at H; exact H
  clear H
  have H := H1
  clear H1
  obtain rfl := Option.some.inj H
  go_enter Try.func48, Try.ntmps48
  go_wp2_with (first | ((with_reducible refine gate_dst (N := 2) rfl ?_); (try (refine gate_guard (by rfl) ?_; dsimp only)); refine box_event ?hg (N := 2) ?hd (cs := #[.int .i64 a0_0, .slice A0_1 l0_1.length c0_1, .slice A0_2 l0_2.length c0_2, .int .i64 a0_3, .int .i64 a0_4, .int .i64 a0_5, .int .i64 a0_6]) (t := 45) ?hr ?_; (case hd => rfl); (case hg => rfl); (case hr => first | (go_simp; done) | (go_simp; rfl)); intro gb430 hg w16 hbox hb; have n0_ := Aside0.mk (below_step (by repeat (first | (with_reducible first | exact HB.out | apply below_alloc | apply pw_below_drewN | apply below_drew1) | exact HB.out)) hb); have n1_ := Aside0.mk (hbox); have n2_ := Aside0.mk ((by rw [hg]; exact (below_size (by repeat (first | (with_reducible first | exact HB.out | apply below_alloc | apply pw_below_drewN | apply below_drew1) | exact HB.out))) : w.heap.size ≤ gb430)); have n3_ := Aside0.mk ((by rw [hg]; exact (below_size (by repeat (first | (with_reducible first | exact HB.out | apply below_alloc | apply pw_below_drewN | apply below_drew1) | exact HB.out))) : w.heap.size ≤ gb430)); clear HB; have HB := n0_; have BK430 := n1_; have GW430 := n2_; have GE430 := n3_; clear n0_ n1_ n2_ n3_; clear hb hbox hg; have hcz17_0 : w16.cell? ⟨gb430, 0, none⟩ = some (.int .i64 a0_0) := (blk_cell BK430.out 0).trans rfl; have hcz17_1 : w16.cell? ⟨gb430, 1, none⟩ = some (.slice A0_1 l0_1.length c0_1) := (blk_cell BK430.out 1).trans rfl; have hcz17_2 : w16.cell? ⟨gb430, 2, none⟩ = some (.slice A0_2 l0_2.length c0_2) := (blk_cell BK430.out 2).trans rfl; have hcz17_3 : w16.cell? ⟨gb430, 3, none⟩ = some (.int .i64 a0_3) := (blk_cell BK430.out 3).trans rfl; have hcz17_4 : w16.cell? ⟨gb430, 4, none⟩ = some (.int .i64 a0_4) := (blk_cell BK430.out 4).trans rfl; have hcz17_5 : w16.cell? ⟨gb430, 5, none⟩ = some (.int .i64 a0_5) := (blk_cell BK430.out 5).trans rfl; have hcz17_6 : w16.cell? ⟨gb430, 6, none⟩ = some (.int .i64 a0_6) := (blk_cell BK430.out 6).trans rfl; have hfz17_0 := blk_frozen BK430.out 0; have hfz17_1 := blk_frozen BK430.out 1; have hfz17_2 := blk_frozen BK430.out 2; have hfz17_3 := blk_frozen BK430.out 3; have hfz17_4 := blk_frozen BK430.out 4; have hfz17_5 := blk_frozen BK430.out 5; have hfz17_6 := blk_frozen BK430.out 6) | ((with_reducible refine gate_callee (f := 24) rfl ?_); refine goesL_ (some 6) rfl rfl Try.func24 (by kernel_rfl) rfl #[.agg #[.int .i64 a0_0, .slice A0_1 l0_1.length c0_1, .slice A0_2 l0_2.length c0_2, .int .i64 a0_3, .int .i64 a0_4, .int .i64 a0_5, .int .i64 a0_6]] rfl (by (try simp only [List.map_toArray, List.map_cons, List.map_nil]); first | done | rfl | (simp only [List.length_drop, List.length_take]; rfl)) ?_; (with_reducible refine (impl_ValidCircuit.calls a0_0 _ _ l0_1 _ _ l0_2 a0_3 a0_4 a0_5 a0_6 false _ ?side1 ?side2 ?side3 ?side4 A3.out).mono ?_); (case side1 => repeat (first | exact (Kd.C_below HR0_1.out HB.out) | (with_reducible refine Kd.C_alloc ?_ _) | (with_reducible refine Kd.C_drewN ?_ _) | (with_reducible refine Kd.C_drew ?_))); (case side2 => exact HC0_1.out); (case side3 => repeat (first | exact (Kd.C_below HR0_2.out HB.out) | (with_reducible refine Kd.C_alloc ?_ _) | (with_reducible refine Kd.C_drewN ?_ _) | (with_reducible refine Kd.C_drew ?_))); (case side4 => exact HC0_2.out); rintro e w18 ⟨rfl, hb⟩; refine ⟨_, rfl, ?_⟩; have n0_ := Aside0.mk (blk_below (g := gb430) (o := .cells #[.int .i64 a0_0, .slice A0_1 l0_1.length c0_1, .slice A0_2 l0_2.length c0_2, .int .i64 a0_3, .int .i64 a0_4, .int .i64 a0_5, .int .i64 a0_6] 45 (0, 0)) (by (with_reducible repeat (first | refine blk_drewN ?_ _ | refine blk_drew ?_ | refine blk_alloc ?_ _)); exact BK430.out) hb); have n1_ := Aside0.mk (below_step (by repeat (first | (with_reducible first | exact HB.out | apply below_alloc | apply pw_below_drewN | apply below_drew1 | refine below_set ?_ GE430.out) | exact HB.out)) hb); clear BK430; clear HB; have BK430 := n0_; have HB := n1_; clear n0_ n1_; (try clear hb); (try clear hb2); (try clear hk); (try clear hi)))
  go_ret
  exact ⟨by first | rfl | (simp [errW_none, errW_some] <;> rfl) | (simp [*, errW_none, errW_some] <;> rfl), by repeat (first | (with_reducible first | exact HB.out | apply below_alloc | apply pw_below_drewN | apply below_drew1 | refine below_set ?_ GE430.out) | exact HB.out)⟩

end Go.Proofs.Ytahjcmmgdcedpaa.Pa

/- Skews: the program's test of them and the reference's. -/
namespace Go.Proofs.Ytahjcmmgdcedpaa.Pure
open Go.RowKit Go.Proofs.Ytahjcmmgdcedpaa.Pa Go.Proofs.YtahjcmmgdcedpaaW.PrintWords Go.Proofs.YtahjcmmgdcedpaaW.PrintLast
set_option linter.unusedVariables false
set_option linter.unusedSimpArgs false

def skewsB (n : Int) (gates : List S56) (data : List Int) (a3 a4 a5 a6 : Int) (skews : List Int) : Bool :=
 validB n gates data a3 a4 a5 a6 && decide ((skews.length : Int) = n) && skews.all fun x => inB x 0 100000
theorem implSkews (n : Int) (gates : List S56) (data : List Int) (a3 a4 a5 a6 : Int) (skews : List Int) : impl_areSkews.f n gates data a3 a4 a5 a6 skews = some (skewsB n gates data a3 a4 a5 a6 skews) := by
 unfold impl_areSkews.f skewsB
 rw [valid_tells n gates data a3 a4 a5 a6]
 simp only [Option.bind_some]
 cases hv : validB n gates data a3 a4 a5 a6 with
 | false => simp
 | true =>
  rw [if_pos rfl]
  by_cases h1 : (skews.length : Int) = n
  ·rw [if_pos h1]
   unfold impl_areSkews_1.f
   simp only [Option.bind_some, Bool.true_and]
   rw [decide_eq_true h1, List.all_eq_not_any_not]
   simp only [Bool.true_and]
   rfl
  ·rw [if_neg h1]
   simp [h1]
theorem skews_ready {n : Int} {gates : List S56} {data : List Int} {a3 a4 a5 a6 : Int} {skews : List Int} (hw : ∀ g ∈ gates, g.f2.length ≤ 1048576) (h : skewsB n gates data a3 a4 a5 a6 skews = true) :
  Ready n gates data ∧ (skews.length : Int) = n ∧ ∀ x ∈ skews, 0 ≤ x ∧ x ≤ 100000 := by
 unfold skewsB at h
 simp only [Bool.and_eq_true, decide_eq_true_eq, List.all_eq_true, inB_iff] at h
 exact ⟨(circ_of n gates data a3 a4 a5 a6 hw h.1.1).ready hw, h.1.2, h.2⟩
end Go.Proofs.Ytahjcmmgdcedpaa.Pure

