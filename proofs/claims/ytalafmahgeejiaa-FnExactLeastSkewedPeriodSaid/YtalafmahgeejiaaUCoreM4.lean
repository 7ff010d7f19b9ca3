-- Written for this claim by a program of this session.
import Derived.Test.YtalafmahgeejiaaUCoreM1
import Derived.Test.YtalafmahgeejiaaUCoreM2
import Derived.Test.YtalafmahgeejiaaUCoreM3
import Derived.Test.YtalafmahgeejiaaUPax0
import Derived.Shelf.Abstract
/- The delays from a register to each node: the program's table and the reference's are one. -/
namespace Go.Proofs.Ytalafmahgeejiaa.Pure
open Go.RowKit Go.Proofs.Ytalafmahgeejiaa.Pa Go.Proofs.YtalafmahgeejiaaW.PrintWords Go.Proofs.YtalafmahgeejiaaW.PrintLast
set_option linter.unusedVariables false
set_option linter.unusedSimpArgs false

/-- The least and the greatest delay on ways to a node, if there is one. -/
abbrev Way := Option (Int × Int)
def lo : Way → Int
 | none => -1
 | some p => p.1
def hi : Way → Int
 | none => -1
 | some p => p.2
theorem lo_none : lo none = -1 := rfl
theorem hi_none : hi none = -1 := rfl
theorem lo_some (p : Int × Int) : lo (some p) = p.1 := rfl
theorem hi_some (p : Int × Int) : hi (some p) = p.2 := rfl
/-- One more input of a gate. -/
def joinG (g : S62) : Way → Way → Way
 | acc, none => acc
 | none, some p => some (p.1 + g.f0, p.2 + g.f1)
 | some q, some p => some (if p.1 + g.f0 < q.1 then p.1 + g.f0 else q.1, if q.2 < p.2 + g.f1 then p.2 + g.f1 else q.2)
def joins (g : S62) (t : List Way) : Way → List Int → Way
 | acc, [] => acc
 | acc, x :: l => joins g t (joinG g acc (t.getD x.toNat none)) l
def tabG : List Way → List S62 → List Way
 | t, [] => t
 | t, g :: l => tabG (t ++ [joins g t none g.f2]) l
def tab0 (a : Int) (n : Nat) : List Way := (List.range n).map fun r : Nat => if (r : Int) = a then some (0, 0) else none
/-- The table of all nodes, from a register. -/
def tab (a n : Int) (gates : List S62) : List Way := tabG (tab0 a n.toNat) gates
def Bd (m : Int) (v : Way) : Prop := ∀ p, v = some p → 0 ≤ p.1 ∧ p.1 ≤ p.2 ∧ p.2 ≤ m
theorem Bd.none (m : Int) : Bd m none := fun _ h => by simp at h
theorem Bd.mono {m m' : Int} {v : Way} (h : Bd m v) (hm : m ≤ m') : Bd m' v := fun p hp => by
 have := h p hp
 exact ⟨this.1, this.2.1, by omega⟩
theorem joinG_bd {g : S62} {m : Int} (hg : 0 ≤ g.f0 ∧ g.f0 ≤ g.f1 ∧ g.f1 ≤ 100) {acc v : Way} (ha : Bd (m + 100) acc) (hv : Bd m v) : Bd (m + 100) (joinG g acc v) := by
 intro p hp
 cases v with
 | none =>
  simp only [joinG] at hp
  exact ha p hp
 | some q =>
  have h1 := hv q rfl
  cases acc with
  | none =>
   simp only [joinG, Option.some.injEq] at hp
   subst hp
   exact ⟨by dsimp only; omega, by dsimp only; omega, by dsimp only; omega⟩
  | some r =>
   have h2 := ha r rfl
   simp only [joinG, Option.some.injEq] at hp
   subst hp
   dsimp only
   refine ⟨?_, ?_, ?_⟩ <;> (repeat' split) <;> omega
theorem getD_bd {m : Int} {t : List Way} (ht : ∀ v ∈ t, Bd m v) (i : Nat) : Bd m (t.getD i none) := by
 rw [List.getD_eq_getElem?_getD]
 by_cases h : i < t.length
 ·rw [List.getElem?_eq_getElem h]
  exact ht _ (List.getElem_mem h)
 ·rw [List.getElem?_eq_none (by omega)]
  exact Bd.none m
theorem joins_bd {g : S62} {m : Int} (hg : 0 ≤ g.f0 ∧ g.f0 ≤ g.f1 ∧ g.f1 ≤ 100) {t : List Way} (ht : ∀ v ∈ t, Bd m v) (l : List Int) : ∀ acc, Bd (m + 100) acc → Bd (m + 100) (joins g t acc l) := by
 induction l with
 | nil => intro acc h; exact h
 | cons x l ih => intro acc h; exact ih _ (joinG_bd hg h (getD_bd ht _))
theorem rd_map (f : Way → Int) (hf : f none = -1) {t : List Way} {x : Int} (h0 : 0 ≤ x) (h1 : x < (t.length : Int)) : rd (t.map f) x = f (t.getD x.toNat none) := by
 obtain ⟨i, rfl⟩ : ∃ i : Nat, x = (i : Int) := ⟨x.toNat, by omega⟩
 rw [rd_get (by simpa using h1), List.getElem_map, Int.toNat_natCast, List.getD_eq_getElem?_getD, List.getElem?_eq_getElem (by omega)]
 rfl
theorem max_tells (a b : Int) : spec_l00Max.f a b = some (if a > b then a else b) := by
 unfold spec_l00Max.f
 split <;> rfl
/-- The reference: what stands behind the inputs of a gate. -/
theorem from_l2 (n a3 a4 a5 a6 : Int) (gates : List S62) (data : List Int) (i : Nat) (hi' : i < gates.length) (hgl : gates.length ≤ 10) (hg : 0 ≤ gates[i].f0 ∧ gates[i].f0 ≤ gates[i].f1 ∧ gates[i].f1 ≤ 100) (hlen : gates[i].f2.length ≤ 1048576)
  (t : List Way) (m : Int) (hm : m ≤ 10000) (ht : ∀ v ∈ t, Bd m v) (hx : ∀ x ∈ gates[i].f2, 0 ≤ x ∧ x < (t.length : Int)) (htl : t.length ≤ 100) (r : List Int × List Int × Int × Int × Int × Int × Int) (d : Nat) :
  ∀ (j : Nat) (acc : Way), j + d = gates[i].f2.length → Bd (m + 100) acc →
  Ev (fun k => spec_l06From.l1 k ((t ++ [joins gates[i] t acc (gates[i].f2.drop j)]).map lo) ((t ++ [joins gates[i] t acc (gates[i].f2.drop j)]).map hi) ((i : Int) + 1) n gates data a3 a4 a5 a6) r →
  Ev (fun k => spec_l06From.l2 k (t.map lo) (t.map hi) (i : Int) (lo acc) (hi acc) (j : Int) n gates data a3 a4 a5 a6) r := by
 induction d with
 | zero =>
  rintro j acc h hb ⟨K, hK⟩
  rw [List.drop_of_length_le (by omega)] at hK
  refine ⟨K + 1, fun k hk => ?_⟩
  obtain ⟨k, rfl⟩ : ∃ m, k = m + 1 := ⟨k - 1, by omega⟩
  have := hK k (by omega)
  simp only [joins, List.map_append, List.map_cons, List.map_nil] at this
  simp only [spec_l06From.l2]
  rw [if_pos (by omega), if_pos (by omega), rdG' hi', if_neg (by omega), if_pos (by simp; omega), if_pos (by simp; omega), wrap_id (by omega) (by omega)]
  exact this
 | succ d ih =>
  intro j acc h hb hE
  have hj : j < gates[i].f2.length := by omega
  have hxj := hx _ (List.getElem_mem hj)
  rw [List.drop_eq_getElem_cons hj] at hE
  simp only [joins] at hE
  have hvb := getD_bd ht (gates[i].f2[j]).toNat
  obtain ⟨K, hK⟩ := ih (j + 1) _ (by omega) (joinG_bd hg hb hvb) hE
  refine ⟨K + 1, fun k hk => ?_⟩
  obtain ⟨k, rfl⟩ : ∃ m, k = m + 1 := ⟨k - 1, by omega⟩
  have hk2 := hK k (by omega)
  push_cast at hk2
  have hw : wrap64 ((j : Int) + 1) = (j : Int) + 1 := wrap_id (by omega) (by omega)
  have hlt0 : gates[i].f2[j] < ((t.map hi).length : Int) := by rw [List.length_map]; exact hxj.2
  simp only [spec_l06From.l2]
  rw [if_pos (Int.natCast_nonneg i), if_pos (Int.ofNat_lt.mpr hi'), rdG' hi', if_pos (Int.ofNat_lt.mpr hj), if_pos (Int.natCast_nonneg j), rd_get hj, if_pos hxj.1, if_pos hlt0, rd_map hi rfl hxj.1 hxj.2, hw]
  have hlt1 : gates[i].f2[j] < ((t.map lo).length : Int) := by rw [List.length_map]; exact hxj.2
  cases hv : t.getD (gates[i].f2[j]).toNat none with
  | none =>
   rw [hv] at hk2
   rw [if_pos (by rw [hi_none]; decide)]
   exact hk2
  | some p =>
   rw [hv] at hk2 hvb
   have hp := hvb p rfl
   rw [if_neg (by rw [hi_some]; omega), rd_map lo rfl hxj.1 hxj.2, hv]
   simp only [lo_some, hi_some, max_tells, Option.bind_some]
   rw [wrap_id (x := p.1 + gates[i].f0) (by omega) (by omega), wrap_id (x := p.2 + gates[i].f1) (by omega) (by omega)]
   cases acc with
   | none =>
    rw [if_pos (by rw [lo_none]; decide), if_pos hlt1, hi_none, if_neg (by omega)]
    exact hk2
   | some q =>
    have hq := hb q rfl
    rw [if_neg (by rw [lo_some]; omega), if_pos hlt1]
    simp only [joinG, lo_some, hi_some] at hk2
    rw [lo_some, hi_some]
    have e : (if q.2 > p.2 + gates[i].f1 then q.2 else p.2 + gates[i].f1) = (if q.2 < p.2 + gates[i].f1 then p.2 + gates[i].f1 else q.2) := by
     split <;> split <;> omega
    rw [e]
    by_cases h1 : p.1 + gates[i].f0 < q.1
    ·rw [if_pos h1] at hk2 ⊢
     exact hk2
    ·rw [if_neg h1] at hk2 ⊢
     exact hk2
theorem tabG_cons (t : List Way) (g : S62) (l : List S62) : tabG t (g :: l) = tabG (t ++ [joins g t none g.f2]) l := rfl
/-- What is known of a circuit's gates, read from a place on. -/
structure Gates (n : Int) (gates : List S62) : Prop where
 n0 : 1 ≤ n
 n1 : n ≤ 6
 len : gates.length ≤ 10
 gate : ∀ (i : Nat) (h : i < gates.length), 0 ≤ gates[i].f0 ∧ gates[i].f0 ≤ gates[i].f1 ∧ gates[i].f1 ≤ 100 ∧ gates[i].f2 ≠ [] ∧ ∀ x ∈ gates[i].f2, 0 ≤ x ∧ x ≤ n + i - 1
 wide : ∀ (i : Nat) (h : i < gates.length), gates[i].f2.length ≤ 1048576
theorem append_bd {m : Int} {t : List Way} {v : Way} (ht : ∀ v ∈ t, Bd m v) (hv : Bd (m + 100) v) : ∀ u ∈ t ++ [v], Bd (m + 100) u := by
 intro u hu
 rcases List.mem_append.mp hu with hu | hu
 ·exact (ht u hu).mono (by omega)
 ·rw [List.mem_singleton.mp hu]
  exact hv
theorem from_l1 (n a3 a4 a5 a6 : Int) (gates : List S62) (data : List Int) (C : Gates n gates) (d : Nat) : ∀ (i : Nat) (t : List Way), i + d = gates.length → (t.length : Int) = n + i → (∀ v ∈ t, Bd (100 * i) v) →
  Ev (fun k => spec_l06From.l1 k (t.map lo) (t.map hi) (i : Int) n gates data a3 a4 a5 a6) ((tabG t (gates.drop i)).map lo, (tabG t (gates.drop i)).map hi, n, a3, a4, a5, a6) := by
 induction d with
 | zero =>
  intro i t h htl ht
  refine ⟨1, fun k hk => ?_⟩
  obtain ⟨k, rfl⟩ : ∃ m, k = m + 1 := ⟨k - 1, by omega⟩
  simp only [spec_l06From.l1]
  rw [if_neg (by omega), List.drop_of_length_le (by omega)]
  rfl
 | succ d ih =>
  intro i t h htl ht
  have hi' : i < gates.length := by omega
  have hc := C.n0
  have hc1 := C.n1
  have hl := C.len
  have hg := C.gate i hi'
  have hb := joins_bd ⟨hg.1, hg.2.1, hg.2.2.1⟩ ht gates[i].f2 none (Bd.none _)
  have h1 := ih (i + 1) (t ++ [joins gates[i] t none gates[i].f2]) (by omega) (by simp; omega) (by
   intro v hv
   have := append_bd ht hb v hv
   rw [show (100 : Int) * ((i + 1 : Nat) : Int) = 100 * i + 100 by push_cast; omega]
   exact this)
  rw [← tabG_cons, ← List.drop_eq_getElem_cons hi'] at h1
  have h2 := from_l2 n a3 a4 a5 a6 gates data i hi' hl ⟨hg.1, hg.2.1, hg.2.2.1⟩ (C.wide i hi') t (100 * i) (by omega) ht (fun x hx => ⟨(hg.2.2.2.2 x hx).1, by have := (hg.2.2.2.2 x hx).2; omega⟩) (by omega) _ gates[i].f2.length 0 none (by omega) (Bd.none _) (by
   rw [List.drop_zero]
   push_cast at h1
   exact h1)
  obtain ⟨K, hK⟩ := h2
  refine ⟨K + 1, fun k hk => ?_⟩
  obtain ⟨k, rfl⟩ : ∃ m, k = m + 1 := ⟨k - 1, by omega⟩
  simp only [spec_l06From.l1]
  rw [if_pos (by omega)]
  exact hK k (by omega)
theorem tab0_succ (a : Int) (i : Nat) : tab0 a (i + 1) = tab0 a i ++ [if (i : Int) = a then some (0, 0) else none] := by
 unfold tab0
 rw [List.range_succ, List.map_append]
 rfl
theorem tab0_len (a : Int) (i : Nat) : (tab0 a i).length = i := by simp [tab0]
theorem tab0_bd (a : Int) (i : Nat) : ∀ v ∈ tab0 a i, Bd 0 v := by
 intro v hv p hp
 unfold tab0 at hv
 obtain ⟨r, _, rfl⟩ := List.mem_map.mp hv
 split at hp
 ·simp only [Option.some.injEq] at hp
  subst hp
  simp
 ·simp at hp
theorem from_l0 (a n a3 a4 a5 a6 : Int) (gates : List S62) (data : List Int) (C : Gates n gates) (d : Nat) : ∀ (i : Nat), (i : Int) + d = n →
  Ev (fun k => spec_l06From.l0 k a ((tab0 a i).map lo) ((tab0 a i).map hi) (i : Int) n gates data a3 a4 a5 a6) ((tab a n gates).map lo, (tab a n gates).map hi, n, a3, a4, a5, a6) := by
 induction d with
 | zero =>
  intro i h
  have hc := C.n1
  have h1 := from_l1 n a3 a4 a5 a6 gates data C gates.length 0 (tab0 a n.toNat) (by omega) (by rw [tab0_len]; omega) (by simpa using tab0_bd a n.toNat)
  obtain ⟨K, hK⟩ := h1
  refine ⟨K + 1, fun k hk => ?_⟩
  obtain ⟨k, rfl⟩ : ∃ m, k = m + 1 := ⟨k - 1, by omega⟩
  have := hK k (by omega)
  simp only [spec_l06From.l0]
  rw [if_neg (by omega), show i = n.toNat by omega]
  exact this
 | succ d ih =>
  intro i h
  have hc := C.n1
  obtain ⟨K, hK⟩ := ih (i + 1) (by omega)
  refine ⟨K + 1, fun k hk => ?_⟩
  obtain ⟨k, rfl⟩ : ∃ m, k = m + 1 := ⟨k - 1, by omega⟩
  have := hK k (by omega)
  rw [tab0_succ] at this
  push_cast at this
  simp only [List.map_append, List.map_cons, List.map_nil] at this
  simp only [spec_l06From.l0]
  rw [if_pos (by omega), wrap_id (x := (i : Int) + 1) (by omega) (by omega)]
  by_cases e : (i : Int) = a
  ·rw [if_pos e] at this ⊢
   rw [if_pos (by simp [tab0_len]; omega), if_pos (by simp [tab0_len]; omega)]
   exact this
  ·rw [if_neg e] at this ⊢
   rw [if_pos (by simp [tab0_len]; omega), if_pos (by simp [tab0_len]; omega)]
   exact this
theorem from_tells (a n a3 a4 a5 a6 : Int) (gates : List S62) (data : List Int) (C : Gates n gates) :
  Ev (fun k => spec_l06From.f k n gates data a3 a4 a5 a6 a) ((tab a n gates).map lo, (tab a n gates).map hi, n, a3, a4, a5, a6) := by
 have hc := C.n0
 exact from_l0 a n a3 a4 a5 a6 gates data C n.toNat 0 (by omega)
theorem tabG_len (l : List S62) : ∀ t, (tabG t l).length = t.length + l.length := by
 induction l with
 | nil => intro t; rfl
 | cons g l ih => intro t; rw [tabG_cons, ih]; simp; omega
theorem tab_len (a n : Int) (gates : List S62) : (tab a n gates).length = n.toNat + gates.length := by
 unfold tab
 rw [tabG_len, tab0_len]
theorem tabG_bd (n : Int) (gates : List S62) (C : Gates n gates) (d : Nat) : ∀ (i : Nat) (t : List Way), i + d = gates.length → (∀ v ∈ t, Bd (100 * i) v) → ∀ v ∈ tabG t (gates.drop i), Bd 1000 v := by
 have hl := C.len
 induction d with
 | zero =>
  intro i t h ht v hv
  rw [List.drop_of_length_le (by omega)] at hv
  exact (ht v hv).mono (by omega)
 | succ d ih =>
  intro i t h ht
  have hi' : i < gates.length := by omega
  have hg := C.gate i hi'
  rw [List.drop_eq_getElem_cons hi', tabG_cons]
  apply ih (i + 1) _ (by omega)
  intro v hv
  have := append_bd ht (joins_bd ⟨hg.1, hg.2.1, hg.2.2.1⟩ ht gates[i].f2 none (Bd.none _)) v hv
  rw [show (100 : Int) * ((i + 1 : Nat) : Int) = 100 * i + 100 by push_cast; omega]
  exact this
theorem tab_bd (a n : Int) (gates : List S62) (C : Gates n gates) : ∀ v ∈ tab a n gates, Bd 1000 v := by
 unfold tab
 have := tabG_bd n gates C gates.length 0 (tab0 a n.toNat) (by omega) (by simpa using tab0_bd a n.toNat)
 simpa using this
/-- The least and the greatest delay between two registers, if there is a path. -/
def pathO (n : Int) (gates : List S62) (data : List Int) (a5 a6 a b : Int) : Way := ((tab a n gates).getD (rd data b).toNat none).map fun p => (wrap64 (p.1 + a5), wrap64 (p.2 + a6))
theorem path_tells (n a3 a4 a5 a6 : Int) (gates : List S62) (data : List Int) (C : Gates n gates) (hd : (data.length : Int) = n) (hnode : ∀ x ∈ data, 0 ≤ x ∧ x ≤ n + gates.length - 1) (a b : Int) (h0 : 0 ≤ b) (h1 : b < n) :
  ∃ x y, Ev (fun k => spec_l06Path.f k n gates data a3 a4 a5 a6 a b) (x, y, (pathO n gates data a5 a6 a b).isSome, n, a3, a4, a5, a6) ∧ ∀ p, pathO n gates data a5 a6 a b = some p → x = p.1 ∧ y = p.2 := by
 obtain ⟨K, hK⟩ := from_tells a n a3 a4 a5 a6 gates data C
 have hc := C.n0
 have hm : rd data b ∈ data := by
  unfold rd
  rw [List.getD_eq_getElem?_getD, List.getElem?_eq_getElem (by omega)]
  exact List.getElem_mem _
 have hr := hnode _ hm
 have hlen : ((tab a n gates).length : Int) = n + gates.length := by rw [tab_len]; omega
 have hb := getD_bd (tab_bd a n gates C) (rd data b).toNat
 refine ⟨wrap64 (lo ((tab a n gates).getD (rd data b).toNat none) + a5), wrap64 (hi ((tab a n gates).getD (rd data b).toNat none) + a6), ⟨K, fun k hk => ?_⟩, ?_⟩
 ·have hk2 : spec_l06From.f k n gates data a3 a4 a5 a6 a = _ := hK k hk
  show spec_l06Path.f k n gates data a3 a4 a5 a6 a b = _
  unfold spec_l06Path.f
  rw [hk2]
  simp only [Option.bind_some]
  rw [if_pos h0, if_pos (by omega), if_pos hr.1, if_pos (by simp; omega), if_pos (by simp; omega), rd_map lo rfl hr.1 (by omega), rd_map hi rfl hr.1 (by omega)]
  have e : decide (hi ((tab a n gates).getD (rd data b).toNat none) ≥ 0) = (pathO n gates data a5 a6 a b).isSome := by
   unfold pathO
   rw [Option.isSome_map]
   cases hv : (tab a n gates).getD (rd data b).toNat none with
   | none => rfl
   | some p =>
    rw [hv] at hb
    have := hb p rfl
    rw [hi_some, decide_eq_true (show p.2 ≥ 0 by omega)]
    rfl
  rw [e]
 ·intro p hp
  unfold pathO at hp
  obtain ⟨q, hq, rfl⟩ := Option.map_eq_some_iff.mp hp
  rw [hq]
  exact ⟨rfl, rfl⟩
end Go.Proofs.Ytalafmahgeejiaa.Pure

namespace Go.Proofs.Ytalafmahgeejiaa.Pa
open Go.RowKit Go.Proofs.YtalafmahgeejiaaW.PrintWords Go.Proofs.YtalafmahgeejiaaW.PrintLast Go.Proofs.YtalafmahgeejiaaW.PrintMore
attribute [local go_sem] max2_int min2_int max_two min_two max_three min_three max_four min_four   -- for this text's walks alone
set_option linter.unusedVariables false
set_option linter.unusedSimpArgs false

/-! ### impl_Circuit_links: function 58 -/
mutual
def impl_Circuit_links.l0 : Nat → List (S72) → Int → Int → Int → List (S62) → List Int → Int → Int → Int → Int → Option ((List (S72)))
 | 0, _, _, _, _, _, _, _, _, _, _ => none
 | k + 1, x3, x12, x13, x307000, x307001, x307002, x307003, x307004, x307005, x307006 => if x13 < x12 then ((impl_Circuit_delays.f k x307000 x307001 x307002 x307003 x307004 x307005 x307006 x13).bind fun bt310 => (impl_Circuit_links.l1 k x3 x13 bt310.1 bt310.2.1 bt310.2.2 x12 x13 x307002 (x307002.length : Int) 0 x307000 x307001 x307002 x307003 x307004 x307005 x307006)) else (some x3)
def impl_Circuit_links.l1 : Nat → List (S72) → Int → List Int → List Int → List Bool → Int → Int → List Int → Int → Int → Int → List (S62) → List Int → Int → Int → Int → Int → Option ((List (S72)))
 | 0, _, _, _, _, _, _, _, _, _, _, _, _, _, _, _, _, _ => none
 | k + 1, x3, x4, x5, x6, x7, x12, x13, x24, x25, x26, x307000, x307001, x307002, x307003, x307004, x307005, x307006 => if x26 < x25 then (if 0 ≤ x26 then (if x26 < (x24.length : Int) then (if 0 ≤ (rd x24 x26) then (if (rd x24 x26) < (x7.length : Int) then (if rdOf false x7 (rd x24 x26) = true then (if (rd x24 x26) < (x5.length : Int) then (if (rd x24 x26) < (x6.length : Int) then (if x3.length < 4398046511104 then (impl_Circuit_links.l1 k (x3 ++ [(⟨x4, x26, wrap64 ((rd x5 (rd x24 x26)) + x307005), wrap64 ((rd x6 (rd x24 x26)) + x307006)⟩ : S72)]) x4 x5 x6 x7 x12 x13 x24 x25 (wrap64 (x26 + 1)) x307000 x307001 x307002 x307003 x307004 x307005 x307006) else (none)) else (none)) else (none)) else (impl_Circuit_links.l1 k x3 x4 x5 x6 x7 x12 x13 x24 x25 (wrap64 (x26 + 1)) x307000 x307001 x307002 x307003 x307004 x307005 x307006)) else (none)) else (none)) else (none)) else (none)) else (impl_Circuit_links.l0 k x3 x12 (wrap64 (x13 + 1)) x307000 x307001 x307002 x307003 x307004 x307005 x307006)
end
def impl_Circuit_links.f (k : Nat) (a0_0 : Int) (l0_1 : List (S62)) (l0_2 : List Int) (a0_3 : Int) (a0_4 : Int) (a0_5 : Int) (a0_6 : Int) : Option ((List (S72))) := impl_Circuit_links.l0 k (([] : List (S72))) a0_0 0 a0_0 l0_1 l0_2 a0_3 a0_4 a0_5 a0_6
def impl_Circuit_links.T10 : Bool × List (List Nat × List Nat) := (true, [([], []), ([], []), ([], []), ([], []), ([], []), ([3, 4], [3, 4]), ([5], [5]), ([], []), ([7], [7]), ([6, 8], [6, 8]), ([], []), ([], []), ([10, 11], [10, 11]), ([12], [12]), ([], []), ([14], [14]), ([13, 15], [13, 15]), ([1, 2, 9, 16], [1, 2, 9, 16]), ([17], [17]), ([0, 18], [0, 18]), ([19, 19, 0, 1, 2, 3, 4, 5, 6, 7, 8, 9, 10, 11, 12, 13, 14, 15, 16, 17, 18, 19], [0, 19])])
def impl_Circuit_links.B10 : List Nat := [0, 0, 0, 0, 0, 24, 56, 0, 128, 504, 0, 0, 3072, 7168, 0, 16384, 64512, 131070, 262142, 524287, 1048575]
theorem impl_Circuit_links.tab10 : rtab .any (opsOf Try.f58 10) = impl_Circuit_links.T10 := by kernel_rfl
theorem impl_Circuit_links.bits10 : waitsOk impl_Circuit_links.T10.2 impl_Circuit_links.B10 = true := by kernel_rfl
set_option maxHeartbeats 8000000 in
set_option maxRecDepth 100000 in
theorem impl_Circuit_links.calls (k : Nat) (a0_0 : Int) (A0_1 : Option Addr) (c0_1 : Nat) (l0_1 : List (S62)) (A0_2 : Option Addr) (c0_2 : Nat) (l0_2 : List Int) (a0_3 : Int) (a0_4 : Int) (a0_5 : Int) (a0_6 : Int) (r : List (S72)) (w : World) (hr0_1 : Kd.C k62 w A0_1 l0_1.length l0_1) (hc0_1 : l0_1.length ≤ c0_1) (hr0_2 : Kd.C (Kd.int .i64) w A0_2 l0_2.length l0_2) (hc0_2 : l0_2.length ≤ c0_2) (h : impl_Circuit_links.f k a0_0 l0_1 l0_2 a0_3 a0_4 a0_5 a0_6 = some r) :
  Calls Try.prog 58 #[.agg #[.int .i64 a0_0, .slice A0_1 l0_1.length c0_1, .slice A0_2 l0_2.length c0_2, .int .i64 a0_3, .int .i64 a0_4, .int .i64 a0_5, .int .i64 a0_6]] w fun e w' => ∃ v0_ : Value, e = .returned (v0_) ∧ Kd.R k72 72 w' w.heap.size (fun _ => True) v0_ r ∧ Below w.heap.size w w' := by
 have hu30 := Try.underlying30
 have hu72 := Try.underlying72
 have HR0_1 := Aside0.mk hr0_1
 have HC0_1 := Aside0.mk hc0_1
 clear hr0_1 hc0_1
 have HR0_2 := Aside0.mk hr0_2
 have HC0_2 := Aside0.mk hc0_2
 clear hr0_2 hc0_2
 have HB := Aside0.mk (Below.refl w.heap.size w)
 have H : (impl_Circuit_links.l0 k (([] : List (S72))) a0_0 0 a0_0 l0_1 l0_2 a0_3 a0_4 a0_5 a0_6) = some r := h
 clear h
 obtain ⟨y307, hy307⟩ : ∃ y_ : List (S72), y_ = (([] : List (S72))) := ⟨_, rfl⟩
 (try rw [Option.bind_some] at H); try rw [← hy307] at H
 have Ny307 := Aside0.mk hy307
 clear hy307
 have H' := Aside0.mk H
 clear H
 go_enter Try.func58, Try.ntmps58
 go_wp2_with (first | ((with_reducible refine gate_dst (N := 1) rfl ?_); refine box_event ?hg (N := 1) ?hd (cs := #[.int .i64 a0_0, .slice A0_1 l0_1.length c0_1, .slice A0_2 l0_2.length c0_2, .int .i64 a0_3, .int .i64 a0_4, .int .i64 a0_5, .int .i64 a0_6]) (t := 30) ?hr ?_; (case hd => rfl); (case hg => rfl); (case hr => first | (go_simp; done) | (go_simp; rfl)); intro gb306 hg w2 hbox hb; have n0_ := Aside0.mk (below_step (by with_reducible repeat (first | exact HB.out | apply below_alloc | apply pw_below_drewN | apply below_drew1)) hb); have n1_ := Aside0.mk (hbox); have n2_ := Aside0.mk ((by rw [hg]; exact (below_size (by with_reducible repeat (first | exact HB.out | apply below_alloc | apply pw_below_drewN | apply below_drew1))) : w.heap.size ≤ gb306)); have n3_ := Aside0.mk ((by rw [hg]; exact (below_size (by with_reducible repeat (first | exact HB.out | apply below_alloc | apply pw_below_drewN | apply below_drew1))) : w.heap.size ≤ gb306)); clear HB; have HB := n0_; have BK306 := n1_; have GW306 := n2_; have GE306 := n3_; clear n0_ n1_ n2_ n3_; clear hb hbox hg) | ((with_reducible refine gate_dst (N := 10) rfl ?_); refine Kd.R_lit k72 _ 72 ?hg (N := 10) ?hd (xs := ([] : List (S72))) (inner := []) (ok := fun _ => True) (okp := fun _ => True) ?hr ?hp (fun _ hk => hk) trivial (Below.refl _ _) (Nat.le_refl _) (by simp) ?_; (case hd => rfl); (case hg => rfl); (case hr => first | (go_simp; done) | (go_simp; rfl)); (case hp => exact (Reps.none _ _)); intro v308 w3 ho4 hb hg_ hnew_; clear hg_ hnew_; (first | rw [← Ny307.out] at ho4 | (simp only [Int.reduceToNat] at ho4; rw [← Ny307.out] at ho4)); have n0_ := Aside0.mk (Kd.R_lower ho4 (below_size (by with_reducible repeat (first | exact HB.out | apply below_alloc | apply pw_below_drewN | apply below_drew1 | refine below_set ?_ GE306.out)))); have n1_ := Aside0.mk (blk_below (g := gb306) (by (with_reducible repeat (first | refine blk_drewN ?_ _ | refine blk_drew ?_ | refine blk_alloc ?_ _)); exact BK306.out) hb); have n2_ := Aside0.mk (below_step (by with_reducible repeat (first | exact HB.out | apply below_alloc | apply pw_below_drewN | apply below_drew1 | refine below_set ?_ GE306.out)) hb); clear BK306; clear HB; have HO309 := n0_; have BK306 := n1_; have HB := n2_; clear n0_ n1_ n2_; clear hb ho4; have hcz5_0 : w3.cell? ⟨gb306, 0, none⟩ = some (.int .i64 a0_0) := (blk_cell BK306.out 0).trans rfl; have hcz5_1 : w3.cell? ⟨gb306, 1, none⟩ = some (.slice A0_1 l0_1.length c0_1) := (blk_cell BK306.out 1).trans rfl; have hcz5_2 : w3.cell? ⟨gb306, 2, none⟩ = some (.slice A0_2 l0_2.length c0_2) := (blk_cell BK306.out 2).trans rfl; have hcz5_3 : w3.cell? ⟨gb306, 3, none⟩ = some (.int .i64 a0_3) := (blk_cell BK306.out 3).trans rfl; have hcz5_4 : w3.cell? ⟨gb306, 4, none⟩ = some (.int .i64 a0_4) := (blk_cell BK306.out 4).trans rfl; have hcz5_5 : w3.cell? ⟨gb306, 5, none⟩ = some (.int .i64 a0_5) := (blk_cell BK306.out 5).trans rfl; have hcz5_6 : w3.cell? ⟨gb306, 6, none⟩ = some (.int .i64 a0_6) := (blk_cell BK306.out 6).trans rfl; have hfz5_0 := blk_frozen BK306.out 0; have hfz5_1 := blk_frozen BK306.out 1; have hfz5_2 := blk_frozen BK306.out 2; have hfz5_3 := blk_frozen BK306.out 3; have hfz5_4 := blk_frozen BK306.out 4; have hfz5_5 := blk_frozen BK306.out 5; have hfz5_6 := blk_frozen BK306.out 6))
 go_loopg [3, 13] k (fun kq v3 v13 w' => ∃ (x3_1 : List (S72)) (x13_1 : Int), v13 = .int .i64 x13_1 ∧ Aside0 (impl_Circuit_links.l0 kq x3_1 a0_0 x13_1 a0_0 l0_1 l0_2 a0_3 a0_4 a0_5 a0_6 = some r) ∧ Aside0 (kq ≤ k) ∧ Aside0 (Kd.R k72 72 w' w.heap.size (fun _ => True) v3 x3_1) ∧ Aside0 (w'.heap[gb306]? = some (.cells #[.int .i64 a0_0, (.slice A0_1 l0_1.length c0_1), (.slice A0_2 l0_2.length c0_2), .int .i64 a0_3, .int .i64 a0_4, .int .i64 a0_5, .int .i64 a0_6] 30 (0, 0))) ∧ Aside0 (Below w.heap.size w w'))
 case atStart => exact ⟨(y307), (0), (by first | rfl | (simp; done) | (simp [*]; done)), H', ⟨Nat.le_refl _⟩, ⟨by (with_reducible repeat (first | apply Kd.R_alloc | apply Kd.R_drewN | apply Kd.R_drew)); exact HO309.out⟩, ⟨by (with_reducible repeat (first | refine blk_drewN ?_ _ | refine blk_drew ?_ | refine blk_alloc ?_ _)); exact BK306.out⟩, ⟨by with_reducible repeat (first | exact HB.out | apply below_alloc | apply pw_below_drewN | apply below_drew1 | refine below_set ?_ GE306.out)⟩⟩
 case round =>
  clear H'
  try clear p2
  try clear c5
  try clear hcz5_0
  try clear hcz5_1
  try clear hcz5_2
  try clear hcz5_3
  try clear hcz5_4
  try clear hcz5_5
  try clear hcz5_6
  try clear hfz5_0
  try clear hfz5_1
  try clear hfz5_2
  try clear hfz5_3
  try clear hfz5_4
  try clear hfz5_5
  try clear hfz5_6
  obtain ⟨x3_1, x13_1, rfl, HA, HK1, HO_3, BK306, HB⟩ := hrel
  cases gk with
  | zero => exact absurd HA.out (by simp [impl_Circuit_links.l0])
  | succ k1 =>
   have H := HA.out
   clear HA
   simp only [impl_Circuit_links.l0] at H
   by_cases c6 : x13_1 < a0_0
   ·rw [if_pos c6] at H
    have c6b0 : decide (x13_1 < a0_0) = true := decide_eq_true c6
    clear c6
    replace H := Option.bind_eq_some_iff.mp H
    obtain ⟨⟨t310, t313, t316⟩, A70, H⟩ := H
    try dsimp only at H
    have A7 := Aside0.mk A70
    clear A70
    have H' := Aside0.mk H
    clear H
    have hcz8_0 : wr.cell? ⟨gb306, 0, none⟩ = some (.int .i64 a0_0) := (blk_cell BK306.out 0).trans rfl
    have hcz8_1 : wr.cell? ⟨gb306, 1, none⟩ = some (.slice A0_1 l0_1.length c0_1) := (blk_cell BK306.out 1).trans rfl
    have hcz8_2 : wr.cell? ⟨gb306, 2, none⟩ = some (.slice A0_2 l0_2.length c0_2) := (blk_cell BK306.out 2).trans rfl
    have hcz8_3 : wr.cell? ⟨gb306, 3, none⟩ = some (.int .i64 a0_3) := (blk_cell BK306.out 3).trans rfl
    have hcz8_4 : wr.cell? ⟨gb306, 4, none⟩ = some (.int .i64 a0_4) := (blk_cell BK306.out 4).trans rfl
    have hcz8_5 : wr.cell? ⟨gb306, 5, none⟩ = some (.int .i64 a0_5) := (blk_cell BK306.out 5).trans rfl
    have hcz8_6 : wr.cell? ⟨gb306, 6, none⟩ = some (.int .i64 a0_6) := (blk_cell BK306.out 6).trans rfl
    have hfz8_0 := blk_frozen BK306.out 0
    have hfz8_1 := blk_frozen BK306.out 1
    have hfz8_2 := blk_frozen BK306.out 2
    have hfz8_3 := blk_frozen BK306.out 3
    have hfz8_4 := blk_frozen BK306.out 4
    have hfz8_5 := blk_frozen BK306.out 5
    have hfz8_6 := blk_frozen BK306.out 6
    go_wp2_with (first | ((with_reducible refine gate_callee (f := 86) rfl ?_); refine goesL_ (some 19) rfl rfl Try.func86 (by kernel_rfl) rfl #[.agg #[.int .i64 a0_0, .slice A0_1 l0_1.length c0_1, .slice A0_2 l0_2.length c0_2, .int .i64 a0_3, .int .i64 a0_4, .int .i64 a0_5, .int .i64 a0_6], .int .i64 x13_1] rfl (by (try simp only [List.map_toArray, List.map_cons, List.map_nil]); first | done | rfl | (simp only [List.length_drop, List.length_take]; rfl)) ?_; (with_reducible refine (impl_Circuit_delays.calls k1 a0_0 _ _ l0_1 _ _ l0_2 a0_3 a0_4 a0_5 a0_6 x13_1 t310 t313 t316 _ ?side1 ?side2 ?side3 ?side4 A7.out).mono ?_); (case side1 => repeat (first | exact (Kd.C_below HR0_1.out HB.out) | (with_reducible refine Kd.C_alloc ?_ _) | (with_reducible refine Kd.C_drewN ?_ _) | (with_reducible refine Kd.C_drew ?_))); (case side2 => exact HC0_1.out); (case side3 => repeat (first | exact (Kd.C_below HR0_2.out HB.out) | (with_reducible refine Kd.C_alloc ?_ _) | (with_reducible refine Kd.C_drewN ?_ _) | (with_reducible refine Kd.C_drew ?_))); (case side4 => exact HC0_2.out); rintro e w9 ⟨v311, v314, v317, rfl, ho0, ho1, ho2, hb⟩; refine ⟨_, rfl, ?_⟩; have n0_ := Aside0.mk (Kd.R_below (by (with_reducible repeat (first | apply Kd.R_alloc | apply Kd.R_drewN | apply Kd.R_drew)); exact HO_3.out) hb); have n1_ := Aside0.mk (Kd.R_lower ho0 (below_size (by with_reducible repeat (first | exact HB.out | apply below_alloc | apply pw_below_drewN | apply below_drew1 | refine below_set ?_ GE306.out)))); have n2_ := Aside0.mk (Kd.R_lower ho1 (below_size (by with_reducible repeat (first | exact HB.out | apply below_alloc | apply pw_below_drewN | apply below_drew1 | refine below_set ?_ GE306.out)))); have n3_ := Aside0.mk (Kd.R_lower ho2 (below_size (by with_reducible repeat (first | exact HB.out | apply below_alloc | apply pw_below_drewN | apply below_drew1 | refine below_set ?_ GE306.out)))); have n4_ := Aside0.mk (blk_below (g := gb306) (by (with_reducible repeat (first | refine blk_drewN ?_ _ | refine blk_drew ?_ | refine blk_alloc ?_ _)); exact BK306.out) hb); have n5_ := Aside0.mk (below_step (by with_reducible repeat (first | exact HB.out | apply below_alloc | apply pw_below_drewN | apply below_drew1 | refine below_set ?_ GE306.out)) hb); clear HO_3; clear BK306; clear HB; have HO_3 := n0_; have HO312 := n1_; have HO315 := n2_; have HO318 := n3_; have BK306 := n4_; have HB := n5_; clear n0_ n1_ n2_ n3_ n4_ n5_; (try clear hb); (try clear hb2); (try clear hk); (try clear hi); (try clear ho0); (try clear ho1); (try clear ho2); have hcz10_0 : w9.cell? ⟨gb306, 0, none⟩ = some (.int .i64 a0_0) := (blk_cell BK306.out 0).trans rfl; have hcz10_1 : w9.cell? ⟨gb306, 1, none⟩ = some (.slice A0_1 l0_1.length c0_1) := (blk_cell BK306.out 1).trans rfl; have hcz10_2 : w9.cell? ⟨gb306, 2, none⟩ = some (.slice A0_2 l0_2.length c0_2) := (blk_cell BK306.out 2).trans rfl; have hcz10_3 : w9.cell? ⟨gb306, 3, none⟩ = some (.int .i64 a0_3) := (blk_cell BK306.out 3).trans rfl; have hcz10_4 : w9.cell? ⟨gb306, 4, none⟩ = some (.int .i64 a0_4) := (blk_cell BK306.out 4).trans rfl; have hcz10_5 : w9.cell? ⟨gb306, 5, none⟩ = some (.int .i64 a0_5) := (blk_cell BK306.out 5).trans rfl; have hcz10_6 : w9.cell? ⟨gb306, 6, none⟩ = some (.int .i64 a0_6) := (blk_cell BK306.out 6).trans rfl; have hfz10_0 := blk_frozen BK306.out 0; have hfz10_1 := blk_frozen BK306.out 1; have hfz10_2 := blk_frozen BK306.out 2; have hfz10_3 := blk_frozen BK306.out 3; have hfz10_4 := blk_frozen BK306.out 4; have hfz10_5 := blk_frozen BK306.out 5; have hfz10_6 := blk_frozen BK306.out 6))
    go_loopg [3, 26] k1 (fun kq v3 v26 w' => ∃ (x3_2 : List (S72)) (x26_2 : Int), v26 = .int .i64 x26_2 ∧ Aside0 (impl_Circuit_links.l1 kq x3_2 x13_1 t310 t313 t316 a0_0 x13_1 l0_2 (l0_2.length : Int) x26_2 a0_0 l0_1 l0_2 a0_3 a0_4 a0_5 a0_6 = some r) ∧ Aside0 (kq ≤ k1) ∧ Aside0 (Kd.R k72 72 w' w.heap.size (fun _ => True) v3 x3_2) ∧ Aside0 (Kd.R (Kd.int .i64) 2 w' w.heap.size (fun k_ => some k_ ≠ (v314 : Value).ownBlock) v311 t310) ∧ Aside0 (Kd.R (Kd.int .i64) 2 w' w.heap.size (fun k_ => some k_ ≠ (v311 : Value).ownBlock) v314 t313) ∧ Aside0 (Kd.R Kd.bool 4 w' w.heap.size (fun _ => True) v317 t316) ∧ Aside0 (w'.heap[gb306]? = some (.cells #[.int .i64 a0_0, (.slice A0_1 l0_1.length c0_1), (.slice A0_2 l0_2.length c0_2), .int .i64 a0_3, .int .i64 a0_4, .int .i64 a0_5, .int .i64 a0_6] 30 (0, 0))) ∧ Aside0 (Below w.heap.size w w'))
    case atStart => exact ⟨(x3_1), (0), (by first | rfl | (simp; done) | (simp [*]; done)), H', ⟨Nat.le_refl _⟩, ⟨by (with_reducible repeat (first | apply Kd.R_alloc | apply Kd.R_drewN | apply Kd.R_drew)); exact HO_3.out⟩, ⟨by (with_reducible repeat (first | apply Kd.R_alloc | apply Kd.R_drewN | apply Kd.R_drew)); exact HO312.out⟩, ⟨by (with_reducible repeat (first | apply Kd.R_alloc | apply Kd.R_drewN | apply Kd.R_drew)); exact HO315.out⟩, ⟨by (with_reducible repeat (first | apply Kd.R_alloc | apply Kd.R_drewN | apply Kd.R_drew)); exact HO318.out⟩, ⟨by (with_reducible repeat (first | refine blk_drewN ?_ _ | refine blk_drew ?_ | refine blk_alloc ?_ _)); exact BK306.out⟩, ⟨by with_reducible repeat (first | exact HB.out | apply below_alloc | apply pw_below_drewN | apply below_drew1 | refine below_set ?_ GE306.out)⟩⟩
    case round =>
     clear H'
     try clear p2
     try clear c5
     try clear c6
     try clear c6b0
     try clear c8
     try clear hcz10_0
     try clear hcz10_1
     try clear hcz10_2
     try clear hcz10_3
     try clear hcz10_4
     try clear hcz10_5
     try clear hcz10_6
     try clear hcz5_0
     try clear hcz5_1
     try clear hcz5_2
     try clear hcz5_3
     try clear hcz5_4
     try clear hcz5_5
     try clear hcz5_6
     try clear hcz8_0
     try clear hcz8_1
     try clear hcz8_2
     try clear hcz8_3
     try clear hcz8_4
     try clear hcz8_5
     try clear hcz8_6
     try clear hfz10_0
     try clear hfz10_1
     try clear hfz10_2
     try clear hfz10_3
     try clear hfz10_4
     try clear hfz10_5
     try clear hfz10_6
     try clear hfz5_0
     try clear hfz5_1
     try clear hfz5_2
     try clear hfz5_3
     try clear hfz5_4
     try clear hfz5_5
     try clear hfz5_6
     try clear hfz8_0
     try clear hfz8_1
     try clear hfz8_2
     try clear hfz8_3
     try clear hfz8_4
     try clear hfz8_5
     try clear hfz8_6
     try clear p2
     obtain ⟨x3_2, x26_2, rfl, HA, HK2, HO_3, HO_5, HO_6, HO_7, BK306, HB⟩ := hrel
     cases gk with
     | zero => exact absurd HA.out (by simp [impl_Circuit_links.l1])
     | succ k2 =>
      have H := HA.out
      clear HA
      simp only [impl_Circuit_links.l1] at H
      by_cases c11 : x26_2 < (l0_2.length : Int)
      ·rw [if_pos c11] at H
       have c11b0 : decide (x26_2 < (l0_2.length : Int)) = true := decide_eq_true c11
       clear c11
       by_cases c12 : 0 ≤ x26_2
       case neg => rw [if_neg c12] at H; exact absurd H (by simp)
       rw [if_pos c12] at H
       have c12b0 : decide (0 ≤ x26_2) = true := decide_eq_true c12
       clear c12
       by_cases c13 : x26_2 < (l0_2.length : Int)
       case neg => rw [if_neg c13] at H; exact absurd H (by simp)
       rw [if_pos c13] at H
       have c13b0 : decide (x26_2 < (l0_2.length : Int)) = true := decide_eq_true c13
       clear c13
       by_cases c14 : 0 ≤ (rd l0_2 x26_2)
       case neg => rw [if_neg c14] at H; exact absurd H (by simp)
       rw [if_pos c14] at H
       have c14b0 : decide (0 ≤ (rd l0_2 x26_2)) = true := decide_eq_true c14
       clear c14
       by_cases c15 : (rd l0_2 x26_2) < (t316.length : Int)
       case neg => rw [if_neg c15] at H; exact absurd H (by simp)
       rw [if_pos c15] at H
       have c15b0 : decide ((rd l0_2 x26_2) < (t316.length : Int)) = true := decide_eq_true c15
       clear c15
       obtain ⟨bq16, hbq16⟩ : ∃ b_ : Bool, b_ = (rdOf false t316 (rd l0_2 x26_2)) := ⟨_, rfl⟩
       rw [← hbq16] at H
       have Nbq16 := Aside0.mk hbq16
       clear hbq16
       by_cases c17 : bq16 = true
       ·subst c17
        rw [if_pos rfl] at H
        by_cases c18 : (rd l0_2 x26_2) < (t310.length : Int)
        case neg => rw [if_neg c18] at H; exact absurd H (by simp)
        rw [if_pos c18] at H
        have c18b0 : decide ((rd l0_2 x26_2) < (t310.length : Int)) = true := decide_eq_true c18
        clear c18
        by_cases c19 : (rd l0_2 x26_2) < (t313.length : Int)
        case neg => rw [if_neg c19] at H; exact absurd H (by simp)
        rw [if_pos c19] at H
        have c19b0 : decide ((rd l0_2 x26_2) < (t313.length : Int)) = true := decide_eq_true c19
        clear c19
        by_cases c20 : x3_2.length < 4398046511104
        case neg => rw [if_neg c20] at H; exact absurd H (by simp)
        rw [if_pos c20] at H
        have LMc20 := Aside0.mk c20
        clear c20
        obtain ⟨y323, hy323⟩ : ∃ y_ : List (S72), y_ = (x3_2 ++ [(⟨x13_1, x26_2, wrap64 ((rd t310 (rd l0_2 x26_2)) + a0_5), wrap64 ((rd t313 (rd l0_2 x26_2)) + a0_6)⟩ : S72)]) := ⟨_, rfl⟩
        (try rw [Option.bind_some] at H); try rw [← hy323] at H
        have Ny323 := Aside0.mk hy323
        clear hy323
        have H' := Aside0.mk H
        clear H
        have p319 : 0 ≤ (x26_2 : Int) := of_decide_eq_true (by with_reducible assumption)
        have q319 : x26_2 < (l0_2.length : Int) := of_decide_eq_true (by with_reducible assumption)
        obtain ⟨ad319, e319, hx319_0⟩ := Kd.at_int HR0_2.out x26_2 p319 q319
        cases e319
        replace hx319_0 := (HB.out.cell (World.block_lt_of_cell? w _ hx319_0)).trans hx319_0
        replace p319 := eq_true p319
        replace q319 := eq_true q319
        obtain ⟨Ao21, co21, eo21⟩ := Kd.R_slice HO_7.out
        subst eo21
        have p320 : 0 ≤ ((rd l0_2 x26_2) : Int) := of_decide_eq_true (by with_reducible assumption)
        have q320 : (rd l0_2 x26_2) < (t316.length : Int) := of_decide_eq_true (by with_reducible assumption)
        obtain ⟨ad320, e320, hx320_0⟩ := Kd.at_bool (Kd.R_reads' HO_7.out).2.2 (rd l0_2 x26_2) p320 q320
        (try rw [← Nbq16.out] at hx320_0)
        cases e320
        replace p320 := eq_true p320
        replace q320 := eq_true q320
        try go_wp2
        have n0_ := Aside0.mk (Kd.R_drew HO_3.out)
        have n1_ := Aside0.mk (Kd.R_drew HO_5.out)
        have n2_ := Aside0.mk (Kd.R_drew HO_6.out)
        have n3_ := Aside0.mk (Kd.R_drew HO_7.out)
        have n4_ := Aside0.mk (blk_drew BK306.out)
        have n5_ := Aside0.mk (below_drew1 HB.out)
        clear HO_3
        clear HO_5
        clear HO_6
        clear HO_7
        clear BK306
        clear HB
        have HO_3 := n0_
        have HO_5 := n1_
        have HO_6 := n2_
        have HO_7 := n3_
        have BK306 := n4_
        have HB := n5_
        clear n0_ n1_ n2_ n3_ n4_ n5_
        obtain ⟨Ao23, co23, eo23⟩ := Kd.R_slice HO_5.out
        (first | subst eo23 | (injection eo23 with f1_ f2_ f3_; have f4_ := f1_.symm; have f5_ := f3_.symm; clear f1_ f2_ f3_; subst f4_; subst f5_))
        have p321 : 0 ≤ ((rd l0_2 x26_2) : Int) := of_decide_eq_true (by with_reducible assumption)
        have q321 : (rd l0_2 x26_2) < (t310.length : Int) := of_decide_eq_true (by with_reducible assumption)
        obtain ⟨ad321, e321, hx321_0⟩ := Kd.at_int (Kd.R_reads' HO_5.out).2.2 (rd l0_2 x26_2) p321 q321
        cases e321
        replace p321 := eq_true p321
        replace q321 := eq_true q321
        obtain ⟨Ao24, co24, eo24⟩ := Kd.R_slice HO_6.out
        (first | subst eo24 | (injection eo24 with f1_ f2_ f3_; have f4_ := f1_.symm; have f5_ := f3_.symm; clear f1_ f2_ f3_; subst f4_; subst f5_))
        have p322 : 0 ≤ ((rd l0_2 x26_2) : Int) := of_decide_eq_true (by with_reducible assumption)
        have q322 : (rd l0_2 x26_2) < (t313.length : Int) := of_decide_eq_true (by with_reducible assumption)
        obtain ⟨ad322, e322, hx322_0⟩ := Kd.at_int (Kd.R_reads' HO_6.out).2.2 (rd l0_2 x26_2) p322 q322
        cases e322
        replace p322 := eq_true p322
        replace q322 := eq_true q322
        refine start_ (n := 21) (S := fun w' => w'.cell? ⟨gb306, 0, none⟩ = some (.int .i64 a0_0) ∧ w'.cell? ⟨gb306, 1, none⟩ = some (.slice A0_1 l0_1.length c0_1) ∧ w'.cell? ⟨gb306, 2, none⟩ = some (.slice (some ad319) l0_2.length c0_2) ∧ w'.cell? ⟨gb306, 3, none⟩ = some (.int .i64 a0_3) ∧ w'.cell? ⟨gb306, 4, none⟩ = some (.int .i64 a0_4) ∧ w'.cell? ⟨gb306, 5, none⟩ = some (.int .i64 a0_5) ∧ w'.cell? ⟨gb306, 6, none⟩ = some (.int .i64 a0_6) ∧ w'.cell? (ad321.add ((rd l0_2 x26_2)).toNat) = some (.int .i64 (rd t310 (rd l0_2 x26_2))) ∧ w'.cell? (ad322.add ((rd l0_2 x26_2)).toNat) = some (.int .i64 (rd t313 (rd l0_2 x26_2)))) (ds := [18, 19]) #[false, false, false, false, false, false, false, false, false, false, false, false, false, false, false, false, false, false, false, false, false] (by kernel_rfl) rfl rfl ⟨(blk_cell BK306.out 0).trans rfl, (blk_cell BK306.out 1).trans rfl, (blk_cell BK306.out 2).trans rfl, (blk_cell BK306.out 3).trans rfl, (blk_cell BK306.out 4).trans rfl, (blk_cell BK306.out 5).trans rfl, (blk_cell BK306.out 6).trans rfl, hx321_0, hx322_0⟩ (fun hHeld => ?_); refine with_tabW impl_Circuit_links.tab10 impl_Circuit_links.bits10 (fun HT_ HW_ => ?_)
        generalize wr.drew = w22 at HO_3 HO_5 HO_6 HO_7 BK306 HB hx321_0 hx322_0 hHeld ⊢
        refine pure_ (i := 0) (N := some 35) (v := ?_) (a' := ?_) #[true, false, false, false, false, false, false, false, false, false, false, false, false, false, false, false, false, false, false, false, false] rfl rfl (any_of HT_.out (by kernel_rfl)) (fun _ _ _ h => h) (Or.inl ⟨by rfl, ?_⟩) ?_ ?_
        rotate_left
        ·intro w'
         go_simp
         with_reducible rfl
        rotate_left
        ·simp only [Act.put, List.setIfInBounds_toArray, List.set_cons_zero, List.set_cons_succ, i64_w, i32_w]
         rfl
        refine pure_ (i := 1) (N := some 36) (v := ?_) (a' := ?_) #[true, true, false, false, false, false, false, false, false, false, false, false, false, false, false, false, false, false, false, false, false] rfl rfl (any_of HT_.out (by kernel_rfl)) (fun _ _ _ h => h) (Or.inl ⟨by rfl, ?_⟩) ?_ ?_
        rotate_left
        ·intro w'
         go_simp
         with_reducible rfl
        rotate_left
        ·simp only [Act.put, List.setIfInBounds_toArray, List.set_cons_zero, List.set_cons_succ, i64_w, i32_w]
         rfl
        refine pure_ (i := 2) (N := some 37) (v := ?_) (a' := ?_) #[true, true, true, false, false, false, false, false, false, false, false, false, false, false, false, false, false, false, false, false, false] rfl rfl (any_of HT_.out (by kernel_rfl)) (fun _ _ _ h => h) (Or.inl ⟨by rfl, ?_⟩) ?_ ?_
        rotate_left
        ·intro w'
         go_simp
         with_reducible rfl
        rotate_left
        ·simp only [Act.put, List.setIfInBounds_toArray, List.set_cons_zero, List.set_cons_succ, i64_w, i32_w]
         rfl
        refine pure_ (i := 3) (N := some 38) (v := ?_) (a' := ?_) #[true, true, true, true, false, false, false, false, false, false, false, false, false, false, false, false, false, false, false, false, false] rfl rfl (any_of HT_.out (by kernel_rfl)) (fun _ _ _ h => h) (Or.inl ⟨by rfl, ?_⟩) ?_ ?_
        rotate_left
        ·intro w'
         go_simp
         with_reducible rfl
        rotate_left
        ·simp only [Act.put, List.setIfInBounds_toArray, List.set_cons_zero, List.set_cons_succ, i64_w, i32_w]
         rfl
        refine pure_ (i := 4) (N := some 39) (v := ?_) (a' := ?_) #[true, true, true, true, true, false, false, false, false, false, false, false, false, false, false, false, false, false, false, false, false] rfl rfl (any_of HT_.out (by kernel_rfl)) (fun _ _ _ h => h) (Or.inl ⟨by rfl, ?_⟩) ?_ ?_
        rotate_left
        ·intro w'
         go_simp
         with_reducible rfl
        rotate_left
        ·simp only [Act.put, List.setIfInBounds_toArray, List.set_cons_zero, List.set_cons_succ, i64_w, i32_w]
         rfl
        refine pure_ (i := 5) (N := some 40) (v := ?_) (a' := ?_) #[true, true, true, true, true, true, false, false, false, false, false, false, false, false, false, false, false, false, false, false, false] rfl rfl (any_of HT_.out (by kernel_rfl)) (fun _ _ _ h => h) (Or.inl ⟨by rfl, ?_⟩) ?_ ?_
        rotate_left
        ·intro w'
         go_simp
         with_reducible rfl
        rotate_left
        ·simp only [Act.put, List.setIfInBounds_toArray, List.set_cons_zero, List.set_cons_succ, i64_w, i32_w]
         rfl
        refine pure_ (i := 7) (N := some 42) (v := ?_) (a' := ?_) #[true, true, true, true, true, true, false, true, false, false, false, false, false, false, false, false, false, false, false, false, false] rfl rfl (any_of HT_.out (by kernel_rfl)) (fun _ _ _ h => h) (Or.inl ⟨by rfl, ?_⟩) ?_ ?_
        rotate_left
        ·intro w'
         go_simp
         with_reducible rfl
        rotate_left
        ·simp only [Act.put, List.setIfInBounds_toArray, List.set_cons_zero, List.set_cons_succ, i64_w, i32_w]
         rfl
        refine pure_ (i := 10) (N := some 45) (v := ?_) (a' := ?_) #[true, true, true, true, true, true, false, true, false, false, true, false, false, false, false, false, false, false, false, false, false] rfl rfl (any_of HT_.out (by kernel_rfl)) (fun _ _ _ h => h) (Or.inl ⟨by rfl, ?_⟩) ?_ ?_
        rotate_left
        ·intro w'
         go_simp
         with_reducible rfl
        rotate_left
        ·simp only [Act.put, List.setIfInBounds_toArray, List.set_cons_zero, List.set_cons_succ, i64_w, i32_w]
         rfl
        refine pure_ (i := 11) (N := some 46) (v := ?_) (a' := ?_) #[true, true, true, true, true, true, false, true, false, false, true, true, false, false, false, false, false, false, false, false, false] rfl rfl (any_of HT_.out (by kernel_rfl)) (fun _ _ _ h => h) (Or.inl ⟨by rfl, ?_⟩) ?_ ?_
        rotate_left
        ·intro w'
         go_simp
         with_reducible rfl
        rotate_left
        ·simp only [Act.put, List.setIfInBounds_toArray, List.set_cons_zero, List.set_cons_succ, i64_w, i32_w]
         rfl
        refine pure_ (i := 12) (N := some 47) (v := ?_) (a' := ?_) #[true, true, true, true, true, true, false, true, false, false, true, true, true, false, false, false, false, false, false, false, false] rfl rfl (any_of HT_.out (by kernel_rfl)) (fun _ _ _ h => h) (Or.inl ⟨by rfl, ?_⟩) ?_ ?_
        rotate_left
        ·intro w'
         go_simp
         with_reducible rfl
        rotate_left
        ·simp only [Act.put, List.setIfInBounds_toArray, List.set_cons_zero, List.set_cons_succ, i64_w, i32_w]
         rfl
        refine pure_ (i := 14) (N := some 49) (v := ?_) (a' := ?_) #[true, true, true, true, true, true, false, true, false, false, true, true, true, false, true, false, false, false, false, false, false] rfl rfl (any_of HT_.out (by kernel_rfl)) (fun _ _ _ h => h) (Or.inl ⟨by rfl, ?_⟩) ?_ ?_
        rotate_left
        ·intro w'
         go_simp
         with_reducible rfl
        rotate_left
        ·simp only [Act.put, List.setIfInBounds_toArray, List.set_cons_zero, List.set_cons_succ, i64_w, i32_w]
         rfl
        refine take_ (i := 6) (N := some 41) (v := ?_) (a' := ?_) #[true, true, true, true, true, true, true, true, false, false, true, true, true, false, true, false, false, false, false, false, false] rfl rfl (take_ofW HT_.out HW_.out (by kernel_rfl)) (fun _ _ _ h => h) (Or.inl ⟨by rfl, ?_⟩) hHeld ?_ ?_
        rotate_left
        ·rintro w' ⟨s0, s1, s2, s3, s4, s5, s6, s7, s8⟩
         go_simp
         with_reducible rfl
        rotate_left
        ·simp only [Act.put, List.setIfInBounds_toArray, List.set_cons_zero, List.set_cons_succ, i64_w, i32_w]
         rfl
        refine take_ (i := 8) (N := some 43) (v := ?_) (a' := ?_) #[true, true, true, true, true, true, true, true, true, false, true, true, true, false, true, false, false, false, false, false, false] rfl rfl (take_ofW HT_.out HW_.out (by kernel_rfl)) (fun _ _ _ h => h) (Or.inl ⟨by rfl, ?_⟩) hHeld ?_ ?_
        rotate_left
        ·rintro w' ⟨s0, s1, s2, s3, s4, s5, s6, s7, s8⟩
         go_simp
         with_reducible rfl
        rotate_left
        ·simp only [Act.put, List.setIfInBounds_toArray, List.set_cons_zero, List.set_cons_succ, i64_w, i32_w]
         rfl
        refine pure_ (i := 9) (N := some 44) (v := ?_) (a' := ?_) #[true, true, true, true, true, true, true, true, true, true, true, true, true, false, true, false, false, false, false, false, false] rfl rfl (any_of HT_.out (by kernel_rfl)) (fun _ _ _ h => h) (Or.inl ⟨by rfl, ?_⟩) ?_ ?_
        rotate_left
        ·intro w'
         go_simp
         with_reducible rfl
        rotate_left
        ·simp only [Act.put, List.setIfInBounds_toArray, List.set_cons_zero, List.set_cons_succ, i64_w, i32_w]
         rfl
        refine take_ (i := 13) (N := some 48) (v := ?_) (a' := ?_) #[true, true, true, true, true, true, true, true, true, true, true, true, true, true, true, false, false, false, false, false, false] rfl rfl (take_ofW HT_.out HW_.out (by kernel_rfl)) (fun _ _ _ h => h) (Or.inl ⟨by rfl, ?_⟩) hHeld ?_ ?_
        rotate_left
        ·rintro w' ⟨s0, s1, s2, s3, s4, s5, s6, s7, s8⟩
         go_simp
         with_reducible rfl
        rotate_left
        ·simp only [Act.put, List.setIfInBounds_toArray, List.set_cons_zero, List.set_cons_succ, i64_w, i32_w]
         rfl
        refine take_ (i := 15) (N := some 50) (v := ?_) (a' := ?_) #[true, true, true, true, true, true, true, true, true, true, true, true, true, true, true, true, false, false, false, false, false] rfl rfl (take_ofW HT_.out HW_.out (by kernel_rfl)) (fun _ _ _ h => h) (Or.inl ⟨by rfl, ?_⟩) hHeld ?_ ?_
        rotate_left
        ·rintro w' ⟨s0, s1, s2, s3, s4, s5, s6, s7, s8⟩
         go_simp
         with_reducible rfl
        rotate_left
        ·simp only [Act.put, List.setIfInBounds_toArray, List.set_cons_zero, List.set_cons_succ, i64_w, i32_w]
         rfl
        refine pure_ (i := 16) (N := some 51) (v := ?_) (a' := ?_) #[true, true, true, true, true, true, true, true, true, true, true, true, true, true, true, true, true, false, false, false, false] rfl rfl (any_of HT_.out (by kernel_rfl)) (fun _ _ _ h => h) (Or.inl ⟨by rfl, ?_⟩) ?_ ?_
        rotate_left
        ·intro w'
         go_simp
         with_reducible rfl
        rotate_left
        ·simp only [Act.put, List.setIfInBounds_toArray, List.set_cons_zero, List.set_cons_succ, i64_w, i32_w]
         rfl
        refine pure_ (i := 17) (N := some 52) (v := ?_) (a' := ?_) #[true, true, true, true, true, true, true, true, true, true, true, true, true, true, true, true, true, true, false, false, false] rfl rfl (any_of HT_.out (by kernel_rfl)) (fun _ _ _ h => h) (Or.inl ⟨by rfl, ?_⟩) ?_ ?_
        rotate_left
        ·intro w'
         go_simp
         with_reducible rfl
        rotate_left
        ·simp only [Act.put, List.setIfInBounds_toArray, List.set_cons_zero, List.set_cons_succ, i64_w, i32_w]
         rfl
        refine last_ (i := 18) (N := some 53) #[true, true, true, true, true, true, true, true, true, true, true, true, true, true, true, true, true, true, true, false, false] rfl rfl (one_of HT_.out (by kernel_rfl)) (by decide) (fun K hK => ?_)
        refine value_ (w1 := ?_) (v := ?_) (by rfl) rfl ?_ ?_
        rotate_left 2
        ·go_simp
         constructor
         ·rfl
         ·rfl
        refine hK.out _ _ ?_
        clear hK K
        refine norm_ (a' := ?_) ?_ ?_
        rotate_left
        ·show Act.put _ (some 53) _ = _
         simp only [Act.put, List.setIfInBounds_toArray, List.set_cons_zero, List.set_cons_succ, i64_w, i32_w]
         rfl
        refine last_ (i := 19) (N := some 54) #[true, true, true, true, true, true, true, true, true, true, true, true, true, true, true, true, true, true, true, true, false] rfl rfl (one_of HT_.out (by kernel_rfl)) (by decide) (fun K hK => ?_)
        refine Kd.R_append_step k72 (w0 := w) w.heap.size (by rfl) (.tmp 35) (.tmp 53) 69 72 (.agg #[(.int .i64 0), (.int .i64 0), (.int .i64 0), (.int .i64 0)]) 32 rfl Try.underlying69 info72 rfl (by decide) (by omega) u3 x3_2 (⟨x13_1, x26_2, wrap64 ((rd t310 (rd l0_2 x26_2)) + a0_5), wrap64 ((rd t313 (rd l0_2 x26_2)) + a0_6)⟩ : S72) [.int .i64 x13_1, .int .i64 x26_2, .int .i64 (wrap64 ((rd t310 (rd l0_2 x26_2)) + a0_5)), .int .i64 (wrap64 ((rd t313 (rd l0_2 x26_2)) + a0_6))] (fun _ => True) (fun _ => False) rfl rfl ?aP (fun _ hk => hk.elim) ?aF ?aO ?aB ?aS ?aL ?_
        (case aP => exact k72_mkM _ _ _ (⟨x13_1, x26_2, wrap64 ((rd t310 (rd l0_2 x26_2)) + a0_5), wrap64 ((rd t313 (rd l0_2 x26_2)) + a0_6)⟩ : S72))
        (case aB => exact (by with_reducible repeat (first | exact HB.out | apply below_alloc | apply pw_below_drewN | apply below_drew1 | refine below_set ?_ GE306.out)))
        (case aF => exact (fun _ _ => trivial))
        (case aO => exact (by (with_reducible repeat (first | apply Kd.R_alloc | apply Kd.R_drewN | apply Kd.R_drew)); exact HO_3.out))
        (case aS => exact (below_size (by with_reducible repeat (first | exact HB.out | apply below_alloc | apply pw_below_drewN | apply below_drew1 | refine below_set ?_ GE306.out))))
        (case aL => have := LMc20.out; omega)
        intro v324 w25 ho hb hg hat
        rw [← Ny323.out] at ho
        have n0_ := Aside0.mk (Kd.R_over' (by (with_reducible repeat (first | apply Kd.R_alloc | apply Kd.R_drewN | apply Kd.R_drew)); exact HO_5.out) (Kd.R_typed (by (with_reducible repeat (first | apply Kd.R_alloc | apply Kd.R_drewN | apply Kd.R_drew)); exact HO_3.out)) (by decide) hg)
        have n1_ := Aside0.mk (Kd.R_over' (by (with_reducible repeat (first | apply Kd.R_alloc | apply Kd.R_drewN | apply Kd.R_drew)); exact HO_6.out) (Kd.R_typed (by (with_reducible repeat (first | apply Kd.R_alloc | apply Kd.R_drewN | apply Kd.R_drew)); exact HO_3.out)) (by decide) hg)
        have n2_ := Aside0.mk (Kd.R_over' (by (with_reducible repeat (first | apply Kd.R_alloc | apply Kd.R_drewN | apply Kd.R_drew)); exact HO_7.out) (Kd.R_typed (by (with_reducible repeat (first | apply Kd.R_alloc | apply Kd.R_drewN | apply Kd.R_drew)); exact HO_3.out)) (by decide) hg)
        have n3_ := Aside0.mk (blk_grown (g := gb306) (by (with_reducible repeat (first | refine blk_drewN ?_ _ | refine blk_drew ?_ | refine blk_alloc ?_ _)); exact BK306.out) hg (Kd.R_ne HO_3.out BK306.out (by decide)))
        have n4_ := Aside0.mk (hb)
        have n5_ := Aside0.mk (ho)
        clear HO_5
        clear HO_6
        clear HO_7
        clear BK306
        clear HB
        clear HO_3
        have HO_5 := n0_
        have HO_6 := n1_
        have HO_7 := n2_
        have BK306 := n3_
        have HB := n4_
        have HO325 := n5_
        clear n0_ n1_ n2_ n3_ n4_ n5_
        clear ho hb hg hat
        refine hK.out _ _ ?_
        clear hK K
        refine norm_ (a' := ?_) ?_ ?_
        rotate_left
        ·show Act.put _ (some 54) _ = _
         simp only [Act.put, List.setIfInBounds_toArray, List.set_cons_zero, List.set_cons_succ, i64_w, i32_w]
         rfl
        refine pure_ (i := 20) (N := some 3) (v := ?_) (a' := ?_) #[true, true, true, true, true, true, true, true, true, true, true, true, true, true, true, true, true, true, true, true, true] rfl rfl (any_of HT_.out (by kernel_rfl)) (fun _ _ _ h => h) (Or.inl ⟨by rfl, ?_⟩) ?_ ?_
        rotate_left
        ·intro w'
         go_simp
         with_reducible rfl
        rotate_left
        ·simp only [Act.put, List.setIfInBounds_toArray, List.set_cons_zero, List.set_cons_succ, i64_w, i32_w]
         rfl
        refine done_ (done_of HT_.out (by kernel_rfl)) ?_
        try go_wp2
        go_roundg k2
        case measure => have := HK1.out; have := HK2.out; omega
        case rel => exact ⟨(y323), (wrap64 (x26_2 + 1)), (by first | rfl | (simp; done) | (simp [*]; done)), H', ⟨by have := HK1.out; have := HK2.out; omega⟩, ⟨by (with_reducible repeat (first | apply Kd.R_alloc | apply Kd.R_drewN | apply Kd.R_drew)); exact HO325.out⟩, ⟨by (with_reducible repeat (first | apply Kd.R_alloc | apply Kd.R_drewN | apply Kd.R_drew)); exact HO_5.out⟩, ⟨by (with_reducible repeat (first | apply Kd.R_alloc | apply Kd.R_drewN | apply Kd.R_drew)); exact HO_6.out⟩, ⟨by (with_reducible repeat (first | apply Kd.R_alloc | apply Kd.R_drewN | apply Kd.R_drew)); exact HO_7.out⟩, ⟨by (with_reducible repeat (first | refine blk_drewN ?_ _ | refine blk_drew ?_ | refine blk_alloc ?_ _)); exact BK306.out⟩, ⟨by with_reducible repeat (first | exact HB.out | apply below_alloc | apply pw_below_drewN | apply below_drew1 | refine below_set ?_ GE306.out)⟩⟩
       ·replace c17 := Bool.eq_false_iff.mpr c17
        subst c17
        rw [if_neg (by decide)] at H
        have H' := Aside0.mk H
        clear H
        have p319 : 0 ≤ (x26_2 : Int) := of_decide_eq_true (by with_reducible assumption)
        have q319 : x26_2 < (l0_2.length : Int) := of_decide_eq_true (by with_reducible assumption)
        obtain ⟨ad319, e319, hx319_0⟩ := Kd.at_int HR0_2.out x26_2 p319 q319
        cases e319
        replace hx319_0 := (HB.out.cell (World.block_lt_of_cell? w _ hx319_0)).trans hx319_0
        replace p319 := eq_true p319
        replace q319 := eq_true q319
        obtain ⟨Ao26, co26, eo26⟩ := Kd.R_slice HO_7.out
        subst eo26
        have p320 : 0 ≤ ((rd l0_2 x26_2) : Int) := of_decide_eq_true (by with_reducible assumption)
        have q320 : (rd l0_2 x26_2) < (t316.length : Int) := of_decide_eq_true (by with_reducible assumption)
        obtain ⟨ad320, e320, hx320_0⟩ := Kd.at_bool (Kd.R_reads' HO_7.out).2.2 (rd l0_2 x26_2) p320 q320
        (try rw [← Nbq16.out] at hx320_0)
        cases e320
        replace p320 := eq_true p320
        replace q320 := eq_true q320
        go_wp2
        go_roundg k2
        case measure => have := HK1.out; have := HK2.out; omega
        case rel => exact ⟨(x3_2), (wrap64 (x26_2 + 1)), (by first | rfl | (simp; done) | (simp [*]; done)), H', ⟨by have := HK1.out; have := HK2.out; omega⟩, ⟨by (with_reducible repeat (first | apply Kd.R_alloc | apply Kd.R_drewN | apply Kd.R_drew)); exact HO_3.out⟩, ⟨by (with_reducible repeat (first | apply Kd.R_alloc | apply Kd.R_drewN | apply Kd.R_drew)); exact HO_5.out⟩, ⟨by (with_reducible repeat (first | apply Kd.R_alloc | apply Kd.R_drewN | apply Kd.R_drew)); exact HO_6.out⟩, ⟨by (with_reducible repeat (first | apply Kd.R_alloc | apply Kd.R_drewN | apply Kd.R_drew)); exact HO_7.out⟩, ⟨by (with_reducible repeat (first | refine blk_drewN ?_ _ | refine blk_drew ?_ | refine blk_alloc ?_ _)); exact BK306.out⟩, ⟨by with_reducible repeat (first | exact HB.out | apply below_alloc | apply pw_below_drewN | apply below_drew1 | refine below_set ?_ GE306.out)⟩⟩
      ·rw [if_neg c11] at H
       have c11b0 : decide (x26_2 < (l0_2.length : Int)) = false := decide_eq_false c11
       clear c11
       have H' := Aside0.mk H
       clear H
       go_wp2
       go_roundg k2
       case measure => have := HK1.out; have := HK2.out; omega
       case rel => exact ⟨(x3_2), (wrap64 (x13_1 + 1)), (by first | rfl | (simp; done) | (simp [*]; done)), H', ⟨by have := HK1.out; have := HK2.out; omega⟩, ⟨by (with_reducible repeat (first | apply Kd.R_alloc | apply Kd.R_drewN | apply Kd.R_drew)); exact HO_3.out⟩, ⟨by (with_reducible repeat (first | refine blk_drewN ?_ _ | refine blk_drew ?_ | refine blk_alloc ?_ _)); exact BK306.out⟩, ⟨by with_reducible repeat (first | exact HB.out | apply below_alloc | apply pw_below_drewN | apply below_drew1 | refine below_set ?_ GE306.out)⟩⟩
   ·rw [if_neg c6] at H
    have c6b0 : decide (x13_1 < a0_0) = false := decide_eq_false c6
    clear c6
    obtain rfl := Option.some.inj H
    go_wp2
    go_ret
    exact ⟨_, by first | rfl | (simp [errW_none, errW_some] <;> rfl) | (simp [*, errW_none, errW_some] <;> rfl), by (with_reducible repeat (first | apply Kd.R_alloc | apply Kd.R_drewN | apply Kd.R_drew)); exact HO_3.out, by with_reducible repeat (first | exact HB.out | apply below_alloc | apply pw_below_drewN | apply below_drew1 | refine below_set ?_ GE306.out)⟩

end Go.Proofs.Ytalafmahgeejiaa.Pa

/- The program's delays from a register to each node, and its links. -/
namespace Go.Proofs.Ytalafmahgeejiaa.Pure
open Go.RowKit Go.Proofs.Ytalafmahgeejiaa.Pa Go.Proofs.YtalafmahgeejiaaW.PrintWords Go.Proofs.YtalafmahgeejiaaW.PrintLast
set_option linter.unusedVariables false
set_option linter.unusedSimpArgs false

/-- Three rows of so many cells tell a table. -/
structure Rel (N : Nat) (t : List Way) (L M : List Int) (R : List Bool) : Prop where
 l : L.length = N
 m : M.length = N
 r : R.length = N
 no : ∀ v : Nat, v < N → t.getD v none = none → R.getD v false = false
 yes : ∀ v : Nat, v < N → ∀ p, t.getD v none = some p → R.getD v false = true ∧ L.getD v 0 = p.1 ∧ M.getD v 0 = p.2
theorem rdOf_nat {x : Int} (h : 0 ≤ x) (R : List Bool) : rdOf false R x = R.getD x.toNat false := by
 unfold rdOf
 rfl
theorem rd_nat (l : List Int) (x : Int) : rd l x = l.getD x.toNat 0 := rfl
theorem getD_snoc_lt {α : Type} {t : List α} {v : α} {z : α} {i : Nat} (h : i < t.length) : (t ++ [v]).getD i z = t.getD i z := by
 rw [List.getD_eq_getElem?_getD, List.getD_eq_getElem?_getD, List.getElem?_append_left h]
theorem getD_snoc_eq {α : Type} {t : List α} {v : α} {z : α} : (t ++ [v]).getD t.length z = v := by
 rw [List.getD_eq_getElem?_getD, List.getElem?_append_right (Nat.le_refl _)]
 simp
theorem getD_snoc_gt {α : Type} {t : List α} {v : α} {z : α} {i : Nat} (h : t.length < i) : (t ++ [v]).getD i z = z := by
 rw [List.getD_eq_getElem?_getD, List.getElem?_eq_none (by simp; omega)]
 rfl
theorem getD_over {α : Type} {t : List α} {z : α} {i : Nat} (h : t.length ≤ i) : t.getD i z = z := by
 rw [List.getD_eq_getElem?_getD, List.getElem?_eq_none h]
 rfl
theorem getD_set {α : Type} {l : List α} {i j : Nat} {v z : α} (h : i < l.length) : (l.set i v).getD j z = if i = j then v else l.getD j z := by
 rw [List.getD_eq_getElem?_getD, List.getD_eq_getElem?_getD, List.getElem?_set]
 split
 ·simp [h]
 ·rfl
theorem Rel.none {N : Nat} {t : List Way} {L M : List Int} {R : List Bool} (h : Rel N t L M R) : Rel N (t ++ [none]) L M R := by
 have e : ∀ v : Nat, (t ++ [Option.none]).getD v Option.none = t.getD v Option.none := by
  intro v
  rcases Nat.lt_trichotomy v t.length with hv | hv | hv
  ·exact getD_snoc_lt hv
  ·subst hv
   rw [getD_snoc_eq, getD_over (Nat.le_refl _)]
  ·rw [getD_snoc_gt hv, getD_over (by omega)]
 exact ⟨h.l, h.m, h.r, fun v hv ht => h.no v hv (by rw [← e]; exact ht), fun v hv p ht => h.yes v hv p (by rw [← e]; exact ht)⟩
theorem mn_def (a b : Int) : mn a b = if b < a then b else a := rfl
theorem mx_def (a b : Int) : mx a b = if a < b then b else a := rfl
/-- A node's entry is written anew. -/
theorem Rel.put {N : Nat} {t : List Way} {acc : Way} {L M : List Int} {R : List Bool} (h : Rel N (t ++ [acc]) L M R) (ht : t.length < N) (a b : Int) : Rel N (t ++ [some (a, b)]) (L.set t.length a) (M.set t.length b) (R.set t.length true) := by
 have hl := h.l
 have hm := h.m
 have hr := h.r
 refine ⟨by simpa using hl, by simpa using hm, by simpa using hr, fun v hv hn => ?_, fun v hv p hp => ?_⟩
 ·rcases Nat.lt_trichotomy v t.length with hvt | hvt | hvt
  ·rw [getD_set (by omega), if_neg (by omega)]
   rw [getD_snoc_lt hvt] at hn
   exact h.no v hv (by rw [getD_snoc_lt hvt]; exact hn)
  ·subst hvt
   rw [getD_snoc_eq] at hn
   simp at hn
  ·rw [getD_set (by omega), if_neg (by omega)]
   exact h.no v hv (getD_snoc_gt hvt)
 ·rcases Nat.lt_trichotomy v t.length with hvt | hvt | hvt
  ·rw [getD_set (by omega), getD_set (by omega), getD_set (by omega), if_neg (by omega), if_neg (by omega), if_neg (by omega)]
   rw [getD_snoc_lt hvt] at hp
   exact h.yes v hv p (by rw [getD_snoc_lt hvt]; exact hp)
  ·subst hvt
   rw [getD_snoc_eq] at hp
   rw [getD_set (by omega), getD_set (by omega), getD_set (by omega), if_pos rfl, if_pos rfl, if_pos rfl]
   simp only [Option.some.injEq] at hp
   subst hp
   exact ⟨rfl, rfl, rfl⟩
  ·rw [getD_snoc_gt hvt] at hp
   simp at hp
theorem set_same {l : List Bool} {i : Nat} (h : l.getD i false = true) : l.set i true = l := by
 apply List.ext_getElem?
 intro j
 rw [List.getElem?_set]
 split
 ·rename_i e
  subst e
  rw [List.getD_eq_getElem?_getD] at h
  cases hg : l[i]? with
  | none => rw [hg] at h; simp at h
  | some b =>
   rw [hg] at h
   simp only [Option.getD_some] at h
   have := (List.getElem?_eq_some_iff.mp hg).1
   rw [if_pos this, h]
 ·rfl
theorem delays_l1 (n a3 a4 a5 a6 : Int) (gates : List S62) (data : List Int) (i : Nat) (hi' : i < gates.length) (C : Gates n gates)
  (t : List Way) (m : Int) (hm : m ≤ 10000) (ht : ∀ v ∈ t, Bd m v) (htl : (t.length : Int) = n + i) (N : Nat) (hN : t.length < N) (d : Nat) :
  ∀ (j : Nat) (acc : Way) (L M : List Int) (R : List Bool), j + d = gates[i].f2.length → Bd (m + 100) acc → Rel N (t ++ [acc]) L M R →
  ∃ L' M' R', Rel N (t ++ [joins gates[i] t acc (gates[i].f2.drop j)]) L' M' R' ∧ ∀ r, Ev (fun k => impl_Circuit_delays.l0 k L' M' R' gates (gates.length : Int) ((i : Int) + 1) n gates data a3 a4 a5 a6) r →
  Ev (fun k => impl_Circuit_delays.l1 k L M R (n + (i : Int)) gates (gates.length : Int) (i : Int) gates[i].f2 (gates[i].f2.length : Int) (j : Int) n gates data a3 a4 a5 a6 gates[i].f0 gates[i].f1 gates[i].f2) r := by
 have hc := C.n0
 have hc1 := C.n1
 have hcl := C.len
 have hg := C.gate i hi'
 have hwide := C.wide i hi'
 induction d with
 | zero =>
  intro j acc L M R h hb hR
  rw [List.drop_of_length_le (by omega)]
  refine ⟨L, M, R, hR, fun r hE => ?_⟩
  obtain ⟨K, hK⟩ := hE
  refine ⟨K + 1, fun k hk => ?_⟩
  obtain ⟨k, rfl⟩ : ∃ m, k = m + 1 := ⟨k - 1, by omega⟩
  simp only [impl_Circuit_delays.l1]
  rw [if_neg (by omega), wrap_id (by omega) (by omega)]
  exact hK k (by omega)
 | succ d ih =>
  intro j acc L M R h hb hR
  have hj : j < gates[i].f2.length := by omega
  have hxj := hg.2.2.2.2 _ (List.getElem_mem hj)
  rw [List.drop_eq_getElem_cons hj]
  simp only [joins]
  have hvb := getD_bd ht (gates[i].f2[j]).toNat
  have hw : wrap64 ((j : Int) + 1) = (j : Int) + 1 := wrap_id (by omega) (by omega)
  have hl := hR.l
  have hm' := hR.m
  have hr := hR.r
  have hxt : (gates[i].f2[j]).toNat < t.length := by omega
  have hxN : (gates[i].f2[j]).toNat < N := by omega
  have hnode : ((n + (i : Int)).toNat) = t.length := by omega
  have hsnoc := getD_snoc_lt (v := acc) (z := (none : Way)) hxt
  have c1 : (j : Int) < (gates[i].f2.length : Int) := Int.ofNat_lt.mpr hj
  have c2 : gates[i].f2[j] < (R.length : Int) := by omega
  have c3 : gates[i].f2[j] < (L.length : Int) := by omega
  have c4 : gates[i].f2[j] < (M.length : Int) := by omega
  have c5 : 0 ≤ n + (i : Int) := by omega
  have c6 : n + (i : Int) < (R.length : Int) := by omega
  have c7 : n + (i : Int) < (L.length : Int) := by omega
  have c8 : n + (i : Int) < (M.length : Int) := by omega
  cases hv : t.getD (gates[i].f2[j]).toNat none with
  | none =>
   have hE' : joins gates[i] t (joinG gates[i] acc none) (gates[i].f2.drop (j + 1)) = joins gates[i] t acc (gates[i].f2.drop (j + 1)) := by
    cases acc <;> rfl
   obtain ⟨L', M', R', hR', hE⟩ := ih (j + 1) acc L M R (by omega) hb hR
   refine ⟨L', M', R', by rw [hE']; exact hR', fun r hr' => ?_⟩
   obtain ⟨K, hK⟩ := hE r hr'
   refine ⟨K + 1, fun k hk => ?_⟩
   obtain ⟨k, rfl⟩ : ∃ m, k = m + 1 := ⟨k - 1, by omega⟩
   have hk2 := hK k (by omega)
   push_cast at hk2
   simp only [impl_Circuit_delays.l1]
   rw [if_pos c1, if_pos (Int.natCast_nonneg j), if_pos c1, rd_get hj, if_pos hxj.1, if_pos c2, rdOf_nat hxj.1, hR.no _ hxN (hsnoc.trans hv), if_neg (by decide), hw]
   exact hk2
  | some p =>
   rw [hv] at hvb
   have hp := hvb p rfl
   obtain ⟨y1, y2, y3⟩ := hR.yes _ hxN p (hsnoc.trans hv)
   have w1 : wrap64 (p.1 + gates[i].f0) = p.1 + gates[i].f0 := wrap_id (by omega) (by omega)
   have w2 : wrap64 (p.2 + gates[i].f1) = p.2 + gates[i].f1 := wrap_id (by omega) (by omega)
   cases acc with
   | none =>
    have hput := hR.put hN (p.1 + gates[i].f0) (p.2 + gates[i].f1)
    obtain ⟨L', M', R', hR', hE⟩ := ih (j + 1) _ _ _ _ (by omega) (joinG_bd ⟨hg.1, hg.2.1, hg.2.2.1⟩ hb hvb) hput
    refine ⟨L', M', R', hR', fun r hr' => ?_⟩
    obtain ⟨K, hK⟩ := hE r hr'
    refine ⟨K + 1, fun k hk => ?_⟩
    obtain ⟨k, rfl⟩ : ∃ m, k = m + 1 := ⟨k - 1, by omega⟩
    have hk2 := hK k (by omega)
    push_cast at hk2
    simp only [impl_Circuit_delays.l1]
    rw [if_pos c1, if_pos (Int.natCast_nonneg j), if_pos c1, rd_get hj, if_pos hxj.1, if_pos c2, rdOf_nat hxj.1, y1, if_pos rfl, if_pos c3, if_pos c4, if_pos c5, if_pos c6, rdOf_nat c5, hnode, hR.no _ hN getD_snoc_eq, if_neg (by decide), if_pos c7]
    simp only [Option.bind_some]
    rw [if_pos c8]
    simp only [rd_nat, Option.bind_some, y2, y3, w1, w2, hnode, hw]
    rw [getD_set (by omega), if_pos rfl, getD_set (by omega), if_pos rfl, mn_def, mx_def, if_neg (by omega), if_neg (by omega), List.set_set, List.set_set]
    exact hk2
   | some q =>
    have hq := hb q rfl
    obtain ⟨z1, z2, z3⟩ := hR.yes _ hN q getD_snoc_eq
    have hput := hR.put hN (if p.1 + gates[i].f0 < q.1 then p.1 + gates[i].f0 else q.1) (if q.2 < p.2 + gates[i].f1 then p.2 + gates[i].f1 else q.2)
    rw [set_same z1] at hput
    obtain ⟨L', M', R', hR', hE⟩ := ih (j + 1) _ _ _ _ (by omega) (joinG_bd ⟨hg.1, hg.2.1, hg.2.2.1⟩ hb hvb) hput
    refine ⟨L', M', R', hR', fun r hr' => ?_⟩
    obtain ⟨K, hK⟩ := hE r hr'
    refine ⟨K + 1, fun k hk => ?_⟩
    obtain ⟨k, rfl⟩ : ∃ m, k = m + 1 := ⟨k - 1, by omega⟩
    have hk2 := hK k (by omega)
    push_cast at hk2
    simp only [impl_Circuit_delays.l1]
    rw [if_pos c1, if_pos (Int.natCast_nonneg j), if_pos c1, rd_get hj, if_pos hxj.1, if_pos c2, rdOf_nat hxj.1, y1, if_pos rfl, if_pos c3, if_pos c4, if_pos c5, if_pos c6, rdOf_nat c5, hnode, z1, if_pos rfl, if_pos c7, if_pos c8]
    simp only [rd_nat, y2, y3, w1, w2, hnode, hw, z2, z3, mn_def, mx_def]
    exact hk2
theorem delays_l0 (n a3 a4 a5 a6 : Int) (gates : List S62) (data : List Int) (C : Gates n gates) (N : Nat) (hN : (N : Int) = n + gates.length) (d : Nat) : ∀ (i : Nat) (t : List Way) (L M : List Int) (R : List Bool), i + d = gates.length → (t.length : Int) = n + i → (∀ v ∈ t, Bd (100 * i) v) → Rel N t L M R →
  ∃ L' M' R', Ev (fun k => impl_Circuit_delays.l0 k L M R gates (gates.length : Int) (i : Int) n gates data a3 a4 a5 a6) (L', M', R') ∧ Rel N (tabG t (gates.drop i)) L' M' R' := by
 have hc := C.n0
 have hc1 := C.n1
 have hcl := C.len
 induction d with
 | zero =>
  intro i t L M R h htl ht hR
  refine ⟨L, M, R, ⟨1, fun k hk => ?_⟩, ?_⟩
  ·obtain ⟨k, rfl⟩ : ∃ m, k = m + 1 := ⟨k - 1, by omega⟩
   simp only [impl_Circuit_delays.l0]
   rw [if_neg (by omega)]
  ·rw [List.drop_of_length_le (by omega)]
   exact hR
 | succ d ih =>
  intro i t L M R h htl ht hR
  have hi' : i < gates.length := by omega
  have hg := C.gate i hi'
  have hb := joins_bd ⟨hg.1, hg.2.1, hg.2.2.1⟩ ht gates[i].f2 none (Bd.none _)
  obtain ⟨L1, M1, R1, hR1, hE1⟩ := delays_l1 n a3 a4 a5 a6 gates data i hi' C t (100 * i) (by omega) ht htl N (by omega) gates[i].f2.length 0 none L M R (by omega) (Bd.none _) hR.none
  rw [List.drop_zero] at hR1
  obtain ⟨L2, M2, R2, hE2, hR2⟩ := ih (i + 1) _ L1 M1 R1 (by omega) (by simp; omega) (by
   intro v hv
   have := append_bd ht hb v hv
   rw [show (100 : Int) * ((i + 1 : Nat) : Int) = 100 * i + 100 by push_cast; omega]
   exact this) hR1
  refine ⟨L2, M2, R2, ?_, by rw [List.drop_eq_getElem_cons hi', tabG_cons]; exact hR2⟩
  push_cast at hE2
  obtain ⟨K, hK⟩ := hE1 _ hE2
  refine ⟨K + 1, fun k hk => ?_⟩
  obtain ⟨k, rfl⟩ : ∃ m, k = m + 1 := ⟨k - 1, by omega⟩
  simp only [impl_Circuit_delays.l0]
  rw [if_pos (Int.ofNat_lt.mpr hi'), if_pos (Int.natCast_nonneg i), if_pos (Int.ofNat_lt.mpr hi'), rdG' hi', wrap_id (x := n + (i : Int)) (by omega) (by omega)]
  exact hK k (by omega)
theorem rel0 (a : Int) (n : Int) (N : Nat) (h0 : 0 ≤ a) (h1 : a < n) (hN : n ≤ N) : Rel N (tab0 a n.toNat) (List.replicate N 0) (List.replicate N 0) ((List.replicate N false).set a.toNat true) := by
 have hg : ∀ v : Nat, (tab0 a n.toNat).getD v none = if v = a.toNat then some (0, 0) else none := by
  intro v
  unfold tab0
  by_cases hv : v < n.toNat
  ·rw [List.getD_eq_getElem?_getD, List.getElem?_map, List.getElem?_range hv]
   simp only [Option.map_some, Option.getD_some]
   by_cases e : v = a.toNat
   ·rw [if_pos (by omega), if_pos e]
   ·rw [if_neg (by omega), if_neg e]
  ·rw [getD_over (by simp; omega), if_neg (by omega)]
 refine ⟨by simp, by simp, by simp, fun v hv hn => ?_, fun v hv p hp => ?_⟩
 ·rw [hg] at hn
  rw [getD_set (by simp; omega)]
  split at hn
  ·simp at hn
  ·rename_i e
   rw [if_neg (fun x => e x.symm), List.getD_eq_getElem?_getD, List.getElem?_replicate]
   split <;> rfl
 ·rw [hg] at hp
  split at hp
  ·rename_i e
   simp only [Option.some.injEq] at hp
   subst hp e
   rw [getD_set (by simp; omega), if_pos rfl]
   refine ⟨rfl, ?_, ?_⟩ <;> (rw [List.getD_eq_getElem?_getD, List.getElem?_replicate, if_pos hv]; rfl)
  ·simp at hp
theorem delays_at (a n a3 a4 a5 a6 : Int) (gates : List S62) (data : List Int) (C : Gates n gates) (h0 : 0 ≤ a) (h1 : a < n) :
  ∃ L M R, Ev (fun k => impl_Circuit_delays.f k n gates data a3 a4 a5 a6 a) (L, M, R) ∧ Rel (n.toNat + gates.length) (tab a n gates) L M R := by
 have hc := C.n0
 have hc1 := C.n1
 have hcl := C.len
 obtain ⟨L, M, R, hE, hR⟩ := delays_l0 n a3 a4 a5 a6 gates data C (n.toNat + gates.length) (by omega) gates.length 0 (tab0 a n.toNat) _ _ _ (by omega) (by rw [tab0_len]; omega) (by simpa using tab0_bd a n.toNat) (rel0 a n _ h0 h1 (by omega))
 refine ⟨L, M, R, ?_, hR⟩
 obtain ⟨K, hK⟩ := hE
 refine ⟨K, fun k hk => ?_⟩
 have hk2 := hK k hk
 show impl_Circuit_delays.f k n gates data a3 a4 a5 a6 a = _
 unfold impl_Circuit_delays.f impl_Circuit_nodes.f
 rw [wrap_id (x := n + (gates.length : Int)) (by omega) (by omega)]
 simp only [Option.bind_some]
 rw [if_pos (by omega), if_pos (by omega), if_pos (by omega), if_pos h0, if_pos (by simp; omega), show (n + (gates.length : Int)).toNat = n.toNat + gates.length by omega]
 exact hk2
end Go.Proofs.Ytalafmahgeejiaa.Pure

namespace Go.Proofs.Ytalafmahgeejiaa.Pa
open Go.RowKit Go.Proofs.YtalafmahgeejiaaW.PrintWords Go.Proofs.YtalafmahgeejiaaW.PrintLast Go.Proofs.YtalafmahgeejiaaW.PrintMore
attribute [local go_sem] max2_int min2_int max_two min_two max_three min_three max_four min_four   -- for this text's walks alone
set_option linter.unusedVariables false
set_option linter.unusedSimpArgs false

/-! ### AUX leastOf -/
/-- The least of what a function tells, from a number on. -/
def leastFrom (p : S72 → Int) : Int → List S72 → Int
 | m, [] => m
 | m, x :: l => leastFrom p (if p x < m then p x else m) l
def leastL (p : S72 → Int) (l : List S72) : Int := leastFrom p (p (rd_T72 l 0)) l
theorem link_mem (l : List S72) (x : Int) (h0 : 0 ≤ x) (h1 : x < (l.length : Int)) : rd_T72 l x ∈ l := by
 unfold rd_T72
 rw [List.getD_eq_getElem?_getD, List.getElem?_eq_getElem (by omega)]
 exact List.getElem_mem _
/-- Both ends of a link are places of a list. -/
def linkIn (l : List Int) (x : S72) : Bool := decide (0 ≤ x.f0) && decide (x.f0 < (l.length : Int)) && decide (0 ≤ x.f1) && decide (x.f1 < (l.length : Int))
attribute [local go_sem] max2_int min2_int max_two min_two
end Go.Proofs.Ytalafmahgeejiaa.Pa

/- The links of a circuit, and what is read from them. -/
namespace Go.Proofs.Ytalafmahgeejiaa.Pure
open Go.RowKit Go.Proofs.Ytalafmahgeejiaa.Pa Go.Proofs.YtalafmahgeejiaaW.PrintWords Go.Proofs.YtalafmahgeejiaaW.PrintLast
set_option linter.unusedVariables false
set_option linter.unusedSimpArgs false

def linkO (a b : Int) : Way → List S72
 | none => []
 | some p => [⟨a, b, p.1, p.2⟩]
/-- The links from a register to those from b on, d of them. -/
def linksTo (P : Int → Int → Way) (a : Int) : Nat → Nat → List S72
 | _, 0 => []
 | b, d + 1 => linkO a (b : Int) (P a (b : Int)) ++ linksTo P a (b + 1) d
def linksFrom (P : Int → Int → Way) (n : Nat) : Nat → Nat → List S72
 | _, 0 => []
 | a, d + 1 => linksTo P (a : Int) 0 n ++ linksFrom P n (a + 1) d
def linksOf (P : Int → Int → Way) (n : Nat) : List S72 := linksFrom P n 0 n
theorem linkO_len (a b : Int) (v : Way) : (linkO a b v).length ≤ 1 := by cases v <;> simp [linkO]
theorem linksTo_len (P : Int → Int → Way) (a : Int) (d : Nat) : ∀ b, (linksTo P a b d).length ≤ d := by
 induction d with
 | zero => intro b; simp [linksTo]
 | succ d ih => intro b; have := linkO_len a (b : Int) (P a b); have := ih (b + 1); simp [linksTo]; omega
theorem linksTo_mem (P : Int → Int → Way) (a : Int) (d : Nat) : ∀ b, ∀ x ∈ linksTo P a b d, x.f0 = a ∧ (b : Int) ≤ x.f1 ∧ x.f1 < (b : Int) + d ∧ P x.f0 x.f1 = some (x.f2, x.f3) := by
 induction d with
 | zero => intro b x hx; simp [linksTo] at hx
 | succ d ih =>
  intro b x hx
  simp only [linksTo] at hx
  rcases List.mem_append.mp hx with hx | hx
  ·cases hv : P a (b : Int) with
   | none => rw [hv] at hx; simp [linkO] at hx
   | some p =>
    rw [hv] at hx
    simp only [linkO, List.mem_singleton] at hx
    subst hx
    exact ⟨rfl, by dsimp only; omega, by dsimp only; omega, hv⟩
  ·have := ih (b + 1) x hx
   push_cast at this ⊢
   exact ⟨this.1, by omega, by omega, this.2.2.2⟩
theorem linksFrom_mem (P : Int → Int → Way) (n : Nat) (d : Nat) : ∀ a, ∀ x ∈ linksFrom P n a d, (a : Int) ≤ x.f0 ∧ x.f0 < (a : Int) + d ∧ 0 ≤ x.f1 ∧ x.f1 < n ∧ P x.f0 x.f1 = some (x.f2, x.f3) := by
 induction d with
 | zero => intro a x hx; simp [linksFrom] at hx
 | succ d ih =>
  intro a x hx
  simp only [linksFrom] at hx
  rcases List.mem_append.mp hx with hx | hx
  ·have := linksTo_mem P (a : Int) n 0 x hx
   push_cast at this ⊢
   exact ⟨by omega, by omega, by omega, by omega, this.2.2.2⟩
  ·have := ih (a + 1) x hx
   push_cast at this ⊢
   exact ⟨by omega, by omega, this.2.2.1, this.2.2.2.1, this.2.2.2.2⟩
theorem linksOf_mem (P : Int → Int → Way) (n : Nat) : ∀ x ∈ linksOf P n, 0 ≤ x.f0 ∧ x.f0 < n ∧ 0 ≤ x.f1 ∧ x.f1 < n ∧ P x.f0 x.f1 = some (x.f2, x.f3) := by
 intro x hx
 have := linksFrom_mem P n n 0 x hx
 simpa using this
/-- What the walks need of a circuit. -/
structure Ready (n : Int) (gates : List S62) (data : List Int) : Prop where
 gs : Gates n gates
 dlen : (data.length : Int) = n
 node : ∀ x ∈ data, 0 ≤ x ∧ x ≤ n + gates.length - 1
theorem Circ.ready {n : Int} {gates : List S62} {data : List Int} {a3 a4 a5 a6 : Int} (h : Circ n gates data a3 a4 a5 a6) (hw : ∀ g ∈ gates, g.f2.length ≤ 1048576) : Ready n gates data :=
 ⟨⟨h.n0, h.n1, h.len, h.gate, fun i hi => hw _ (List.getElem_mem hi)⟩, h.dlen, h.node⟩
theorem links_l1 (n a3 a4 a5 a6 : Int) (gates : List S62) (data : List Int) (C : Ready n gates data) (a : Int) (L M : List Int) (R : List Bool) (hR : Rel (n.toNat + gates.length) (tab a n gates) L M R) (d : Nat) :
  ∀ (b : Nat) (acc : List S72) (r : List S72), (b : Int) + d = n → acc.length + d ≤ 1000 →
  Ev (fun k => impl_Circuit_links.l0 k (acc ++ linksTo (pathO n gates data a5 a6) a b d) n (wrap64 (a + 1)) n gates data a3 a4 a5 a6) r →
  Ev (fun k => impl_Circuit_links.l1 k acc a L M R n a data (data.length : Int) (b : Int) n gates data a3 a4 a5 a6) r := by
 have hn := C.gs.n0
 have hn1 := C.gs.n1
 have hgl := C.gs.len
 have hdl := C.dlen
 induction d with
 | zero =>
  rintro b acc r h hl ⟨K, hK⟩
  refine ⟨K + 1, fun k hk => ?_⟩
  obtain ⟨k, rfl⟩ : ∃ m, k = m + 1 := ⟨k - 1, by omega⟩
  simp only [impl_Circuit_links.l1]
  rw [if_neg (by omega)]
  have := hK k (by omega)
  simpa [linksTo] using this
 | succ d ih =>
  intro b acc r h hl hE
  have hb : b < data.length := by omega
  have hx := C.node _ (List.getElem_mem hb)
  have hxl := hR.l
  have hxm := hR.m
  have hxr := hR.r
  have hxN : (data[b]).toNat < n.toNat + gates.length := by omega
  have hw : wrap64 ((b : Int) + 1) = (b : Int) + 1 := wrap_id (by omega) (by omega)
  have c1 : (b : Int) < (data.length : Int) := Int.ofNat_lt.mpr hb
  have c2 : data[b] < (R.length : Int) := by omega
  have c3 : data[b] < (L.length : Int) := by omega
  have c4 : data[b] < (M.length : Int) := by omega
  have c5 : acc.length < 4398046511104 := by omega
  simp only [linksTo] at hE
  rw [← List.append_assoc] at hE
  have hP : pathO n gates data a5 a6 a (b : Int) = ((tab a n gates).getD (data[b]).toNat none).map fun p => (wrap64 (p.1 + a5), wrap64 (p.2 + a6)) := by
   unfold pathO
   rw [rd_get hb]
  cases hv : (tab a n gates).getD (data[b]).toNat none with
  | none =>
   rw [hP, hv] at hE
   simp only [Option.map_none, linkO, List.append_nil] at hE
   obtain ⟨K, hK⟩ := ih (b + 1) acc r (by omega) (by omega) hE
   refine ⟨K + 1, fun k hk => ?_⟩
   obtain ⟨k, rfl⟩ : ∃ m, k = m + 1 := ⟨k - 1, by omega⟩
   have hk2 := hK k (by omega)
   push_cast at hk2
   simp only [impl_Circuit_links.l1]
   rw [if_pos c1, if_pos (Int.natCast_nonneg b), if_pos c1, rd_get hb, if_pos hx.1, if_pos c2, rdOf_nat hx.1, hR.no _ hxN hv, if_neg (by decide), hw]
   exact hk2
  | some p =>
   rw [hP, hv] at hE
   simp only [Option.map_some, linkO] at hE
   obtain ⟨y1, y2, y3⟩ := hR.yes _ hxN p hv
   obtain ⟨K, hK⟩ := ih (b + 1) _ r (by omega) (by simp; omega) hE
   refine ⟨K + 1, fun k hk => ?_⟩
   obtain ⟨k, rfl⟩ : ∃ m, k = m + 1 := ⟨k - 1, by omega⟩
   have hk2 := hK k (by omega)
   push_cast at hk2
   simp only [impl_Circuit_links.l1]
   rw [if_pos c1, if_pos (Int.natCast_nonneg b), if_pos c1, rd_get hb, if_pos hx.1, if_pos c2, rdOf_nat hx.1, y1, if_pos rfl, if_pos c3, if_pos c4, if_pos c5, hw, rd_nat, rd_nat, y2, y3]
   exact hk2
theorem links_l0 (n a3 a4 a5 a6 : Int) (gates : List S62) (data : List Int) (C : Ready n gates data) (d : Nat) : ∀ (a : Nat) (acc : List S72), (a : Int) + d = n → acc.length + 10 * d ≤ 900 →
  Ev (fun k => impl_Circuit_links.l0 k acc n (a : Int) n gates data a3 a4 a5 a6) (acc ++ linksFrom (pathO n gates data a5 a6) n.toNat a d) := by
 have hn := C.gs.n0
 have hn1 := C.gs.n1
 induction d with
 | zero =>
  intro a acc h hl
  refine ⟨1, fun k hk => ?_⟩
  obtain ⟨k, rfl⟩ : ∃ m, k = m + 1 := ⟨k - 1, by omega⟩
  simp only [impl_Circuit_links.l0, linksFrom, List.append_nil]
  rw [if_neg (by omega)]
 | succ d ih =>
  intro a acc h hl
  obtain ⟨L, M, R, ⟨K1, hK1⟩, hR⟩ := delays_at (a : Int) n a3 a4 a5 a6 gates data C.gs (by omega) (by omega)
  have hlen := linksTo_len (pathO n gates data a5 a6) (a : Int) n.toNat 0
  have h1 := ih (a + 1) (acc ++ linksTo (pathO n gates data a5 a6) (a : Int) 0 n.toNat) (by omega) (by simp; omega)
  have hw : wrap64 ((a : Int) + 1) = (a : Int) + 1 := wrap_id (by omega) (by omega)
  obtain ⟨K2, hK2⟩ := links_l1 n a3 a4 a5 a6 gates data C (a : Int) L M R hR n.toNat 0 acc _ (by omega) (by omega) (by rw [hw]; exact_mod_cast h1)
  refine ⟨K1 + K2 + 1, fun k hk => ?_⟩
  obtain ⟨k, rfl⟩ : ∃ m, k = m + 1 := ⟨k - 1, by omega⟩
  have hk1 : impl_Circuit_delays.f k n gates data a3 a4 a5 a6 (a : Int) = _ := hK1 k (by omega)
  have hk2 := hK2 k (by omega)
  simp only [impl_Circuit_links.l0, linksFrom]
  rw [if_pos (by omega), hk1, ← List.append_assoc]
  exact hk2
theorem links_tells (n a3 a4 a5 a6 : Int) (gates : List S62) (data : List Int) (C : Ready n gates data) :
  Ev (fun k => impl_Circuit_links.f k n gates data a3 a4 a5 a6) (linksOf (pathO n gates data a5 a6) n.toNat) := by
 have hn := C.gs.n0
 have hn1 := C.gs.n1
 have := links_l0 n a3 a4 a5 a6 gates data C n.toNat 0 [] (by omega) (by simp; omega)
 exact this
/-- The rooms, link by link. -/
def roomStep (f g : S72 → Int) : Option (Int × Int) → S72 → Option (Int × Int)
 | none, x => some (f x, g x)
 | some q, x => some (if f x < q.1 then f x else q.1, if g x < q.2 then g x else q.2)
def rooms (f g : S72 → Int) (acc : Option (Int × Int)) (l : List S72) : Option (Int × Int) := l.foldl (roomStep f g) acc
end Go.Proofs.Ytalafmahgeejiaa.Pure

namespace Go.Proofs.Ytalafmahgeejiaa.Pa
open Go.RowKit Go.Proofs.YtalafmahgeejiaaW.PrintWords Go.Proofs.YtalafmahgeejiaaW.PrintLast Go.Proofs.YtalafmahgeejiaaW.PrintMore
attribute [local go_sem] max2_int min2_int max_two min_two max_three min_three max_four min_four   -- for this text's walks alone
set_option linter.unusedVariables false
set_option linter.unusedSimpArgs false

/-! ### AUX skew -/
/-- What a link asks of a skew. -/
def raiseP (l : List Int) (i n : Int) : List Int := if rd l i < n then l.set i.toNat n else l
set_option maxHeartbeats 4000000 in
set_option maxRecDepth 100000 in
/-- A skew is raised, and it is noted that it was. -/
theorem raise.calls (i n : Int) (g gs gc c base : Nat) (l : List Int) (b : Bool) (ok : Nat → Prop) (w : World) (hs : w.heap[gs]? = some (.cells #[.slice (some ⟨g, 0, none⟩) l.length c] 23 (0, 0))) (hc : w.heap[gc]? = some (.cells #[.bool b] 4 (0, 0)))
    (hr : Kd.R (Kd.int .i64) 2 w base ok (.slice (some ⟨g, 0, none⟩) l.length c) l) (h0 : 0 ≤ i) (h1 : i < (l.length : Int)) (e1 : g ≠ gs) (e2 : g ≠ gc) (e3 : gs ≠ gc) :
    Calls Try.prog 92 (#[.int .i64 i, .int .i64 n] ++ #[.pointer (some ⟨gs, 0, none⟩), .pointer (some ⟨gc, 0, none⟩)]) w fun e w' => e = .returned undef ∧ Kd.R (Kd.int .i64) 2 w' base ok (.slice (some ⟨g, 0, none⟩) l.length c) (raiseP l i n) ∧ w'.heap[gc]? = some (.cells #[.bool (b || decide (rd l i < n))] 4 (0, 0)) ∧ w'.heap[gs]? = some (.cells #[.slice (some ⟨g, 0, none⟩) l.length c] 23 (0, 0)) ∧ Kept w w' (fun k => k = g ∨ k = gc) ∧ ∀ b0, b0 ≤ g → b0 ≤ gc → Below b0 w w' := by
  have HS := Aside0.mk hs
  have HC := Aside0.mk hc
  have HR := Aside0.mk hr
  have t0 : w.cell? ⟨gs, 0, none⟩ = some (.slice (some ⟨g, 0, none⟩) l.length c) := (blk_cell hs 0).trans rfl
  have t1 : w.cell? ⟨gc, 0, none⟩ = some (.bool b) := (blk_cell hc 0).trans rfl
  have tf := blk_frozen hc 0
  obtain ⟨c0, f0⟩ := Kd.R_celln (0 : Int) hr i h0 h1
  have d0 : decide (0 ≤ i) = true := decide_eq_true h0
  have d1 : decide (i < (l.length : Int)) = true := decide_eq_true h1
  have p0 := eq_true h0
  have p1 := eq_true h1
  have hsz : l.length ≤ 9223372036854775807 := (Kd.R_reads' hr).2.2.2.1
  clear hs hc hr
  show Calls Try.prog 92 #[.int .i64 i, .int .i64 n, .pointer (some ⟨gs, 0, none⟩), .pointer (some ⟨gc, 0, none⟩)] w _
  by_cases hq : rd l i < n
  · have q0 : decide (rd l i < n) = true := decide_eq_true hq
    have q1 : decide (rdOf (0 : Int) l i < n) = true := q0
    have t0' : (w.setCell ⟨g, i.toNat, none⟩ (.int .i64 n)).cell? ⟨gs, 0, none⟩ = some (.slice (some ⟨g, 0, none⟩) l.length c) := (blk_cell (blk_far HS.out (p := ⟨g, i.toNat, none⟩) (Ne.symm e1) (.int .i64 n)) 0).trans rfl
    have tf' : (w.setCell ⟨g, i.toNat, none⟩ (.int .i64 n)).frozen? ⟨gc, 0, none⟩ = false := blk_frozen (blk_far HC.out (p := ⟨g, i.toNat, none⟩) (Ne.symm e2) (.int .i64 n)) 0
    have t1' : (w.setCell ⟨g, i.toNat, none⟩ (.int .i64 n)).cell? ⟨gc, 0, none⟩ = some (.bool b) := (blk_cell (blk_far HC.out (p := ⟨g, i.toNat, none⟩) (Ne.symm e2) (.int .i64 n)) 0).trans rfl
    go_enter Try.func92, Try.ntmps92
    go_wp2
    go_end0
    refine ⟨rfl, ?_, ?_, ?_, ?_, fun b0 z0 z1 => ((Below.refl b0 w).setCell (p := ⟨g, i.toNat, none⟩) z0 _).setCell (p := ⟨gc, 0, none⟩) z1 _⟩
    · unfold raiseP
      rw [if_pos hq]
      exact Kd.R_mono (Kd.R_set (Kd.R_putn HR.out i n) (blk_far HC.out (p := ⟨g, i.toNat, none⟩) (Ne.symm e2) (.int .i64 n)) (by intro q hq; have hq : q ∈ [2] := hq; simp at hq; omega) 0 (.bool true)) (fun _ hk => hk)
    · first | rw [q0, Bool.or_true] | skip
      exact blk_put (blk_far HC.out (p := ⟨g, i.toNat, none⟩) (Ne.symm e2) (.int .i64 n)) 0 (.bool true) rfl
    · exact blk_far (blk_far HS.out (p := ⟨g, i.toNat, none⟩) (Ne.symm e1) (.int .i64 n)) (p := ⟨gc, 0, none⟩) e3 (.bool true)
    · exact Kept.setCell (Kept.setCell (Kept.refl _ _) (p := ⟨g, i.toNat, none⟩) (.inl (.inl rfl)) (.int .i64 n)) (p := ⟨gc, 0, none⟩) (.inl (.inr rfl)) (.bool true)
  · have q0 : decide (rd l i < n) = false := decide_eq_false hq
    have q1 : decide (rdOf (0 : Int) l i < n) = false := q0
    have HNQ := Aside0.mk hq
    clear hq
    go_enter Try.func92, Try.ntmps92
    go_wp2
    go_end0
    refine ⟨rfl, ?_, ?_, HS.out, Kept.refl _ _, fun b0 _ _ => Below.refl _ _⟩
    · unfold raiseP
      rw [if_neg (by have := HNQ.out; omega)]
      exact HR.out
    · first | exact HC.out | (rw [q0, Bool.or_false]; exact HC.out)
/-- The same, the length told apart. -/
theorem raise.callsN (n0 : Nat) (i n : Int) (g gs gc c base : Nat) (l : List Int) (b : Bool) (ok : Nat → Prop) (w : World) (hn : l.length = n0) (hs : w.heap[gs]? = some (.cells #[.slice (some ⟨g, 0, none⟩) n0 c] 23 (0, 0))) (hc : w.heap[gc]? = some (.cells #[.bool b] 4 (0, 0)))
    (hr : Kd.R (Kd.int .i64) 2 w base ok (.slice (some ⟨g, 0, none⟩) n0 c) l) (h0 : 0 ≤ i) (h1 : i < (n0 : Int)) (e1 : g ≠ gs) (e2 : g ≠ gc) (e3 : gs ≠ gc) :
    Calls Try.prog 92 (#[.int .i64 i, .int .i64 n] ++ #[.pointer (some ⟨gs, 0, none⟩), .pointer (some ⟨gc, 0, none⟩)]) w fun e w' => e = .returned undef ∧ Kd.R (Kd.int .i64) 2 w' base ok (.slice (some ⟨g, 0, none⟩) n0 c) (raiseP l i n) ∧ w'.heap[gc]? = some (.cells #[.bool (b || decide (rd l i < n))] 4 (0, 0)) ∧ w'.heap[gs]? = some (.cells #[.slice (some ⟨g, 0, none⟩) n0 c] 23 (0, 0)) ∧ Kept w w' (fun k => k = g ∨ k = gc) ∧ ∀ b0, b0 ≤ g → b0 ≤ gc → Below b0 w w' := by
  subst hn
  exact raise.calls i n g gs gc c base l b ok w hs hc hr h0 h1 e1 e2 e3
/-- What a link does to the skews, and whether it raised one. -/
def stepK (setup hold period : Int) (q : List Int × Bool) (x : S72) : List Int × Bool :=
  (raiseP (raiseP q.1 x.f1 (wrap64 (wrap64 (wrap64 (rd q.1 x.f0 + x.f3) + setup) - period))) x.f0 (wrap64 (wrap64 (rd (raiseP q.1 x.f1 (wrap64 (wrap64 (wrap64 (rd q.1 x.f0 + x.f3) + setup) - period))) x.f1 + hold) - x.f2)),
   (q.2 || decide (rd q.1 x.f1 < wrap64 (wrap64 (wrap64 (rd q.1 x.f0 + x.f3) + setup) - period))) || decide (rd (raiseP q.1 x.f1 (wrap64 (wrap64 (wrap64 (rd q.1 x.f0 + x.f3) + setup) - period))) x.f0 < wrap64 (wrap64 (rd (raiseP q.1 x.f1 (wrap64 (wrap64 (wrap64 (rd q.1 x.f0 + x.f3) + setup) - period))) x.f1 + hold) - x.f2)))
/-- The rounds, at most so many: the skews that a round left as they were. -/
def skRounds (setup hold period : Int) (ls : List S72) : Nat → List Int → Option (List Int)
  | 0, _ => none
  | r + 1, l => if (ls.foldl (stepK setup hold period) (l, false)).2 = true then skRounds setup hold period ls r (ls.foldl (stepK setup hold period) (l, false)).1 else some (ls.foldl (stepK setup hold period) (l, false)).1
theorem raiseP_len (l : List Int) (i n : Int) : (raiseP l i n).length = l.length := by
  unfold raiseP
  split
  · simp
  · rfl
theorem fold_step (setup hold period : Int) (q : List Int × Bool) (ls : List S72) (y : Int) (h0 : 0 ≤ y) (h1 : y < (ls.length : Int)) :
    (ls.drop y.toNat).foldl (stepK setup hold period) q = (ls.drop (y + 1).toNat).foldl (stepK setup hold period) (stepK setup hold period q (rd_T72 ls y)) := by
  rw [List.drop_eq_getElem_cons (by omega), show (y + 1).toNat = y.toNat + 1 from by omega]
  unfold rd_T72
  rw [List.getD_eq_getElem?_getD, List.getElem?_eq_getElem (by omega)]
  rfl
section
variable {P : Program} {ops : Array Oper} {Q : Exit → Act → World → Prop}
/-- A call of a closure that lies in a slot. -/
theorem goesF_ {oi : Oper} {N : Option Tmp} {a : Act} {w : World} {K : Act → World → Prop} {f : FuncId} {fn : Func} {x : Operand} {xs : Array Operand} {ts : Array TypeId} {bs : Array Value} (hf : P.funcs[f]? = some fn) (hname : (fn.name == "runtime.NumGoroutine") = false) (hb : fn.body.isSome = true) (args : Array Value)
    (hw : Region.wanted oi (yielded ops a.tmps) = true) (hN : oi.dst = N) (hop : oi.op = .call { callee := .value x, args := xs, argTypes := ts }) (hx : a.eval x = .func (.func f) #[] bs) (hargs : xs.map a.eval = args)
    (h : Calls P f (args ++ bs) w fun e w' => ∃ v, e = .returned v ∧ K (a.put N v) w') : if Region.wanted oi (yielded ops a.tmps) = true then Oper.wp P oi a w K Q else K (a.put N undef) w := by
  refine call_ f (args ++ bs) hw hN ?_ h
  have he := enters_ hf hname hb (args ++ bs) w
  unfold execOp
  simp [hop, resolve, hx, Deferred.ofValue, invoke, hargs, he]
end

end Go.Proofs.Ytalafmahgeejiaa.Pa

/- The least skews by rounds: they come to an end exactly if some skews keep every way; and what that says of a greater period. -/
namespace Go.Proofs.Ytalafmahgeejiaa.Pure
open Go.RowKit Go.Proofs.Ytalafmahgeejiaa.Pa Go.Proofs.YtalafmahgeejiaaW.PrintWords Go.Proofs.YtalafmahgeejiaaW.PrintLast
set_option linter.unusedVariables false
set_option linter.unusedSimpArgs false

def edgesOf (setup hold period : Int) : List S72 → List Edge
 | [] => []
 | x :: ls => (x.f0.toNat, x.f1.toNat, x.f3 + setup - period) :: (x.f1.toNat, x.f0.toNat, hold - x.f2) :: edgesOf setup hold period ls
def fnOf (l : List Int) : Nat → Int := fun i => l.getD i 0
def stepB (q : (Nat → Int) × Bool) (e : Edge) : (Nat → Int) × Bool := (relax q.1 e, q.2 || decide (q.1 e.2.1 < q.1 e.1 + e.2.2))
theorem stepB_fst (E : List Edge) : ∀ q, (E.foldl stepB q).1 = roundE E q.1 := by
 induction E with
 | nil => intro q; rfl
 | cons e E ih => intro q; exact ih _
theorem relax_id {s : Nat → Int} {e : Edge} (h : s e.1 + e.2.2 ≤ s e.2.1) : relax s e = s := by
 funext i
 unfold relax
 rw [if_neg (by omega)]
theorem stepB_still (E : List Edge) (s : Nat → Int) (b : Bool) (h : ∀ e ∈ E, s e.1 + e.2.2 ≤ s e.2.1) : E.foldl stepB (s, b) = (s, b) := by
 induction E with
 | nil => rfl
 | cons e E ih =>
  have h1 := h e (by simp)
  have : stepB (s, b) e = (s, b) := by
   unfold stepB
   rw [relax_id h1, decide_eq_false (by dsimp only; omega), Bool.or_false]
  rw [List.foldl_cons, this]
  exact ih (fun x hx => h x (by simp [hx]))
theorem raiseP_fn (l : List Int) (i n : Int) (h0 : 0 ≤ i) (h1 : i < l.length) (u : Nat) (w : Int) (hn : n = fnOf l u + w) : fnOf (raiseP l i n) = relax (fnOf l) (u, i.toNat, w) := by
 funext j
 unfold relax raiseP
 dsimp only
 rw [← hn]
 have hr : rd l i = fnOf l i.toNat := rfl
 rw [hr]
 by_cases c : fnOf l i.toNat < n
 ·rw [if_pos c]
  unfold fnOf
  rw [List.getD_eq_getElem?_getD, List.getElem?_set]
  by_cases c2 : j = i.toNat
  ·subst c2
   rw [if_pos rfl, if_pos (by omega), if_pos ⟨rfl, c⟩]
   rfl
  ·rw [if_neg (fun h => c2 h.symm), if_neg (fun h => c2 h.1), List.getD_eq_getElem?_getD]
 ·rw [if_neg c, if_neg (fun h => c h.2)]
theorem stepK_len (setup hold period : Int) (q : List Int × Bool) (x : S72) : (stepK setup hold period q x).1.length = q.1.length := by
 unfold stepK
 rw [raiseP_len, raiseP_len]
/-- What is known of the numbers of links. -/
structure LinkOk (n : Nat) (x : S72) : Prop where
 a0 : 0 ≤ x.f0
 a1 : x.f0 < n
 b0 : 0 ≤ x.f1
 b1 : x.f1 < n
 c0 : 0 ≤ x.f2
 c1 : x.f2 ≤ 2000
 d0 : 0 ≤ x.f3
 d1 : x.f3 ≤ 2000
theorem stepK_fn {setup hold period : Int} {n : Nat} {x : S72} (hx : LinkOk n x) (hs0 : 0 ≤ setup) (hs1 : setup ≤ 100) (hh0 : 0 ≤ hold) (hh1 : hold ≤ 100) (hp0 : 1 ≤ period) (hp1 : period ≤ 100000) (q : List Int × Bool) (hl : q.1.length = n)
  (h0 : ∀ i, i < n → -10000000 ≤ fnOf q.1 i ∧ fnOf q.1 i ≤ 10000000) (h1 : ∀ i, i < n → -10000000 ≤ relax (fnOf q.1) (x.f0.toNat, x.f1.toNat, x.f3 + setup - period) i ∧ relax (fnOf q.1) (x.f0.toNat, x.f1.toNat, x.f3 + setup - period) i ≤ 10000000) :
  (fnOf (stepK setup hold period q x).1, (stepK setup hold period q x).2) = [(x.f0.toNat, x.f1.toNat, x.f3 + setup - period), (x.f1.toNat, x.f0.toNat, hold - x.f2)].foldl stepB (fnOf q.1, q.2) := by
 have ha := h0 x.f0.toNat (by have := hx.a0; have := hx.a1; omega)
 have r0 : rd q.1 x.f0 = fnOf q.1 x.f0.toNat := rfl
 have e1 : wrap64 (wrap64 (wrap64 (rd q.1 x.f0 + x.f3) + setup) - period) = fnOf q.1 x.f0.toNat + (x.f3 + setup - period) := by
  have := hx.d0
  have := hx.d1
  rw [r0]
  generalize fnOf q.1 x.f0.toNat = z at *
  rw [wrap_id (x := z + x.f3) (by omega) (by omega), wrap_id (x := z + x.f3 + setup) (by omega) (by omega), wrap_id (by omega) (by omega)]
  omega
 have f1 := raiseP_fn q.1 x.f1 _ hx.b0 (by rw [hl]; exact hx.b1) x.f0.toNat _ e1
 have hb := h1 x.f1.toNat (by have := hx.b0; have := hx.b1; omega)
 rw [← f1] at hb
 have l1 := raiseP_len q.1 x.f1 (wrap64 (wrap64 (wrap64 (rd q.1 x.f0 + x.f3) + setup) - period))
 unfold stepK
 simp only [List.foldl_cons, List.foldl_nil, stepB]
 generalize hq : raiseP q.1 x.f1 (wrap64 (wrap64 (wrap64 (rd q.1 x.f0 + x.f3) + setup) - period)) = q1 at *
 have r1 : rd q1 x.f1 = fnOf q1 x.f1.toNat := rfl
 have e2 : wrap64 (wrap64 (rd q1 x.f1 + hold) - x.f2) = fnOf q1 x.f1.toNat + (hold - x.f2) := by
  have := hx.c0
  have := hx.c1
  rw [r1]
  generalize fnOf q1 x.f1.toNat = z at *
  rw [wrap_id (x := z + hold) (by omega) (by omega), wrap_id (by omega) (by omega)]
  omega
 have f2 := raiseP_fn q1 x.f0 _ hx.a0 (by rw [l1, hl]; exact hx.a1) x.f1.toNat _ e2
 rw [← f1, ← f2, e1, e2]
 rfl
theorem fnOf_zero (n : Nat) : fnOf (List.replicate n 0) = fun _ => 0 := by
 funext i
 unfold fnOf
 rw [List.getD_eq_getElem?_getD, List.getElem?_replicate]
 split <;> rfl
theorem edges_in {setup hold period : Int} {n : Nat} (ls : List S72) (hx : ∀ x ∈ ls, LinkOk n x) : EdgesIn n (edgesOf setup hold period ls) := by
 induction ls with
 | nil => intro e he; simp [edgesOf] at he
 | cons x ls ih =>
  intro e he
  have h0 := hx x (by simp)
  have a := h0.a1
  have b := h0.b1
  have a' := h0.a0
  have b' := h0.b0
  simp only [edgesOf, List.mem_cons] at he
  rcases he with rfl | rfl | he
  ·dsimp only; omega
  ·dsimp only; omega
  ·exact ih (fun y hy => hx y (by simp [hy])) e he
section
variable {setup hold period : Int} {n : Nat} (hs0 : 0 ≤ setup) (hs1 : setup ≤ 100) (hh0 : 0 ≤ hold) (hh1 : hold ≤ 100) (hp0 : 1 ≤ period) (hp1 : period ≤ 100000)
include hs0 hs1 hh0 hh1 hp0 hp1
/-- A round below a bound goes as the plain one. -/
theorem foldK_fn {t : Nat → Int} (ht1 : ∀ i, i < n → t i ≤ 100000) (ls : List S72) : ∀ q : List Int × Bool, q.1.length = n → (∀ x ∈ ls, LinkOk n x) → (∀ e ∈ edgesOf setup hold period ls, t e.1 + e.2.2 ≤ t e.2.1) → (∀ i, i < n → 0 ≤ fnOf q.1 i ∧ fnOf q.1 i ≤ t i) →
  (fnOf (ls.foldl (stepK setup hold period) q).1, (ls.foldl (stepK setup hold period) q).2) = (edgesOf setup hold period ls).foldl stepB (fnOf q.1, q.2) ∧ (ls.foldl (stepK setup hold period) q).1.length = n := by
 induction ls with
 | nil => intro q hl _ _ _; exact ⟨rfl, hl⟩
 | cons x ls ih =>
  intro q hl hx he hq
  have hx0 := hx x (by simp)
  have k1 := he (x.f0.toNat, x.f1.toNat, x.f3 + setup - period) (by simp [edgesOf])
  have k2 := he (x.f1.toNat, x.f0.toNat, hold - x.f2) (by simp [edgesOf])
  have a := hx0.a1
  have b := hx0.b1
  have a' := hx0.a0
  have b' := hx0.b0
  have m1 : ∀ i, i < n → relax (fnOf q.1) (x.f0.toNat, x.f1.toNat, x.f3 + setup - period) i ≤ t i := relax_le (n := n) (by dsimp only; omega) k1 (fun i hi => (hq i hi).2)
  have m2 := relax_le (n := n) (by dsimp only; omega) k2 m1
  have g1 := relax_ge (fnOf q.1) (x.f0.toNat, x.f1.toNat, x.f3 + setup - period)
  have g2 := relax_ge (relax (fnOf q.1) (x.f0.toNat, x.f1.toNat, x.f3 + setup - period)) (x.f1.toNat, x.f0.toNat, hold - x.f2)
  have s := stepK_fn hx0 hs0 hs1 hh0 hh1 hp0 hp1 q hl (fun i hi => by have := hq i hi; have := ht1 i hi; omega) (fun i hi => by have := hq i hi; have := ht1 i hi; have := m1 i hi; have := g1 i; omega)
  have s1 := congrArg Prod.fst s
  have s2 := congrArg Prod.snd s
  dsimp only at s1 s2
  have := ih (stepK setup hold period q x) (by rw [stepK_len]; exact hl) (fun y hy => hx y (by simp [hy])) (fun e h => he e (by simp [edgesOf, h])) (fun i hi => by
   rw [s1]
   show 0 ≤ relax (relax (fnOf q.1) (x.f0.toNat, x.f1.toNat, x.f3 + setup - period)) (x.f1.toNat, x.f0.toNat, hold - x.f2) i ∧ _
   have h1 := hq i hi
   have h2 := g1 i
   have h3 := g2 i
   exact ⟨by omega, m2 i hi⟩)
  refine ⟨?_, this.2⟩
  rw [List.foldl_cons, this.1]
  simp only [edgesOf, List.foldl_cons]
  rw [s1, s2]
  rfl
/-- A round that raises nothing: every edge is kept. -/
theorem foldK_still (ls : List S72) : ∀ (l : List Int) (b : Bool), l.length = n → (∀ x ∈ ls, LinkOk n x) → (∀ i, i < n → 0 ≤ fnOf l i ∧ fnOf l i ≤ 100000) → (ls.foldl (stepK setup hold period) (l, b)).2 = false →
  b = false ∧ (ls.foldl (stepK setup hold period) (l, b)).1 = l ∧ ∀ e ∈ edgesOf setup hold period ls, fnOf l e.1 + e.2.2 ≤ fnOf l e.2.1 := by
 induction ls with
 | nil => intro l b _ _ _ h; exact ⟨h, rfl, by simp [edgesOf]⟩
 | cons x ls ih =>
  intro l b hl hx hq h
  have hx0 := hx x (by simp)
  rw [List.foldl_cons] at h ⊢
  -- the flag never falls
  have flag : ∀ (ls : List S72) (q : List Int × Bool), (ls.foldl (stepK setup hold period) q).2 = false → q.2 = false := by
   intro ls
   induction ls with
   | nil => intro q h; exact h
   | cons y ls ih2 =>
    intro q h
    have := ih2 _ h
    unfold stepK at this
    dsimp only at this
    rw [Bool.or_eq_false_iff, Bool.or_eq_false_iff] at this
    exact this.1.1
  have h1 := flag ls _ h
  have h2 := h1
  unfold stepK at h2
  dsimp only at h2
  rw [Bool.or_eq_false_iff, Bool.or_eq_false_iff] at h2
  obtain ⟨⟨hb, c1⟩, c2⟩ := h2
  have c1 := of_decide_eq_false c1
  have p1 : raiseP l x.f1 (wrap64 (wrap64 (wrap64 (rd l x.f0 + x.f3) + setup) - period)) = l := by unfold raiseP; rw [if_neg c1]
  rw [p1] at c2
  have c2 := of_decide_eq_false c2
  have e0 : stepK setup hold period (l, b) x = (l, b) := by
   unfold stepK
   dsimp only
   rw [p1, hb]
   refine Prod.ext ?_ ?_
   ·show raiseP l x.f0 _ = l
    unfold raiseP
    rw [if_neg c2]
   ·show ((false || _) || _) = false
    rw [decide_eq_false c1, decide_eq_false c2]
    rfl
  rw [e0] at h ⊢
  have := ih l b hl (fun y hy => hx y (by simp [hy])) hq h
  refine ⟨this.1, this.2.1, fun e he => ?_⟩
  have r0 : rd l x.f0 = fnOf l x.f0.toNat := rfl
  have r1 : rd l x.f1 = fnOf l x.f1.toNat := rfl
  have v0 := hq x.f0.toNat (by have := hx0.a0; have := hx0.a1; omega)
  have v1 := hq x.f1.toNat (by have := hx0.b0; have := hx0.b1; omega)
  have t2 := hx0.c0
  have t3 := hx0.c1
  have t4 := hx0.d0
  have t5 := hx0.d1
  rw [r0, r1] at c1 c2
  simp only [edgesOf, List.mem_cons] at he
  rcases he with rfl | rfl | he
  ·dsimp only
   generalize fnOf l x.f0.toNat = z0 at *
   generalize fnOf l x.f1.toNat = z1 at *
   rw [wrap_id (x := z0 + x.f3) (by omega) (by omega), wrap_id (x := z0 + x.f3 + setup) (by omega) (by omega), wrap_id (by omega) (by omega)] at c1
   omega
  ·dsimp only
   generalize fnOf l x.f0.toNat = z0 at *
   generalize fnOf l x.f1.toNat = z1 at *
   rw [wrap_id (x := z1 + hold) (by omega) (by omega), wrap_id (by omega) (by omega)] at c2
   omega
  ·exact this.2.2 e he
/-- If some skews keep every way, the rounds come to an end below them. -/
theorem skRounds_some {t : Nat → Int} (ls : List S72) (hx : ∀ x ∈ ls, LinkOk n x) (ht : Bounds n (edgesOf setup hold period ls) t) (ht1 : ∀ i, i < n → t i ≤ 100000) :
  ∃ l, skRounds setup hold period ls (n + 1) (List.replicate n 0) = some l ∧ l.length = n ∧ ∀ i, i < n → 0 ≤ fnOf l i ∧ fnOf l i ≤ t i := by
 obtain ⟨h1, h2⟩ := rounds_rest (edges_in ls hx) ht
 have key : ∀ d k (l : List Int), k + d = n → l.length = n → fnOf l = rounds (edgesOf setup hold period ls) k (fun _ => 0) → ∃ l', skRounds setup hold period ls (d + 1) l = some l' ∧ l'.length = n ∧ ∀ i, i < n → 0 ≤ fnOf l' i ∧ fnOf l' i ≤ t i := by
  intro d
  induction d with
  | zero =>
   intro k l hk hl hf
   have hk : k = n := by omega
   subst hk
   have g := foldK_fn hs0 hs1 hh0 hh1 hp0 hp1 ht1 ls (l, false) hl hx ht.1 (fun i hi => by show 0 ≤ fnOf l i ∧ fnOf l i ≤ t i; rw [hf]; exact h1 k i hi)
   have sat : ∀ e ∈ edgesOf setup hold period ls, fnOf l e.1 + e.2.2 ≤ fnOf l e.2.1 := by
    rw [hf]
    exact round_fix (edges_in ls hx) h2
   have g2 := g.1
   rw [show (fnOf (l, false).1, (l, false).2) = (fnOf l, false) from rfl, stepB_still _ _ _ sat] at g2
   have g3 := congrArg Prod.snd g2
   have g4 := congrArg Prod.fst g2
   dsimp only at g3 g4
   refine ⟨(ls.foldl (stepK setup hold period) (l, false)).1, ?_, g.2, fun i hi => ?_⟩
   ·show (if _ then _ else _) = _
    rw [g3]
    rfl
   ·rw [g4, hf]; exact h1 k i hi
  | succ d ih =>
   intro k l hk hl hf
   have g := foldK_fn hs0 hs1 hh0 hh1 hp0 hp1 ht1 ls (l, false) hl hx ht.1 (fun i hi => by show 0 ≤ fnOf l i ∧ fnOf l i ≤ t i; rw [hf]; exact h1 k i hi)
   have g4 := congrArg Prod.fst g.1
   rw [stepB_fst] at g4
   dsimp only at g4
   rw [hf, ← rounds_snoc] at g4
   by_cases c : (ls.foldl (stepK setup hold period) (l, false)).2 = true
   ·obtain ⟨l', e1, e2⟩ := ih (k + 1) _ (by omega) g.2 g4
    refine ⟨l', ?_, e2⟩
    rw [← e1]
    show (if _ then _ else _) = _
    rw [if_pos c]
   ·refine ⟨(ls.foldl (stepK setup hold period) (l, false)).1, ?_, g.2, fun i hi => ?_⟩
    ·show (if _ then _ else _) = _
     rw [if_neg c]
    ·rw [g4]; exact h1 (k + 1) i hi
 exact key n 0 (List.replicate n 0) (by omega) (by simp) (fnOf_zero n)
/-- Where the rounds come to an end within the bounds, their skews keep every way. -/
theorem skRounds_keeps (ls : List S72) (hx : ∀ x ∈ ls, LinkOk n x) : ∀ (r : Nat) (l0 l : List Int), l0.length = n → skRounds setup hold period ls r l0 = some l → (∀ i, i < n → 0 ≤ fnOf l i ∧ fnOf l i ≤ 100000) → Bounds n (edgesOf setup hold period ls) (fnOf l) := by
 have len : ∀ (ls : List S72) (q : List Int × Bool), (ls.foldl (stepK setup hold period) q).1.length = q.1.length := by
  intro ls
  induction ls with
  | nil => intro q; rfl
  | cons x ls ih => intro q; rw [List.foldl_cons, ih, stepK_len]
 -- a round without a raise leaves the skews as they were
 have same : ∀ (ls : List S72) (l : List Int) (b : Bool), (ls.foldl (stepK setup hold period) (l, b)).2 = false → (ls.foldl (stepK setup hold period) (l, b)).1 = l := by
  have flag : ∀ (ls : List S72) (q : List Int × Bool), (ls.foldl (stepK setup hold period) q).2 = false → q.2 = false := by
   intro ls
   induction ls with
   | nil => intro q h; exact h
   | cons y ls ih2 =>
    intro q h
    have := ih2 _ h
    unfold stepK at this
    dsimp only at this
    rw [Bool.or_eq_false_iff, Bool.or_eq_false_iff] at this
    exact this.1.1
  intro ls
  induction ls with
  | nil => intro l b _; rfl
  | cons x ls ih =>
   intro l b h
   rw [List.foldl_cons] at h ⊢
   have h2 := flag ls _ h
   unfold stepK at h2
   dsimp only at h2
   rw [Bool.or_eq_false_iff, Bool.or_eq_false_iff] at h2
   obtain ⟨⟨hb, c1⟩, c2⟩ := h2
   have c1 := of_decide_eq_false c1
   have p1 : raiseP l x.f1 (wrap64 (wrap64 (wrap64 (rd l x.f0 + x.f3) + setup) - period)) = l := by unfold raiseP; rw [if_neg c1]
   rw [p1] at c2
   have c2 := of_decide_eq_false c2
   have e0 : (stepK setup hold period (l, b) x).1 = l := by
    unfold stepK
    dsimp only
    rw [p1]
    unfold raiseP
    rw [if_neg c2]
   have e1 : stepK setup hold period (l, b) x = (l, (stepK setup hold period (l, b) x).2) := Prod.ext e0 rfl
   rw [e1] at h ⊢
   exact ih l _ h
 intro r
 induction r with
 | zero => intro l0 l _ h; simp [skRounds] at h
 | succ r ih =>
  intro l0 l hl h hb
  have h : (if (ls.foldl (stepK setup hold period) (l0, false)).2 = true then skRounds setup hold period ls r (ls.foldl (stepK setup hold period) (l0, false)).1 else some (ls.foldl (stepK setup hold period) (l0, false)).1) = some l := h
  by_cases c : (ls.foldl (stepK setup hold period) (l0, false)).2 = true
  ·rw [if_pos c] at h
   exact ih _ l (by rw [len]; exact hl) h hb
  ·rw [if_neg c] at h
   have c : (ls.foldl (stepK setup hold period) (l0, false)).2 = false := by simpa using c
   have e := same ls l0 false c
   rw [e] at h
   obtain rfl := Option.some.inj h
   exact ⟨(foldK_still hs0 hs1 hh0 hh1 hp0 hp1 ls l0 false hl hx hb c).2.2, fun i hi => (hb i hi).1⟩
end
/-- Whether a circuit's links can be kept with a period, by skews within the bounds. -/
def Keeps (n : Nat) (setup hold period : Int) (ls : List S72) : Prop := ∃ t, Bounds n (edgesOf setup hold period ls) t ∧ ∀ i, i < n → t i ≤ 100000
theorem edgesOf_mono {n : Nat} {t : Nat → Int} {setup hold p p' : Int} (h : p ≤ p') (ls : List S72) (ht : ∀ e ∈ edgesOf setup hold p ls, t e.1 + e.2.2 ≤ t e.2.1) : ∀ e ∈ edgesOf setup hold p' ls, t e.1 + e.2.2 ≤ t e.2.1 := by
 induction ls with
 | nil => intro e he; simp [edgesOf] at he
 | cons x ls ih =>
  intro e he
  simp only [edgesOf, List.mem_cons] at he
  rcases he with rfl | rfl | he
  ·have := ht (x.f0.toNat, x.f1.toNat, x.f3 + setup - p) (by simp [edgesOf])
   dsimp only at this ⊢
   omega
  ·exact ht _ (by simp [edgesOf])
  ·exact ih (fun e h => ht e (by simp [edgesOf, h])) e he
theorem Keeps.mono {n : Nat} {setup hold p p' : Int} {ls : List S72} (h : p ≤ p') (hk : Keeps n setup hold p ls) : Keeps n setup hold p' ls := by
 obtain ⟨t, h1, h2⟩ := hk
 exact ⟨t, ⟨edgesOf_mono (n := n) h ls h1.1, h1.2⟩, h2⟩
/-- The edges of hold alone. -/
def holdEdges (hold : Int) : List S72 → List Edge
 | [] => []
 | x :: ls => (x.f1.toNat, x.f0.toNat, hold - x.f2) :: holdEdges hold ls
theorem hold_sub (setup hold p : Int) (ls : List S72) : ∀ e ∈ holdEdges hold ls, e ∈ edgesOf setup hold p ls := by
 induction ls with
 | nil => intro e he; simp [holdEdges] at he
 | cons x ls ih =>
  intro e he
  simp only [holdEdges, List.mem_cons] at he
  rcases he with rfl | he
  ·simp [edgesOf]
  ·simp [edgesOf, ih e he]
/-- With a great period, only hold asks: what can be kept with some period can be kept with this one. -/
theorem Keeps.great {n : Nat} {setup hold p p' : Int} {ls : List S72} (hx : ∀ x ∈ ls, LinkOk n x) (hn : n ≤ 6) (hs1 : setup ≤ 100) (hh0 : 0 ≤ hold) (hh1 : hold ≤ 100) (hp : 9100 ≤ p') (hk : Keeps n setup hold p ls) : Keeps n setup hold p' ls := by
 obtain ⟨t, h1, h2⟩ := hk
 have hin : EdgesIn n (holdEdges hold ls) := by
  clear h1 h2
  induction ls with
  | nil => intro e he; simp [holdEdges] at he
  | cons x ls ih =>
   intro e he
   have h0 := hx x (by simp)
   have a := h0.a1
   have b := h0.b1
   have a' := h0.a0
   have b' := h0.b0
   simp only [holdEdges, List.mem_cons] at he
   rcases he with rfl | he
   ·dsimp only; omega
   ·exact ih (fun y hy => hx y (by simp [hy])) e he
 have hw : ∀ e ∈ holdEdges hold ls, e.2.2 ≤ 100 := by
  clear h1 h2 hin
  induction ls with
  | nil => intro e he; simp [holdEdges] at he
  | cons x ls ih =>
   intro e he
   have h0 := (hx x (by simp)).c0
   simp only [holdEdges, List.mem_cons] at he
   rcases he with rfl | he
   ·dsimp only; omega
   ·exact ih (fun y hy => hx y (by simp [hy])) e he
 have hb : Bounds n (holdEdges hold ls) t := ⟨fun e he => h1.1 e (hold_sub setup hold p ls e he), h1.2⟩
 obtain ⟨m, m1, m2, m3⟩ := least_bound t hb
 have small := least_small 100 (by omega) hin hw m1 m2 m3
 refine ⟨m, ⟨?_, m1.2⟩, fun i hi => Int.le_trans (m2 i hi) (h2 i hi)⟩
 have m0 := m1.1
 have mn := m1.2
 clear h1 h2 hin hw hb m1 m2 m3
 induction ls with
 | nil => intro e he; simp [edgesOf] at he
 | cons x ls ih =>
  intro e he
  have h0 := hx x (by simp)
  simp only [edgesOf, List.mem_cons] at he
  rcases he with rfl | rfl | he
  ·have a := h0.a1
   have b := h0.b1
   have a' := h0.a0
   have b' := h0.b0
   have s1 := small x.f0.toNat (by omega)
   have s2 := mn x.f1.toNat (by omega)
   have := h0.d1
   dsimp only
   omega
  ·exact m0 _ (by simp [holdEdges])
  ·exact ih (fun y hy => hx y (by simp [hy])) (fun e h => m0 e (by simp [holdEdges, h])) e he
end Go.Proofs.Ytalafmahgeejiaa.Pure

namespace Go.Proofs.Ytalafmahgeejiaa.Pa
open Go.RowKit Go.Proofs.YtalafmahgeejiaaW.PrintWords Go.Proofs.YtalafmahgeejiaaW.PrintLast Go.Proofs.YtalafmahgeejiaaW.PrintMore
attribute [local go_sem] max2_int min2_int max_two min_two max_three min_three max_four min_four   -- for this text's walks alone
set_option linter.unusedVariables false
set_option linter.unusedSimpArgs false

/-! ### spec_l06Skews: function 65 -/
mutual
def spec_l06Skews.j0 : Nat → List Int → Bool → Int → List (S62) → List Int → Int → Int → Int → Int → Option (Bool × Int × Int × Int × Int × Int)
 | 0, _, _, _, _, _, _, _, _, _ => none
 | k + 1, x1, x17, x1000, x1001, x1002, x1003, x1004, x1005, x1006 => if x17 = true then (some (false, x1000, x1003, x1004, x1005, x1006)) else (spec_l06Skews.l0 k x1 0 x1000 x1001 x1002 x1003 x1004 x1005 x1006)
def spec_l06Skews.l0 : Nat → List Int → Int → Int → List (S62) → List Int → Int → Int → Int → Int → Option (Bool × Int × Int × Int × Int × Int)
 | 0, _, _, _, _, _, _, _, _, _ => none
 | k + 1, x1, x5, x1000, x1001, x1002, x1003, x1004, x1005, x1006 => if x5 < (x1.length : Int) then (if 0 ≤ x5 then ((spec_l00In.f (rd x1 x5) 0 100000).bind fun t540 => (if t540 = true then (spec_l06Skews.l0 k x1 (wrap64 (x5 + 1)) x1000 x1001 x1002 x1003 x1004 x1005 x1006) else (some (false, x1000, x1003, x1004, x1005, x1006)))) else (none)) else (some (true, x1000, x1003, x1004, x1005, x1006))
end
def spec_l06Skews.f (k : Nat) (s0_0 : Int) (s0_1 : List (S62)) (s0_2 : List Int) (s0_3 : Int) (s0_4 : Int) (s0_5 : Int) (s0_6 : Int) (l1 : List Int) : Option (Bool × Int × Int × Int × Int × Int) := (spec_l06Is.f s0_0 s0_1 s0_2 s0_3 s0_4 s0_5 s0_6).bind fun bt533 => (if bt533.1 = true then (spec_l06Skews.j0 k l1 ((l1.length : Int) != bt533.2.1) bt533.2.1 s0_1 s0_2 bt533.2.2.1 bt533.2.2.2.1 bt533.2.2.2.2.1 bt533.2.2.2.2.2) else (spec_l06Skews.j0 k l1 true bt533.2.1 s0_1 s0_2 bt533.2.2.1 bt533.2.2.2.1 bt533.2.2.2.2.1 bt533.2.2.2.2.2))
set_option maxHeartbeats 8000000 in
set_option maxRecDepth 100000 in
theorem spec_l06Skews.calls (k : Nat) (g : Nat) (s0_0 : Int) (s0_1 : List (S62)) (s0_2 : List Int) (s0_3 : Int) (s0_4 : Int) (s0_5 : Int) (s0_6 : Int) (A1 : Option Addr) (c1 : Nat) (l1 : List Int) (r1 : Bool) (r2 : Int) (r3 : Int) (r4 : Int) (r5 : Int) (r6 : Int) (w0 w : World) (hI : IsS30 w0 w g s0_0 s0_1 s0_2 s0_3 s0_4 s0_5 s0_6) (hB : Below w0.heap.size w0 w) (hr1 : Kd.C (Kd.int .i64) w A1 l1.length l1) (hc1 : l1.length ≤ c1) (hf1 : ∀ ad, A1 = some ad → 0 < l1.length → ad.block ≠ g) (h : spec_l06Skews.f k s0_0 s0_1 s0_2 s0_3 s0_4 s0_5 s0_6 l1 = some (r1, r2, r3, r4, r5, r6)) :
  Calls Try.prog 65 #[.pointer (some ⟨g, 0, none⟩), .slice A1 l1.length c1] w fun e w' => e = .returned (.bool r1) ∧ IsS30 w0 w' g r2 s0_1 s0_2 r3 r4 r5 r6 ∧ Below w0.heap.size w0 w' ∧ KeepBut w w' g none := by
 have HR1 := Aside0.mk hr1
 have HC1 := Aside0.mk hc1
 clear hr1 hc1
 have HI0 := Aside0.mk hI
 have HK := Aside0.mk (KeepBut.refl w g none)
 have HL := Aside0.mk hB.size
 clear hI
 have HW0 := Aside0.mk hB.size
 have HB := Aside0.mk hB
 clear hB
 have H : ((spec_l06Is.f s0_0 s0_1 s0_2 s0_3 s0_4 s0_5 s0_6).bind fun bt533 => (if bt533.1 = true then (spec_l06Skews.j0 k l1 ((l1.length : Int) != bt533.2.1) bt533.2.1 s0_1 s0_2 bt533.2.2.1 bt533.2.2.2.1 bt533.2.2.2.2.1 bt533.2.2.2.2.2) else (spec_l06Skews.j0 k l1 true bt533.2.1 s0_1 s0_2 bt533.2.2.1 bt533.2.2.2.1 bt533.2.2.2.2.1 bt533.2.2.2.2.2))) = some (r1, r2, r3, r4, r5, r6) := h
 clear h
 have HC3 := Aside0.mk H
 clear H
 go_enter Try.func65, Try.ntmps65
 go_upto_region 1 with (fail)
 go_cut [17] (fun v17 wc => ∃ (kq : Nat) (x17_2 : Bool) (x1000_2 : Int) (x1003_2 : Int) (x1004_2 : Int) (x1005_2 : Int) (x1006_2 : Int), v17 = .bool x17_2 ∧ Aside0 (spec_l06Skews.j0 kq l1 x17_2 x1000_2 s0_1 s0_2 x1003_2 x1004_2 x1005_2 x1006_2 = some (r1, r2, r3, r4, r5, r6)) ∧ Aside0 (kq ≤ k) ∧ Aside0 (IsS30 w0 wc g x1000_2 s0_1 s0_2 x1003_2 x1004_2 x1005_2 x1006_2) ∧ Aside0 (KeepBut w wc g none) ∧ Aside0 (Below w0.heap.size w0 wc))
 case first =>
  have H := HC3.out
  clear HC3
  replace H := Option.bind_eq_some_iff.mp H
  obtain ⟨⟨t533, t534, t535, t536, t537, t538⟩, A40, H⟩ := H
  try dsimp only at H
  have A4 := Aside0.mk A40
  clear A40
  by_cases c5 : t533 = true
  ·subst c5
   rw [if_pos rfl] at H
   have H' := Aside0.mk H
   clear H
   go_wp2_with (first | ((with_reducible refine gate_callee (f := 47) rfl ?_); refine goesL_ (some 7) rfl rfl Try.func47 (by kernel_rfl) rfl #[.pointer (some ⟨g, 0, none⟩)] rfl (by (try simp only [List.map_toArray, List.map_cons, List.map_nil]); first | done | rfl | (simp only [List.length_drop, List.length_take]; rfl)) ?_; (with_reducible refine (spec_l06Is.calls g s0_0 s0_1 s0_2 s0_3 s0_4 s0_5 s0_6 true t534 t535 t536 t537 t538 w0 _ ?side1 ?side2 A4.out).mono ?_); (case side1 => repeat (first | (with_reducible first | exact HI0.out | apply IsS30.alloc | apply IsS30.drewN | apply IsS30.drew | apply IsS30.set_0 | apply IsS30.set_3 | apply IsS30.set_4 | apply IsS30.set_5 | apply IsS30.set_6) | exact HI0.out)); (case side2 => repeat (first | (with_reducible first | exact HB.out | apply below_alloc | apply pw_below_drewN | apply below_drew1 | refine below_set ?_ (IsS30.ge HI0.out)) | exact HB.out)); rintro e w6 ⟨rfl, hi, hb, hk⟩; refine ⟨_, rfl, ?_⟩; have n0_ := Aside0.mk (KeepBut.trans (by with_reducible repeat (first | exact HK.out | apply KeepBut.set_ | apply keep_drewN | apply keep_drew | apply keep_alloc)) hk (.inl rfl)); have n1_ := Aside0.mk (hb); have n2_ := Aside0.mk (hi); clear HK; clear HB; clear HI0; have HK := n0_; have HB := n1_; have HI0 := n2_; clear n0_ n1_ n2_; (try clear hb); (try clear hb2); (try clear hk); (try clear hi); obtain ⟨ASz7_1, cSz7_1, ASz7_2, cSz7_2, HGz7, hgz7, HSz7_1, HSz7_2⟩ := HI0.out; have hcz7_0 := cellS30_0 HGz7; have hcz7_1 := cellS30_1 HGz7; have hcz7_2 := cellS30_2 HGz7; have hcz7_3 := cellS30_3 HGz7; have hcz7_4 := cellS30_4 HGz7; have hcz7_5 := cellS30_5 HGz7; have hcz7_6 := cellS30_6 HGz7; have hfz7_0 := blk_frozen HGz7 0; have hfz7_3 := blk_frozen HGz7 3; have hfz7_4 := blk_frozen HGz7 4; have hfz7_5 := blk_frozen HGz7 5; have hfz7_6 := blk_frozen HGz7 6; clear HGz7 hgz7))
   go_meet
   case rel => exact ⟨_, (((l1.length : Int) != t534)), (t534), (t535), (t536), (t537), (t538), (by first | rfl | (simp; done) | (simp [*]; done)), H', ⟨by first | omega | exact Nat.le_refl _⟩, ⟨by with_reducible repeat (first | exact HI0.out | apply IsS30.alloc | apply IsS30.drewN | apply IsS30.drew | apply IsS30.set_0 | apply IsS30.set_3 | apply IsS30.set_4 | apply IsS30.set_5 | apply IsS30.set_6)⟩, ⟨by with_reducible repeat (first | exact HK.out | apply KeepBut.set_ | apply keep_drewN | apply keep_drew | apply keep_alloc)⟩, ⟨by with_reducible repeat (first | exact HB.out | apply below_alloc | apply pw_below_drewN | apply below_drew1 | refine below_set ?_ (IsS30.ge HI0.out))⟩⟩
  ·replace c5 := Bool.eq_false_iff.mpr c5
   subst c5
   rw [if_neg (by decide)] at H
   have H' := Aside0.mk H
   clear H
   go_wp2_with (first | ((with_reducible refine gate_callee (f := 47) rfl ?_); refine goesL_ (some 7) rfl rfl Try.func47 (by kernel_rfl) rfl #[.pointer (some ⟨g, 0, none⟩)] rfl (by (try simp only [List.map_toArray, List.map_cons, List.map_nil]); first | done | rfl | (simp only [List.length_drop, List.length_take]; rfl)) ?_; (with_reducible refine (spec_l06Is.calls g s0_0 s0_1 s0_2 s0_3 s0_4 s0_5 s0_6 false t534 t535 t536 t537 t538 w0 _ ?side1 ?side2 A4.out).mono ?_); (case side1 => repeat (first | (with_reducible first | exact HI0.out | apply IsS30.alloc | apply IsS30.drewN | apply IsS30.drew | apply IsS30.set_0 | apply IsS30.set_3 | apply IsS30.set_4 | apply IsS30.set_5 | apply IsS30.set_6) | exact HI0.out)); (case side2 => repeat (first | (with_reducible first | exact HB.out | apply below_alloc | apply pw_below_drewN | apply below_drew1 | refine below_set ?_ (IsS30.ge HI0.out)) | exact HB.out)); rintro e w8 ⟨rfl, hi, hb, hk⟩; refine ⟨_, rfl, ?_⟩; have n0_ := Aside0.mk (KeepBut.trans (by with_reducible repeat (first | exact HK.out | apply KeepBut.set_ | apply keep_drewN | apply keep_drew | apply keep_alloc)) hk (.inl rfl)); have n1_ := Aside0.mk (hb); have n2_ := Aside0.mk (hi); clear HK; clear HB; clear HI0; have HK := n0_; have HB := n1_; have HI0 := n2_; clear n0_ n1_ n2_; (try clear hb); (try clear hb2); (try clear hk); (try clear hi)))
   go_meet
   case rel => exact ⟨_, (true), (t534), (t535), (t536), (t537), (t538), (by first | rfl | (simp; done) | (simp [*]; done)), H', ⟨by first | omega | exact Nat.le_refl _⟩, ⟨by with_reducible repeat (first | exact HI0.out | apply IsS30.alloc | apply IsS30.drewN | apply IsS30.drew | apply IsS30.set_0 | apply IsS30.set_3 | apply IsS30.set_4 | apply IsS30.set_5 | apply IsS30.set_6)⟩, ⟨by with_reducible repeat (first | exact HK.out | apply KeepBut.set_ | apply keep_drewN | apply keep_drew | apply keep_alloc)⟩, ⟨by with_reducible repeat (first | exact HB.out | apply below_alloc | apply pw_below_drewN | apply below_drew1 | refine below_set ?_ (IsS30.ge HI0.out))⟩⟩
 case rest =>
  clear HC3
  try clear c1
  try clear p2
  try clear c4
  try clear c5
  try clear c6
  try clear hcz7_0
  try clear hcz7_1
  try clear hcz7_2
  try clear hcz7_3
  try clear hcz7_4
  try clear hcz7_5
  try clear hcz7_6
  try clear hfz7_0
  try clear hfz7_3
  try clear hfz7_4
  try clear hfz7_5
  try clear hfz7_6
  obtain ⟨kq, x17_2, x1000_2, x1003_2, x1004_2, x1005_2, x1006_2, rfl, HA, HJ2, HI0, HK, HB⟩ := hcut
  cases kq with
  | zero => exact absurd HA.out (by simp [spec_l06Skews.j0])
  | succ kj2 =>
   have H := HA.out
   clear HA
   simp only [spec_l06Skews.j0] at H
   by_cases c9 : x17_2 = true
   ·subst c9
    rw [if_pos rfl] at H
    simp only [Option.some.injEq, Prod.mk.injEq] at H
    obtain ⟨rfl, rfl, rfl, rfl, rfl, rfl⟩ := H
    go_wp2
    go_ret
    exact ⟨by first | rfl | (simp [errW_none, errW_some] <;> rfl) | (simp [*, errW_none, errW_some] <;> rfl), by with_reducible repeat (first | exact HI0.out | apply IsS30.alloc | apply IsS30.drewN | apply IsS30.drew | apply IsS30.set_0 | apply IsS30.set_3 | apply IsS30.set_4 | apply IsS30.set_5 | apply IsS30.set_6), by with_reducible repeat (first | exact HB.out | apply below_alloc | apply pw_below_drewN | apply below_drew1 | refine below_set ?_ (IsS30.ge HI0.out)), by with_reducible repeat (first | exact HK.out | apply KeepBut.set_ | apply keep_drewN | apply keep_drew | apply keep_alloc)⟩
   ·replace c9 := Bool.eq_false_iff.mpr c9
    subst c9
    rw [if_neg (by decide)] at H
    have H' := Aside0.mk H
    clear H
    go_wp2
    go_loopg [5] kj2 (fun kq v5 w' => ∃ (x5_2 : Int), v5 = .int .i64 x5_2 ∧ Aside0 (spec_l06Skews.l0 kq l1 x5_2 x1000_2 s0_1 s0_2 x1003_2 x1004_2 x1005_2 x1006_2 = some (r1, r2, r3, r4, r5, r6)) ∧ Aside0 (kq ≤ kj2) ∧ Aside0 (IsS30 w0 w' g x1000_2 s0_1 s0_2 x1003_2 x1004_2 x1005_2 x1006_2) ∧ Aside0 (KeepBut w w' g none) ∧ Aside0 (Below w0.heap.size w0 w'))
    case atStart => exact ⟨(0), (by first | rfl | (simp; done) | (simp [*]; done)), H', ⟨Nat.le_refl _⟩, ⟨by with_reducible repeat (first | exact HI0.out | apply IsS30.alloc | apply IsS30.drewN | apply IsS30.drew | apply IsS30.set_0 | apply IsS30.set_3 | apply IsS30.set_4 | apply IsS30.set_5 | apply IsS30.set_6)⟩, ⟨by with_reducible repeat (first | exact HK.out | apply KeepBut.set_ | apply keep_drewN | apply keep_drew | apply keep_alloc)⟩, ⟨by with_reducible repeat (first | exact HB.out | apply below_alloc | apply pw_below_drewN | apply below_drew1 | refine below_set ?_ (IsS30.ge HI0.out))⟩⟩
    case round =>
     clear H'
     try clear c1
     try clear p2
     try clear c4
     try clear c5
     try clear c6
     try clear c9
     try clear hcz7_0
     try clear hcz7_1
     try clear hcz7_2
     try clear hcz7_3
     try clear hcz7_4
     try clear hcz7_5
     try clear hcz7_6
     try clear hfz7_0
     try clear hfz7_3
     try clear hfz7_4
     try clear hfz7_5
     try clear hfz7_6
     try clear p2
     obtain ⟨x5_2, rfl, HA, HK2, HI0, HK, HB⟩ := hrel
     cases gk with
     | zero => exact absurd HA.out (by simp [spec_l06Skews.l0])
     | succ k2 =>
      have H := HA.out
      clear HA
      simp only [spec_l06Skews.l0] at H
      by_cases c10 : x5_2 < (l1.length : Int)
      ·rw [if_pos c10] at H
       have c10b0 : decide (x5_2 < (l1.length : Int)) = true := decide_eq_true c10
       clear c10
       by_cases c11 : 0 ≤ x5_2
       case neg => rw [if_neg c11] at H; exact absurd H (by simp)
       rw [if_pos c11] at H
       have c11b0 : decide (0 ≤ x5_2) = true := decide_eq_true c11
       clear c11
       replace H := Option.bind_eq_some_iff.mp H
       obtain ⟨t540, A120, H⟩ := H
       try dsimp only at H
       have A12 := Aside0.mk A120
       clear A120
       by_cases c13 : t540 = true
       ·subst c13
        rw [if_pos rfl] at H
        have H' := Aside0.mk H
        clear H
        have p539 : 0 ≤ (x5_2 : Int) := of_decide_eq_true (by with_reducible assumption)
        have q539 : x5_2 < (l1.length : Int) := of_decide_eq_true (by with_reducible assumption)
        obtain ⟨ad539, e539, hx539_0⟩ := Kd.at_int HR1.out x5_2 p539 q539
        cases e539
        replace hx539_0 := keep_cell HK.out hx539_0 (by first | (rw [add_block]; exact hf1 _ rfl (by omega)) | exact hf1 _ rfl (by omega) | exact hf1 ad539 rfl (by omega))
        replace p539 := eq_true p539
        replace q539 := eq_true q539
        go_wp2_with (first | ((with_reducible refine gate_callee (f := 60) rfl ?_); refine goesL_ (some 28) rfl rfl Try.func60 (by kernel_rfl) rfl #[.int .i64 (rd l1 x5_2), .int .i64 0, .int .i64 100000] rfl (by (try simp only [List.map_toArray, List.map_cons, List.map_nil]); first | done | rfl | (simp only [List.length_drop, List.length_take]; rfl)) ?_; (with_reducible refine (spec_l00In.calls (rd l1 x5_2) 0 100000 true _ A12.out).mono ?_); rintro e w' ⟨rfl, ⟨nd, rfl⟩⟩; refine ⟨_, rfl, ?_⟩))
        go_roundg k2
        case measure => have := HJ2.out; have := HK2.out; omega
        case rel => exact ⟨(wrap64 (x5_2 + 1)), (by first | rfl | (simp; done) | (simp [*]; done)), H', ⟨by have := HJ2.out; have := HK2.out; omega⟩, ⟨by with_reducible repeat (first | exact HI0.out | apply IsS30.alloc | apply IsS30.drewN | apply IsS30.drew | apply IsS30.set_0 | apply IsS30.set_3 | apply IsS30.set_4 | apply IsS30.set_5 | apply IsS30.set_6)⟩, ⟨by with_reducible repeat (first | exact HK.out | apply KeepBut.set_ | apply keep_drewN | apply keep_drew | apply keep_alloc)⟩, ⟨by with_reducible repeat (first | exact HB.out | apply below_alloc | apply pw_below_drewN | apply below_drew1 | refine below_set ?_ (IsS30.ge HI0.out))⟩⟩
       ·replace c13 := Bool.eq_false_iff.mpr c13
        subst c13
        rw [if_neg (by decide)] at H
        simp only [Option.some.injEq, Prod.mk.injEq] at H
        obtain ⟨rfl, rfl, rfl, rfl, rfl, rfl⟩ := H
        have p539 : 0 ≤ (x5_2 : Int) := of_decide_eq_true (by with_reducible assumption)
        have q539 : x5_2 < (l1.length : Int) := of_decide_eq_true (by with_reducible assumption)
        obtain ⟨ad539, e539, hx539_0⟩ := Kd.at_int HR1.out x5_2 p539 q539
        cases e539
        replace hx539_0 := keep_cell HK.out hx539_0 (by first | (rw [add_block]; exact hf1 _ rfl (by omega)) | exact hf1 _ rfl (by omega) | exact hf1 ad539 rfl (by omega))
        replace p539 := eq_true p539
        replace q539 := eq_true q539
        go_wp2_with (first | ((with_reducible refine gate_callee (f := 60) rfl ?_); refine goesL_ (some 28) rfl rfl Try.func60 (by kernel_rfl) rfl #[.int .i64 (rd l1 x5_2), .int .i64 0, .int .i64 100000] rfl (by (try simp only [List.map_toArray, List.map_cons, List.map_nil]); first | done | rfl | (simp only [List.length_drop, List.length_take]; rfl)) ?_; (with_reducible refine (spec_l00In.calls (rd l1 x5_2) 0 100000 false _ A12.out).mono ?_); rintro e w' ⟨rfl, ⟨nd, rfl⟩⟩; refine ⟨_, rfl, ?_⟩))
        go_ret
        exact ⟨by first | rfl | (simp [errW_none, errW_some] <;> rfl) | (simp [*, errW_none, errW_some] <;> rfl), by with_reducible repeat (first | exact HI0.out | apply IsS30.alloc | apply IsS30.drewN | apply IsS30.drew | apply IsS30.set_0 | apply IsS30.set_3 | apply IsS30.set_4 | apply IsS30.set_5 | apply IsS30.set_6), by with_reducible repeat (first | exact HB.out | apply below_alloc | apply pw_below_drewN | apply below_drew1 | refine below_set ?_ (IsS30.ge HI0.out)), by with_reducible repeat (first | exact HK.out | apply KeepBut.set_ | apply keep_drewN | apply keep_drew | apply keep_alloc)⟩
      ·rw [if_neg c10] at H
       have c10b0 : decide (x5_2 < (l1.length : Int)) = false := decide_eq_false c10
       clear c10
       simp only [Option.some.injEq, Prod.mk.injEq] at H
       obtain ⟨rfl, rfl, rfl, rfl, rfl, rfl⟩ := H
       go_wp2
       go_ret
       exact ⟨by first | rfl | (simp [errW_none, errW_some] <;> rfl) | (simp [*, errW_none, errW_some] <;> rfl), by with_reducible repeat (first | exact HI0.out | apply IsS30.alloc | apply IsS30.drewN | apply IsS30.drew | apply IsS30.set_0 | apply IsS30.set_3 | apply IsS30.set_4 | apply IsS30.set_5 | apply IsS30.set_6), by with_reducible repeat (first | exact HB.out | apply below_alloc | apply pw_below_drewN | apply below_drew1 | refine below_set ?_ (IsS30.ge HI0.out)), by with_reducible repeat (first | exact HK.out | apply KeepBut.set_ | apply keep_drewN | apply keep_drew | apply keep_alloc)⟩

end Go.Proofs.Ytalafmahgeejiaa.Pa

namespace Go.Proofs.Ytalafmahgeejiaa.Pa
open Go.RowKit Go.Proofs.YtalafmahgeejiaaW.PrintWords Go.Proofs.YtalafmahgeejiaaW.PrintLast Go.Proofs.YtalafmahgeejiaaW.PrintMore
attribute [local go_sem] max2_int min2_int max_two min_two max_three min_three max_four min_four   -- for this text's walks alone
set_option linter.unusedVariables false
set_option linter.unusedSimpArgs false

/-! ### impl_areSkews_1: function 100088 -/
/-- The test that areSkews hands on: a number that is no skew. -/
def badSkew (x : Int) : Bool := !(decide (0 ≤ x) && decide (x ≤ 100000))
def impl_areSkews_1.f (l : List Int) : Option Bool := some (l.any badSkew)
set_option maxHeartbeats 4000000 in
set_option maxRecDepth 100000 in
theorem impl_areSkews_1.test (w W : World) (x : Int) (hb : Below w.heap.size w W) :
  Calls Try.prog 88 (#[.int .i64 x] ++ #[]) W fun e w' => e = .returned (.bool (badSkew x)) ∧ Below w.heap.size w w' := by
 have HB := Aside0.mk hb
 clear hb
 have hq : impl_within.f x 0 100000 = some (decide (0 ≤ x) && decide (x ≤ 100000)) := by
  unfold impl_within.f
  by_cases h : 0 ≤ x <;> simp [h]
 have HQ := Aside0.mk hq
 clear hq
 unfold badSkew
 generalize (decide (0 ≤ x) && decide (x ≤ 100000)) = q at HQ ⊢
 show Calls Try.prog 88 #[.int .i64 x] W _
 go_enter Try.func88, Try.ntmps88
 go_wp2_with (go_at_call 49; refine (impl_within.calls _ _ _ q _ HQ.out).mono ?_; rintro e w' ⟨rfl, ⟨nd, rfl⟩⟩)
 go_ret
 exact ⟨rfl, pw_below_drewN HB.out nd⟩
theorem impl_areSkews_1.calls (A : Option Addr) (c : Nat) (l : List Int) (r : Bool) (w : World) (hr : Kd.C (Kd.int .i64) w A l.length l) (hc : l.length ≤ c) (h : impl_areSkews_1.f l = some r) :
  Calls Try.prog 52 #[.slice A l.length c, .func (.func 88) #[] #[]] w fun e w' => e = .returned (.bool r) ∧ Below w.heap.size w w' := by
 obtain rfl := Option.some.inj h
 exact containsI.calls A c l 88 #[] badSkew w hr (enters_of Try.func88 (by kernel_rfl) rfl) (fun W x _ hb => impl_areSkews_1.test w W x hb)

end Go.Proofs.Ytalafmahgeejiaa.Pa

namespace Go.Proofs.Ytalafmahgeejiaa.Pa
open Go.RowKit Go.Proofs.YtalafmahgeejiaaW.PrintWords Go.Proofs.YtalafmahgeejiaaW.PrintLast Go.Proofs.YtalafmahgeejiaaW.PrintMore
attribute [local go_sem] max2_int min2_int max_two min_two max_three min_three max_four min_four   -- for this text's walks alone
set_option linter.unusedVariables false
set_option linter.unusedSimpArgs false

/-! ### impl_areSkews: function 67 -/
def impl_areSkews.f (a0_0 : Int) (l0_1 : List (S62)) (l0_2 : List Int) (a0_3 : Int) (a0_4 : Int) (a0_5 : Int) (a0_6 : Int) (l1 : List Int) : Option (Bool) := (impl_ValidCircuit.f a0_0 l0_1 l0_2 a0_3 a0_4 a0_5 a0_6).bind fun t567 => (if t567 = true then (if (l1.length : Int) = a0_0 then ((impl_areSkews_1.f l1).bind fun t568 => (some (!t568))) else (some false)) else (some false))
set_option maxHeartbeats 8000000 in
set_option maxRecDepth 100000 in
theorem impl_areSkews.calls (a0_0 : Int) (A0_1 : Option Addr) (c0_1 : Nat) (l0_1 : List (S62)) (A0_2 : Option Addr) (c0_2 : Nat) (l0_2 : List Int) (a0_3 : Int) (a0_4 : Int) (a0_5 : Int) (a0_6 : Int) (A1 : Option Addr) (c1 : Nat) (l1 : List Int) (r : Bool) (w : World) (hr0_1 : Kd.C k62 w A0_1 l0_1.length l0_1) (hc0_1 : l0_1.length ≤ c0_1) (hr0_2 : Kd.C (Kd.int .i64) w A0_2 l0_2.length l0_2) (hc0_2 : l0_2.length ≤ c0_2) (hr1 : Kd.C (Kd.int .i64) w A1 l1.length l1) (hc1 : l1.length ≤ c1) (h : impl_areSkews.f a0_0 l0_1 l0_2 a0_3 a0_4 a0_5 a0_6 l1 = some r) :
  Calls Try.prog 67 #[.agg #[.int .i64 a0_0, .slice A0_1 l0_1.length c0_1, .slice A0_2 l0_2.length c0_2, .int .i64 a0_3, .int .i64 a0_4, .int .i64 a0_5, .int .i64 a0_6], .slice A1 l1.length c1] w fun e w' => e = .returned (.bool r) ∧ Below w.heap.size w w' := by
 have hu30 := Try.underlying30
 have HR0_1 := Aside0.mk hr0_1
 have HC0_1 := Aside0.mk hc0_1
 clear hr0_1 hc0_1
 have HR0_2 := Aside0.mk hr0_2
 have HC0_2 := Aside0.mk hc0_2
 clear hr0_2 hc0_2
 have HR1 := Aside0.mk hr1
 have HC1 := Aside0.mk hc1
 clear hr1 hc1
 have HB := Aside0.mk (Below.refl w.heap.size w)
 have H : ((impl_ValidCircuit.f a0_0 l0_1 l0_2 a0_3 a0_4 a0_5 a0_6).bind fun t567 => (if t567 = true then (if (l1.length : Int) = a0_0 then ((impl_areSkews_1.f l1).bind fun t568 => (some (!t568))) else (some false)) else (some false))) = some r := h
 clear h
 replace H := Option.bind_eq_some_iff.mp H
 obtain ⟨t567, A30, H⟩ := H
 try dsimp only at H
 have A3 := Aside0.mk A30
 clear A30
 by_cases c4 : t567 = true
 ·subst c4
  rw [if_pos rfl] at H
  by_cases c5 : (l1.length : Int) = a0_0
  ·rw [if_pos c5] at H
   have c5b0 : ((l1.length : Int) == a0_0) = true := beq_iff_eq.mpr c5
   have c5b1 : ((l1.length : Int) != a0_0) = false := bne_eq_false_iff_eq.mpr c5
   clear c5
   replace H := Option.bind_eq_some_iff.mp H
   obtain ⟨t568, A60, H⟩ := H
   try dsimp only at H
   have A6 := Aside0.mk A60
   clear A60
   obtain rfl := Option.some.inj H
   go_enter Try.func67, Try.ntmps67
   go_wp2_with (first | ((with_reducible refine gate_dst (N := 2) rfl ?_); (try (refine gate_guard (by rfl) ?_; dsimp only)); refine box_event ?hg (N := 2) ?hd (cs := #[.int .i64 a0_0, .slice A0_1 l0_1.length c0_1, .slice A0_2 l0_2.length c0_2, .int .i64 a0_3, .int .i64 a0_4, .int .i64 a0_5, .int .i64 a0_6]) (t := 30) ?hr ?_; (case hd => rfl); (case hg => rfl); (case hr => first | (go_simp; done) | (go_simp; rfl)); intro gb566 hg w7 hbox hb; have n0_ := Aside0.mk (below_step (by with_reducible repeat (first | exact HB.out | apply below_alloc | apply pw_below_drewN | apply below_drew1)) hb); have n1_ := Aside0.mk (hbox); have n2_ := Aside0.mk ((by rw [hg]; exact (below_size (by with_reducible repeat (first | exact HB.out | apply below_alloc | apply pw_below_drewN | apply below_drew1))) : w.heap.size ≤ gb566)); have n3_ := Aside0.mk ((by rw [hg]; exact (below_size (by with_reducible repeat (first | exact HB.out | apply below_alloc | apply pw_below_drewN | apply below_drew1))) : w.heap.size ≤ gb566)); clear HB; have HB := n0_; have BK566 := n1_; have GW566 := n2_; have GE566 := n3_; clear n0_ n1_ n2_ n3_; clear hb hbox hg; have hcz8_0 : w7.cell? ⟨gb566, 0, none⟩ = some (.int .i64 a0_0) := (blk_cell BK566.out 0).trans rfl; have hcz8_1 : w7.cell? ⟨gb566, 1, none⟩ = some (.slice A0_1 l0_1.length c0_1) := (blk_cell BK566.out 1).trans rfl; have hcz8_2 : w7.cell? ⟨gb566, 2, none⟩ = some (.slice A0_2 l0_2.length c0_2) := (blk_cell BK566.out 2).trans rfl; have hcz8_3 : w7.cell? ⟨gb566, 3, none⟩ = some (.int .i64 a0_3) := (blk_cell BK566.out 3).trans rfl; have hcz8_4 : w7.cell? ⟨gb566, 4, none⟩ = some (.int .i64 a0_4) := (blk_cell BK566.out 4).trans rfl; have hcz8_5 : w7.cell? ⟨gb566, 5, none⟩ = some (.int .i64 a0_5) := (blk_cell BK566.out 5).trans rfl; have hcz8_6 : w7.cell? ⟨gb566, 6, none⟩ = some (.int .i64 a0_6) := (blk_cell BK566.out 6).trans rfl; have hfz8_0 := blk_frozen BK566.out 0; have hfz8_1 := blk_frozen BK566.out 1; have hfz8_2 := blk_frozen BK566.out 2; have hfz8_3 := blk_frozen BK566.out 3; have hfz8_4 := blk_frozen BK566.out 4; have hfz8_5 := blk_frozen BK566.out 5; have hfz8_6 := blk_frozen BK566.out 6) | ((with_reducible refine gate_callee (f := 17) rfl ?_); refine goesL_ (some 6) rfl rfl Try.func17 (by kernel_rfl) rfl #[.agg #[.int .i64 a0_0, .slice A0_1 l0_1.length c0_1, .slice A0_2 l0_2.length c0_2, .int .i64 a0_3, .int .i64 a0_4, .int .i64 a0_5, .int .i64 a0_6]] rfl (by (try simp only [List.map_toArray, List.map_cons, List.map_nil]); first | done | rfl | (simp only [List.length_drop, List.length_take]; rfl)) ?_; (with_reducible refine (impl_ValidCircuit.calls a0_0 _ _ l0_1 _ _ l0_2 a0_3 a0_4 a0_5 a0_6 true _ ?side1 ?side2 ?side3 ?side4 A3.out).mono ?_); (case side1 => repeat (first | exact (Kd.C_below HR0_1.out HB.out) | (with_reducible refine Kd.C_alloc ?_ _) | (with_reducible refine Kd.C_drewN ?_ _) | (with_reducible refine Kd.C_drew ?_))); (case side2 => exact HC0_1.out); (case side3 => repeat (first | exact (Kd.C_below HR0_2.out HB.out) | (with_reducible refine Kd.C_alloc ?_ _) | (with_reducible refine Kd.C_drewN ?_ _) | (with_reducible refine Kd.C_drew ?_))); (case side4 => exact HC0_2.out); rintro e w9 ⟨rfl, hb⟩; refine ⟨_, rfl, ?_⟩; have n0_ := Aside0.mk (blk_below (g := gb566) (by (with_reducible repeat (first | refine blk_drewN ?_ _ | refine blk_drew ?_ | refine blk_alloc ?_ _)); exact BK566.out) hb); have n1_ := Aside0.mk (below_step (by with_reducible repeat (first | exact HB.out | apply below_alloc | apply pw_below_drewN | apply below_drew1 | refine below_set ?_ GE566.out)) hb); clear BK566; clear HB; have BK566 := n0_; have HB := n1_; clear n0_ n1_; (try clear hb); (try clear hb2); (try clear hk); (try clear hi); have hcz10_0 : w9.cell? ⟨gb566, 0, none⟩ = some (.int .i64 a0_0) := (blk_cell BK566.out 0).trans rfl; have hcz10_1 : w9.cell? ⟨gb566, 1, none⟩ = some (.slice A0_1 l0_1.length c0_1) := (blk_cell BK566.out 1).trans rfl; have hcz10_2 : w9.cell? ⟨gb566, 2, none⟩ = some (.slice A0_2 l0_2.length c0_2) := (blk_cell BK566.out 2).trans rfl; have hcz10_3 : w9.cell? ⟨gb566, 3, none⟩ = some (.int .i64 a0_3) := (blk_cell BK566.out 3).trans rfl; have hcz10_4 : w9.cell? ⟨gb566, 4, none⟩ = some (.int .i64 a0_4) := (blk_cell BK566.out 4).trans rfl; have hcz10_5 : w9.cell? ⟨gb566, 5, none⟩ = some (.int .i64 a0_5) := (blk_cell BK566.out 5).trans rfl; have hcz10_6 : w9.cell? ⟨gb566, 6, none⟩ = some (.int .i64 a0_6) := (blk_cell BK566.out 6).trans rfl; have hfz10_0 := blk_frozen BK566.out 0; have hfz10_1 := blk_frozen BK566.out 1; have hfz10_2 := blk_frozen BK566.out 2; have hfz10_3 := blk_frozen BK566.out 3; have hfz10_4 := blk_frozen BK566.out 4; have hfz10_5 := blk_frozen BK566.out 5; have hfz10_6 := blk_frozen BK566.out 6) | (go_at_call 52; (with_reducible refine (impl_areSkews_1.calls _ _ l1 t568 _ ?side1 ?side2 A6.out).mono ?_); (case side1 => repeat (first | exact (Kd.C_below HR1.out HB.out) | (with_reducible refine Kd.C_alloc ?_ _) | (with_reducible refine Kd.C_drewN ?_ _) | (with_reducible refine Kd.C_drew ?_))); (case side2 => exact HC1.out); rintro e w11 ⟨rfl, hb⟩; have n0_ := Aside0.mk (blk_below (g := gb566) (by (with_reducible repeat (first | refine blk_drewN ?_ _ | refine blk_drew ?_ | refine blk_alloc ?_ _)); exact BK566.out) hb); have n1_ := Aside0.mk (below_step (by with_reducible repeat (first | exact HB.out | apply below_alloc | apply pw_below_drewN | apply below_drew1 | refine below_set ?_ GE566.out)) hb); clear BK566; clear HB; have BK566 := n0_; have HB := n1_; clear n0_ n1_; (try clear hb); (try clear hb2); (try clear hk); (try clear hi)))
   go_ret
   exact ⟨by first | rfl | (simp [errW_none, errW_some] <;> rfl) | (simp [*, errW_none, errW_some] <;> rfl), by with_reducible repeat (first | exact HB.out | apply below_alloc | apply pw_below_drewN | apply below_drew1 | refine below_set ?_ GE566.out)⟩
  ·rw [if_neg c5] at H
   have c5b0 : ((l1.length : Int) == a0_0) = false := beq_eq_false_iff_ne.mpr c5
   have c5b1 : ((l1.length : Int) != a0_0) = true := bne_iff_ne.mpr c5
   obtain rfl := Option.some.inj H
   go_enter Try.func67, Try.ntmps67
   go_wp2_with (first | ((with_reducible refine gate_dst (N := 2) rfl ?_); (try (refine gate_guard (by rfl) ?_; dsimp only)); refine box_event ?hg (N := 2) ?hd (cs := #[.int .i64 a0_0, .slice A0_1 l0_1.length c0_1, .slice A0_2 l0_2.length c0_2, .int .i64 a0_3, .int .i64 a0_4, .int .i64 a0_5, .int .i64 a0_6]) (t := 30) ?hr ?_; (case hd => rfl); (case hg => rfl); (case hr => first | (go_simp; done) | (go_simp; rfl)); intro gb566 hg w12 hbox hb; have n0_ := Aside0.mk (below_step (by with_reducible repeat (first | exact HB.out | apply below_alloc | apply pw_below_drewN | apply below_drew1)) hb); have n1_ := Aside0.mk (hbox); have n2_ := Aside0.mk ((by rw [hg]; exact (below_size (by with_reducible repeat (first | exact HB.out | apply below_alloc | apply pw_below_drewN | apply below_drew1))) : w.heap.size ≤ gb566)); have n3_ := Aside0.mk ((by rw [hg]; exact (below_size (by with_reducible repeat (first | exact HB.out | apply below_alloc | apply pw_below_drewN | apply below_drew1))) : w.heap.size ≤ gb566)); clear HB; have HB := n0_; have BK566 := n1_; have GW566 := n2_; have GE566 := n3_; clear n0_ n1_ n2_ n3_; clear hb hbox hg; have hcz13_0 : w12.cell? ⟨gb566, 0, none⟩ = some (.int .i64 a0_0) := (blk_cell BK566.out 0).trans rfl; have hcz13_1 : w12.cell? ⟨gb566, 1, none⟩ = some (.slice A0_1 l0_1.length c0_1) := (blk_cell BK566.out 1).trans rfl; have hcz13_2 : w12.cell? ⟨gb566, 2, none⟩ = some (.slice A0_2 l0_2.length c0_2) := (blk_cell BK566.out 2).trans rfl; have hcz13_3 : w12.cell? ⟨gb566, 3, none⟩ = some (.int .i64 a0_3) := (blk_cell BK566.out 3).trans rfl; have hcz13_4 : w12.cell? ⟨gb566, 4, none⟩ = some (.int .i64 a0_4) := (blk_cell BK566.out 4).trans rfl; have hcz13_5 : w12.cell? ⟨gb566, 5, none⟩ = some (.int .i64 a0_5) := (blk_cell BK566.out 5).trans rfl; have hcz13_6 : w12.cell? ⟨gb566, 6, none⟩ = some (.int .i64 a0_6) := (blk_cell BK566.out 6).trans rfl; have hfz13_0 := blk_frozen BK566.out 0; have hfz13_1 := blk_frozen BK566.out 1; have hfz13_2 := blk_frozen BK566.out 2; have hfz13_3 := blk_frozen BK566.out 3; have hfz13_4 := blk_frozen BK566.out 4; have hfz13_5 := blk_frozen BK566.out 5; have hfz13_6 := blk_frozen BK566.out 6) | ((with_reducible refine gate_callee (f := 17) rfl ?_); refine goesL_ (some 6) rfl rfl Try.func17 (by kernel_rfl) rfl #[.agg #[.int .i64 a0_0, .slice A0_1 l0_1.length c0_1, .slice A0_2 l0_2.length c0_2, .int .i64 a0_3, .int .i64 a0_4, .int .i64 a0_5, .int .i64 a0_6]] rfl (by (try simp only [List.map_toArray, List.map_cons, List.map_nil]); first | done | rfl | (simp only [List.length_drop, List.length_take]; rfl)) ?_; (with_reducible refine (impl_ValidCircuit.calls a0_0 _ _ l0_1 _ _ l0_2 a0_3 a0_4 a0_5 a0_6 true _ ?side1 ?side2 ?side3 ?side4 A3.out).mono ?_); (case side1 => repeat (first | exact (Kd.C_below HR0_1.out HB.out) | (with_reducible refine Kd.C_alloc ?_ _) | (with_reducible refine Kd.C_drewN ?_ _) | (with_reducible refine Kd.C_drew ?_))); (case side2 => exact HC0_1.out); (case side3 => repeat (first | exact (Kd.C_below HR0_2.out HB.out) | (with_reducible refine Kd.C_alloc ?_ _) | (with_reducible refine Kd.C_drewN ?_ _) | (with_reducible refine Kd.C_drew ?_))); (case side4 => exact HC0_2.out); rintro e w14 ⟨rfl, hb⟩; refine ⟨_, rfl, ?_⟩; have n0_ := Aside0.mk (blk_below (g := gb566) (by (with_reducible repeat (first | refine blk_drewN ?_ _ | refine blk_drew ?_ | refine blk_alloc ?_ _)); exact BK566.out) hb); have n1_ := Aside0.mk (below_step (by with_reducible repeat (first | exact HB.out | apply below_alloc | apply pw_below_drewN | apply below_drew1 | refine below_set ?_ GE566.out)) hb); clear BK566; clear HB; have BK566 := n0_; have HB := n1_; clear n0_ n1_; (try clear hb); (try clear hb2); (try clear hk); (try clear hi); have hcz15_0 : w14.cell? ⟨gb566, 0, none⟩ = some (.int .i64 a0_0) := (blk_cell BK566.out 0).trans rfl; have hcz15_1 : w14.cell? ⟨gb566, 1, none⟩ = some (.slice A0_1 l0_1.length c0_1) := (blk_cell BK566.out 1).trans rfl; have hcz15_2 : w14.cell? ⟨gb566, 2, none⟩ = some (.slice A0_2 l0_2.length c0_2) := (blk_cell BK566.out 2).trans rfl; have hcz15_3 : w14.cell? ⟨gb566, 3, none⟩ = some (.int .i64 a0_3) := (blk_cell BK566.out 3).trans rfl; have hcz15_4 : w14.cell? ⟨gb566, 4, none⟩ = some (.int .i64 a0_4) := (blk_cell BK566.out 4).trans rfl; have hcz15_5 : w14.cell? ⟨gb566, 5, none⟩ = some (.int .i64 a0_5) := (blk_cell BK566.out 5).trans rfl; have hcz15_6 : w14.cell? ⟨gb566, 6, none⟩ = some (.int .i64 a0_6) := (blk_cell BK566.out 6).trans rfl; have hfz15_0 := blk_frozen BK566.out 0; have hfz15_1 := blk_frozen BK566.out 1; have hfz15_2 := blk_frozen BK566.out 2; have hfz15_3 := blk_frozen BK566.out 3; have hfz15_4 := blk_frozen BK566.out 4; have hfz15_5 := blk_frozen BK566.out 5; have hfz15_6 := blk_frozen BK566.out 6))
   go_ret
   exact ⟨by first | rfl | (simp [errW_none, errW_some] <;> rfl) | (simp [*, errW_none, errW_some] <;> rfl), by with_reducible repeat (first | exact HB.out | apply below_alloc | apply pw_below_drewN | apply below_drew1 | refine below_set ?_ GE566.out)⟩
 ·replace c4 := Bool.eq_false_iff.mpr c4
  subst c4
  rw [if_neg (by decide)] at H
  obtain rfl := Option.some.inj H
  go_enter Try.func67, Try.ntmps67
  go_wp2_with (first | ((with_reducible refine gate_dst (N := 2) rfl ?_); (try (refine gate_guard (by rfl) ?_; dsimp only)); refine box_event ?hg (N := 2) ?hd (cs := #[.int .i64 a0_0, .slice A0_1 l0_1.length c0_1, .slice A0_2 l0_2.length c0_2, .int .i64 a0_3, .int .i64 a0_4, .int .i64 a0_5, .int .i64 a0_6]) (t := 30) ?hr ?_; (case hd => rfl); (case hg => rfl); (case hr => first | (go_simp; done) | (go_simp; rfl)); intro gb566 hg w16 hbox hb; have n0_ := Aside0.mk (below_step (by with_reducible repeat (first | exact HB.out | apply below_alloc | apply pw_below_drewN | apply below_drew1)) hb); have n1_ := Aside0.mk (hbox); have n2_ := Aside0.mk ((by rw [hg]; exact (below_size (by with_reducible repeat (first | exact HB.out | apply below_alloc | apply pw_below_drewN | apply below_drew1))) : w.heap.size ≤ gb566)); have n3_ := Aside0.mk ((by rw [hg]; exact (below_size (by with_reducible repeat (first | exact HB.out | apply below_alloc | apply pw_below_drewN | apply below_drew1))) : w.heap.size ≤ gb566)); clear HB; have HB := n0_; have BK566 := n1_; have GW566 := n2_; have GE566 := n3_; clear n0_ n1_ n2_ n3_; clear hb hbox hg; have hcz17_0 : w16.cell? ⟨gb566, 0, none⟩ = some (.int .i64 a0_0) := (blk_cell BK566.out 0).trans rfl; have hcz17_1 : w16.cell? ⟨gb566, 1, none⟩ = some (.slice A0_1 l0_1.length c0_1) := (blk_cell BK566.out 1).trans rfl; have hcz17_2 : w16.cell? ⟨gb566, 2, none⟩ = some (.slice A0_2 l0_2.length c0_2) := (blk_cell BK566.out 2).trans rfl; have hcz17_3 : w16.cell? ⟨gb566, 3, none⟩ = some (.int .i64 a0_3) := (blk_cell BK566.out 3).trans rfl; have hcz17_4 : w16.cell? ⟨gb566, 4, none⟩ = some (.int .i64 a0_4) := (blk_cell BK566.out 4).trans rfl; have hcz17_5 : w16.cell? ⟨gb566, 5, none⟩ = some (.int .i64 a0_5) := (blk_cell BK566.out 5).trans rfl; have hcz17_6 : w16.cell? ⟨gb566, 6, none⟩ = some (.int .i64 a0_6) := (blk_cell BK566.out 6).trans rfl; have hfz17_0 := blk_frozen BK566.out 0; have hfz17_1 := blk_frozen BK566.out 1; have hfz17_2 := blk_frozen BK566.out 2; have hfz17_3 := blk_frozen BK566.out 3; have hfz17_4 := blk_frozen BK566.out 4; have hfz17_5 := blk_frozen BK566.out 5; have hfz17_6 := blk_frozen BK566.out 6) | ((with_reducible refine gate_callee (f := 17) rfl ?_); refine goesL_ (some 6) rfl rfl Try.func17 (by kernel_rfl) rfl #[.agg #[.int .i64 a0_0, .slice A0_1 l0_1.length c0_1, .slice A0_2 l0_2.length c0_2, .int .i64 a0_3, .int .i64 a0_4, .int .i64 a0_5, .int .i64 a0_6]] rfl (by (try simp only [List.map_toArray, List.map_cons, List.map_nil]); first | done | rfl | (simp only [List.length_drop, List.length_take]; rfl)) ?_; (with_reducible refine (impl_ValidCircuit.calls a0_0 _ _ l0_1 _ _ l0_2 a0_3 a0_4 a0_5 a0_6 false _ ?side1 ?side2 ?side3 ?side4 A3.out).mono ?_); (case side1 => repeat (first | exact (Kd.C_below HR0_1.out HB.out) | (with_reducible refine Kd.C_alloc ?_ _) | (with_reducible refine Kd.C_drewN ?_ _) | (with_reducible refine Kd.C_drew ?_))); (case side2 => exact HC0_1.out); (case side3 => repeat (first | exact (Kd.C_below HR0_2.out HB.out) | (with_reducible refine Kd.C_alloc ?_ _) | (with_reducible refine Kd.C_drewN ?_ _) | (with_reducible refine Kd.C_drew ?_))); (case side4 => exact HC0_2.out); rintro e w18 ⟨rfl, hb⟩; refine ⟨_, rfl, ?_⟩; have n0_ := Aside0.mk (blk_below (g := gb566) (by (with_reducible repeat (first | refine blk_drewN ?_ _ | refine blk_drew ?_ | refine blk_alloc ?_ _)); exact BK566.out) hb); have n1_ := Aside0.mk (below_step (by with_reducible repeat (first | exact HB.out | apply below_alloc | apply pw_below_drewN | apply below_drew1 | refine below_set ?_ GE566.out)) hb); clear BK566; clear HB; have BK566 := n0_; have HB := n1_; clear n0_ n1_; (try clear hb); (try clear hb2); (try clear hk); (try clear hi)))
  go_ret
  exact ⟨by first | rfl | (simp [errW_none, errW_some] <;> rfl) | (simp [*, errW_none, errW_some] <;> rfl), by with_reducible repeat (first | exact HB.out | apply below_alloc | apply pw_below_drewN | apply below_drew1 | refine below_set ?_ GE566.out)⟩

end Go.Proofs.Ytalafmahgeejiaa.Pa

/- Skews: the program's test of them and the reference's. -/
namespace Go.Proofs.Ytalafmahgeejiaa.Pure
open Go.RowKit Go.Proofs.Ytalafmahgeejiaa.Pa Go.Proofs.YtalafmahgeejiaaW.PrintWords Go.Proofs.YtalafmahgeejiaaW.PrintLast
set_option linter.unusedVariables false
set_option linter.unusedSimpArgs false

def skewsB (n : Int) (gates : List S62) (data : List Int) (a3 a4 a5 a6 : Int) (skews : List Int) : Bool :=
 validB n gates data a3 a4 a5 a6 && decide ((skews.length : Int) = n) && skews.all fun x => inB x 0 100000
theorem skews_loop (n a3 a4 a5 a6 : Int) (gates : List S62) (data skews : List Int) (hl : skews.length ≤ 1048576) (d : Nat) : ∀ (k i : Nat), i + d = skews.length → d < k →
  spec_l06Skews.l0 k skews (i : Int) n gates data a3 a4 a5 a6 = some ((skews.drop i).all (fun x => inB x 0 100000), n, a3, a4, a5, a6) := by
 induction d with
 | zero =>
  intro k i h hk
  obtain ⟨k, rfl⟩ : ∃ m, k = m + 1 := ⟨k - 1, by omega⟩
  simp only [spec_l06Skews.l0]
  rw [if_neg (by omega), List.drop_of_length_le (by omega)]
  rfl
 | succ d ih =>
  intro k i h hk
  obtain ⟨k, rfl⟩ : ∃ m, k = m + 1 := ⟨k - 1, by omega⟩
  have hi : i < skews.length := by omega
  simp only [spec_l06Skews.l0]
  rw [if_pos (by omega), if_pos (by omega), rd_get hi, in_tells, List.drop_eq_getElem_cons hi, List.all_cons]
  simp only [Option.bind_some]
  cases hb : inB skews[i] 0 100000 with
  | false => simp
  | true =>
   rw [if_pos rfl, wrap_id (by omega) (by omega)]
   have := ih k (i + 1) (by omega) (by omega)
   push_cast at this
   rw [this]
   simp
theorem specSkews (n : Int) (gates : List S62) (data : List Int) (a3 a4 a5 a6 : Int) (skews : List Int) (hw : ∀ g ∈ gates, g.f2.length ≤ 1048576) (hd : data.length ≤ 1048576) (hs : skews.length ≤ 1048576) :
  ∀ k, 2500000 ≤ k → spec_l06Skews.f k n gates data a3 a4 a5 a6 skews = some (skewsB n gates data a3 a4 a5 a6 skews, n, a3, a4, a5, a6) := by
 intro k hk
 obtain ⟨k, rfl⟩ : ∃ m, k = m + 1 := ⟨k - 1, by omega⟩
 unfold spec_l06Skews.f skewsB
 rw [is_tells n gates data a3 a4 a5 a6]
 simp only [Option.bind_some, spec_l06Skews.j0]
 cases hv : validB n gates data a3 a4 a5 a6 with
 | false => simp
 | true =>
  rw [if_pos rfl]
  by_cases h1 : (skews.length : Int) = n
  ·rw [show ((skews.length : Int) != n) = false by simp [h1], if_neg (by decide)]
   have := skews_loop n a3 a4 a5 a6 gates data skews hs skews.length k 0 (by omega) (by omega)
   rw [show ((0 : Nat) : Int) = 0 from rfl, List.drop_zero] at this
   rw [this]
   simp [h1]
  ·rw [show ((skews.length : Int) != n) = true by simp [h1]]
   simp [h1]
theorem implSkews (n : Int) (gates : List S62) (data : List Int) (a3 a4 a5 a6 : Int) (skews : List Int) : impl_areSkews.f n gates data a3 a4 a5 a6 skews = some (skewsB n gates data a3 a4 a5 a6 skews) := by
 unfold impl_areSkews.f skewsB
 rw [valid_tells n gates data a3 a4 a5 a6]
 simp only [Option.bind_some]
 cases hv : validB n gates data a3 a4 a5 a6 with
 | false => simp
 | true =>
  rw [if_pos rfl]
  by_cases h1 : (skews.length : Int) = n
  ·rw [if_pos h1]
   unfold impl_areSkews_1.f
   simp only [Option.bind_some, Bool.true_and]
   rw [decide_eq_true h1, List.all_eq_not_any_not]
   simp only [Bool.true_and]
   rfl
  ·rw [if_neg h1]
   simp [h1]
end Go.Proofs.Ytalafmahgeejiaa.Pure

