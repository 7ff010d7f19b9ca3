-- Written for this claim by a program of this session.
import Derived.Test.YtalafmahgeejiaaCore1
import Derived.Test.YtalafmahgeejiaaCore2
import Derived.Test.YtalafmahgeejiaaCore3
import Derived.Test.YtalafmahgeejiaaPax0
import Derived.Shelf.Abstract
/- The delays from a register to each node: the program's table and the reference's are one. -/
namespace Go.Proofs.Ytalafmahgeejiaa.Pure
open Go.RowKit Go.Proofs.Ytalafmahgeejiaa.Pa Go.Proofs.YtalafmahgeejiaaW.PrintWords Go.Proofs.YtalafmahgeejiaaW.PrintLast
set_option linter.unusedVariables false
set_option linter.unusedSimpArgs false

/-- The least and the greatest delay on ways to a node, if there is one. -/
abbrev Way := Option (Int × Int)
def lo : Way → Int
 | none => -1
 | some p => p.1
def hi : Way → Int
 | none => -1
 | some p => p.2
theorem lo_none : lo none = -1 := rfl
theorem hi_none : hi none = -1 := rfl
theorem lo_some (p : Int × Int) : lo (some p) = p.1 := rfl
theorem hi_some (p : Int × Int) : hi (some p) = p.2 := rfl
/-- One more input of a gate. -/
def joinG (g : S62) : Way → Way → Way
 | acc, none => acc
 | none, some p => some (p.1 + g.f0, p.2 + g.f1)
 | some q, some p => some (if p.1 + g.f0 < q.1 then p.1 + g.f0 else q.1, if q.2 < p.2 + g.f1 then p.2 + g.f1 else q.2)
def joins (g : S62) (t : List Way) : Way → List Int → Way
 | acc, [] => acc
 | acc, x :: l => joins g t (joinG g acc (t.getD x.toNat none)) l
def tabG : List Way → List S62 → List Way
 | t, [] => t
 | t, g :: l => tabG (t ++ [joins g t none g.f2]) l
def tab0 (a : Int) (n : Nat) : List Way := (List.range n).map fun r : Nat => if (r : Int) = a then some (0, 0) else none
/-- The table of all nodes, from a register. -/
def tab (a n : Int) (gates : List S62) : List Way := tabG (tab0 a n.toNat) gates
def Bd (m : Int) (v : Way) : Prop := ∀ p, v = some p → 0 ≤ p.1 ∧ p.1 ≤ p.2 ∧ p.2 ≤ m
theorem Bd.none (m : Int) : Bd m none := fun _ h => by simp at h
theorem Bd.mono {m m' : Int} {v : Way} (h : Bd m v) (hm : m ≤ m') : Bd m' v := fun p hp => by
 have := h p hp
 exact ⟨this.1, this.2.1, by omega⟩
theorem joinG_bd {g : S62} {m : Int} (hg : 0 ≤ g.f0 ∧ g.f0 ≤ g.f1 ∧ g.f1 ≤ 100) {acc v : Way} (ha : Bd (m + 100) acc) (hv : Bd m v) : Bd (m + 100) (joinG g acc v) := by
 intro p hp
 cases v with
 | none =>
  simp only [joinG] at hp
  exact ha p hp
 | some q =>
  have h1 := hv q rfl
  cases acc with
  | none =>
   simp only [joinG, Option.some.injEq] at hp
   subst hp
   exact ⟨by dsimp only; omega, by dsimp only; omega, by dsimp only; omega⟩
  | some r =>
   have h2 := ha r rfl
   simp only [joinG, Option.some.injEq] at hp
   subst hp
   dsimp only
   refine ⟨?_, ?_, ?_⟩ <;> (repeat' split) <;> omega
theorem getD_bd {m : Int} {t : List Way} (ht : ∀ v ∈ t, Bd m v) (i : Nat) : Bd m (t.getD i none) := by
 rw [List.getD_eq_getElem?_getD]
 by_cases h : i < t.length
 ·rw [List.getElem?_eq_getElem h]
  exact ht _ (List.getElem_mem h)
 ·rw [List.getElem?_eq_none (by omega)]
  exact Bd.none m
theorem joins_bd {g : S62} {m : Int} (hg : 0 ≤ g.f0 ∧ g.f0 ≤ g.f1 ∧ g.f1 ≤ 100) {t : List Way} (ht : ∀ v ∈ t, Bd m v) (l : List Int) : ∀ acc, Bd (m + 100) acc → Bd (m + 100) (joins g t acc l) := by
 induction l with
 | nil => intro acc h; exact h
 | cons x l ih => intro acc h; exact ih _ (joinG_bd hg h (getD_bd ht _))
theorem rd_map (f : Way → Int) (hf : f none = -1) {t : List Way} {x : Int} (h0 : 0 ≤ x) (h1 : x < (t.length : Int)) : rd (t.map f) x = f (t.getD x.toNat none) := by
 obtain ⟨i, rfl⟩ : ∃ i : Nat, x = (i : Int) := ⟨x.toNat, by omega⟩
 rw [rd_get (by simpa using h1), List.getElem_map, Int.toNat_natCast, List.getD_eq_getElem?_getD, List.getElem?_eq_getElem (by omega)]
 rfl
theorem max_tells (a b : Int) : spec_l00Max.f a b = some (if a > b then a else b) := by
 unfold spec_l00Max.f
 split <;> rfl
/-- The reference: what stands behind the inputs of a gate. -/
theorem from_l2 (n a3 a4 a5 a6 : Int) (gates : List S62) (data : List Int) (i : Nat) (hi' : i < gates.length) (hgl : gates.length ≤ 10) (hg : 0 ≤ gates[i].f0 ∧ gates[i].f0 ≤ gates[i].f1 ∧ gates[i].f1 ≤ 100) (hlen : gates[i].f2.length ≤ 1048576)
  (t : List Way) (m : Int) (hm : m ≤ 10000) (ht : ∀ v ∈ t, Bd m v) (hx : ∀ x ∈ gates[i].f2, 0 ≤ x ∧ x < (t.length : Int)) (htl : t.length ≤ 100) (r : List Int × List Int × Int × Int × Int × Int × Int) (d : Nat) :
  ∀ (j : Nat) (acc : Way), j + d = gates[i].f2.length → Bd (m + 100) acc →
  Ev (fun k => spec_l06From.l1 k ((t ++ [joins gates[i] t acc (gates[i].f2.drop j)]).map lo) ((t ++ [joins gates[i] t acc (gates[i].f2.drop j)]).map hi) ((i : Int) + 1) n gates data a3 a4 a5 a6) r →
  Ev (fun k => spec_l06From.l2 k (t.map lo) (t.map hi) (i : Int) (lo acc) (hi acc) (j : Int) n gates data a3 a4 a5 a6) r := by
 induction d with
 | zero =>
  rintro j acc h hb ⟨K, hK⟩
  rw [List.drop_of_length_le (by omega)] at hK
  refine ⟨K + 1, fun k hk => ?_⟩
  obtain ⟨k, rfl⟩ : ∃ m, k = m + 1 := ⟨k - 1, by omega⟩
  have := hK k (by omega)
  simp only [joins, List.map_append, List.map_cons, List.map_nil] at this
  simp only [spec_l06From.l2]
  rw [if_pos (by omega), if_pos (by omega), rdG' hi', if_neg (by omega), if_pos (by simp; omega), if_pos (by simp; omega), wrap_id (by omega) (by omega)]
  exact this
 | succ d ih =>
  intro j acc h hb hE
  have hj : j < gates[i].f2.length := by omega
  have hxj := hx _ (List.getElem_mem hj)
  rw [List.drop_eq_getElem_cons hj] at hE
  simp only [joins] at hE
  have hvb := getD_bd ht (gates[i].f2[j]).toNat
  obtain ⟨K, hK⟩ := ih (j + 1) _ (by omega) (joinG_bd hg hb hvb) hE
  refine ⟨K + 1, fun k hk => ?_⟩
  obtain ⟨k, rfl⟩ : ∃ m, k = m + 1 := ⟨k - 1, by omega⟩
  have hk2 := hK k (by omega)
  push_cast at hk2
  have hw : wrap64 ((j : Int) + 1) = (j : Int) + 1 := wrap_id (by omega) (by omega)
  have hlt0 : gates[i].f2[j] < ((t.map hi).length : Int) := by rw [List.length_map]; exact hxj.2
  simp only [spec_l06From.l2]
  rw [if_pos (Int.natCast_nonneg i), if_pos (Int.ofNat_lt.mpr hi'), rdG' hi', if_pos (Int.ofNat_lt.mpr hj), if_pos (Int.natCast_nonneg j), rd_get hj, if_pos hxj.1, if_pos hlt0, rd_map hi rfl hxj.1 hxj.2, hw]
  have hlt1 : gates[i].f2[j] < ((t.map lo).length : Int) := by rw [List.length_map]; exact hxj.2
  cases hv : t.getD (gates[i].f2[j]).toNat none with
  | none =>
   rw [hv] at hk2
   rw [if_pos (by rw [hi_none]; decide)]
   exact hk2
  | some p =>
   rw [hv] at hk2 hvb
   have hp := hvb p rfl
   rw [if_neg (by rw [hi_some]; omega), rd_map lo rfl hxj.1 hxj.2, hv]
   simp only [lo_some, hi_some, max_tells, Option.bind_some]
   rw [wrap_id (x := p.1 + gates[i].f0) (by omega) (by omega), wrap_id (x := p.2 + gates[i].f1) (by omega) (by omega)]
   cases acc with
   | none =>
    rw [if_pos (by rw [lo_none]; decide), if_pos hlt1, hi_none, if_neg (by omega)]
    exact hk2
   | some q =>
    have hq := hb q rfl
    rw [if_neg (by rw [lo_some]; omega), if_pos hlt1]
    simp only [joinG, lo_some, hi_some] at hk2
    rw [lo_some, hi_some]
    have e : (if q.2 > p.2 + gates[i].f1 then q.2 else p.2 + gates[i].f1) = (if q.2 < p.2 + gates[i].f1 then p.2 + gates[i].f1 else q.2) := by
     split <;> split <;> omega
    rw [e]
    by_cases h1 : p.1 + gates[i].f0 < q.1
    ·rw [if_pos h1] at hk2 ⊢
     exact hk2
    ·rw [if_neg h1] at hk2 ⊢
     exact hk2
theorem tabG_cons (t : List Way) (g : S62) (l : List S62) : tabG t (g :: l) = tabG (t ++ [joins g t none g.f2]) l := rfl
/-- What is known of a circuit's gates, read from a place on. -/
structure Gates (n : Int) (gates : List S62) : Prop where
 n0 : 1 ≤ n
 n1 : n ≤ 6
 len : gates.length ≤ 10
 gate : ∀ (i : Nat) (h : i < gates.length), 0 ≤ gates[i].f0 ∧ gates[i].f0 ≤ gates[i].f1 ∧ gates[i].f1 ≤ 100 ∧ gates[i].f2 ≠ [] ∧ ∀ x ∈ gates[i].f2, 0 ≤ x ∧ x ≤ n + i - 1
 wide : ∀ (i : Nat) (h : i < gates.length), gates[i].f2.length ≤ 1048576
theorem append_bd {m : Int} {t : List Way} {v : Way} (ht : ∀ v ∈ t, Bd m v) (hv : Bd (m + 100) v) : ∀ u ∈ t ++ [v], Bd (m + 100) u := by
 intro u hu
 rcases List.mem_append.mp hu with hu | hu
 ·exact (ht u hu).mono (by omega)
 ·rw [List.mem_singleton.mp hu]
  exact hv
theorem from_l1 (n a3 a4 a5 a6 : Int) (gates : List S62) (data : List Int) (C : Gates n gates) (d : Nat) : ∀ (i : Nat) (t : List Way), i + d = gates.length → (t.length : Int) = n + i → (∀ v ∈ t, Bd (100 * i) v) →
  Ev (fun k => spec_l06From.l1 k (t.map lo) (t.map hi) (i : Int) n gates data a3 a4 a5 a6) ((tabG t (gates.drop i)).map lo, (tabG t (gates.drop i)).map hi, n, a3, a4, a5, a6) := by
 induction d with
 | zero =>
  intro i t h htl ht
  refine ⟨1, fun k hk => ?_⟩
  obtain ⟨k, rfl⟩ : ∃ m, k = m + 1 := ⟨k - 1, by omega⟩
  simp only [spec_l06From.l1]
  rw [if_neg (by omega), List.drop_of_length_le (by omega)]
  rfl
 | succ d ih =>
  intro i t h htl ht
  have hi' : i < gates.length := by omega
  have hc := C.n0
  have hc1 := C.n1
  have hl := C.len
  have hg := C.gate i hi'
  have hb := joins_bd ⟨hg.1, hg.2.1, hg.2.2.1⟩ ht gates[i].f2 none (Bd.none _)
  have h1 := ih (i + 1) (t ++ [joins gates[i] t none gates[i].f2]) (by omega) (by simp; omega) (by
   intro v hv
   have := append_bd ht hb v hv
   rw [show (100 : Int) * ((i + 1 : Nat) : Int) = 100 * i + 100 by push_cast; omega]
   exact this)
  rw [← tabG_cons, ← List.drop_eq_getElem_cons hi'] at h1
  have h2 := from_l2 n a3 a4 a5 a6 gates data i hi' hl ⟨hg.1, hg.2.1, hg.2.2.1⟩ (C.wide i hi') t (100 * i) (by omega) ht (fun x hx => ⟨(hg.2.2.2.2 x hx).1, by have := (hg.2.2.2.2 x hx).2; omega⟩) (by omega) _ gates[i].f2.length 0 none (by omega) (Bd.none _) (by
   rw [List.drop_zero]
   push_cast at h1
   exact h1)
  obtain ⟨K, hK⟩ := h2
  refine ⟨K + 1, fun k hk => ?_⟩
  obtain ⟨k, rfl⟩ : ∃ m, k = m + 1 := ⟨k - 1, by omega⟩
  simp only [spec_l06From.l1]
  rw [if_pos (by omega)]
  exact hK k (by omega)
theorem tab0_succ (a : Int) (i : Nat) : tab0 a (i + 1) = tab0 a i ++ [if (i : Int) = a then some (0, 0) else none] := by
 unfold tab0
 rw [List.range_succ, List.map_append]
 rfl
theorem tab0_len (a : Int) (i : Nat) : (tab0 a i).length = i := by simp [tab0]
theorem tab0_bd (a : Int) (i : Nat) : ∀ v ∈ tab0 a i, Bd 0 v := by
 intro v hv p hp
 unfold tab0 at hv
 obtain ⟨r, _, rfl⟩ := List.mem_map.mp hv
 split at hp
 ·simp only [Option.some.injEq] at hp
  subst hp
  simp
 ·simp at hp
theorem from_l0 (a n a3 a4 a5 a6 : Int) (gates : List S62) (data : List Int) (C : Gates n gates) (d : Nat) : ∀ (i : Nat), (i : Int) + d = n →
  Ev (fun k => spec_l06From.l0 k a ((tab0 a i).map lo) ((tab0 a i).map hi) (i : Int) n gates data a3 a4 a5 a6) ((tab a n gates).map lo, (tab a n gates).map hi, n, a3, a4, a5, a6) := by
 induction d with
 | zero =>
  intro i h
  have hc := C.n1
  have h1 := from_l1 n a3 a4 a5 a6 gates data C gates.length 0 (tab0 a n.toNat) (by omega) (by rw [tab0_len]; omega) (by simpa using tab0_bd a n.toNat)
  obtain ⟨K, hK⟩ := h1
  refine ⟨K + 1, fun k hk => ?_⟩
  obtain ⟨k, rfl⟩ : ∃ m, k = m + 1 := ⟨k - 1, by omega⟩
  have := hK k (by omega)
  simp only [spec_l06From.l0]
  rw [if_neg (by omega), show i = n.toNat by omega]
  exact this
 | succ d ih =>
  intro i h
  have hc := C.n1
  obtain ⟨K, hK⟩ := ih (i + 1) (by omega)
  refine ⟨K + 1, fun k hk => ?_⟩
  obtain ⟨k, rfl⟩ : ∃ m, k = m + 1 := ⟨k - 1, by omega⟩
  have := hK k (by omega)
  rw [tab0_succ] at this
  push_cast at this
  simp only [List.map_append, List.map_cons, List.map_nil] at this
  simp only [spec_l06From.l0]
  rw [if_pos (by omega), wrap_id (x := (i : Int) + 1) (by omega) (by omega)]
  by_cases e : (i : Int) = a
  ·rw [if_pos e] at this ⊢
   rw [if_pos (by simp [tab0_len]; omega), if_pos (by simp [tab0_len]; omega)]
   exact this
  ·rw [if_neg e] at this ⊢
   rw [if_pos (by simp [tab0_len]; omega), if_pos (by simp [tab0_len]; omega)]
   exact this
theorem from_tells (a n a3 a4 a5 a6 : Int) (gates : List S62) (data : List Int) (C : Gates n gates) :
  Ev (fun k => spec_l06From.f k n gates data a3 a4 a5 a6 a) ((tab a n gates).map lo, (tab a n gates).map hi, n, a3, a4, a5, a6) := by
 have hc := C.n0
 exact from_l0 a n a3 a4 a5 a6 gates data C n.toNat 0 (by omega)
theorem tabG_len (l : List S62) : ∀ t, (tabG t l).length = t.length + l.length := by
 induction l with
 | nil => intro t; rfl
 | cons g l ih => intro t; rw [tabG_cons, ih]; simp; omega
theorem tab_len (a n : Int) (gates : List S62) : (tab a n gates).length = n.toNat + gates.length := by
 unfold tab
 rw [tabG_len, tab0_len]
theorem tabG_bd (n : Int) (gates : List S62) (C : Gates n gates) (d : Nat) : ∀ (i : Nat) (t : List Way), i + d = gates.length → (∀ v ∈ t, Bd (100 * i) v) → ∀ v ∈ tabG t (gates.drop i), Bd 1000 v := by
 have hl := C.len
 induction d with
 | zero =>
  intro i t h ht v hv
  rw [List.drop_of_length_le (by omega)] at hv
  exact (ht v hv).mono (by omega)
 | succ d ih =>
  intro i t h ht
  have hi' : i < gates.length := by omega
  have hg := C.gate i hi'
  rw [List.drop_eq_getElem_cons hi', tabG_cons]
  apply ih (i + 1) _ (by omega)
  intro v hv
  have := append_bd ht (joins_bd ⟨hg.1, hg.2.1, hg.2.2.1⟩ ht gates[i].f2 none (Bd.none _)) v hv
  rw [show (100 : Int) * ((i + 1 : Nat) : Int) = 100 * i + 100 by push_cast; omega]
  exact this
theorem tab_bd (a n : Int) (gates : List S62) (C : Gates n gates) : ∀ v ∈ tab a n gates, Bd 1000 v := by
 unfold tab
 have := tabG_bd n gates C gates.length 0 (tab0 a n.toNat) (by omega) (by simpa using tab0_bd a n.toNat)
 simpa using this
/-- The least and the greatest delay between two registers, if there is a path. -/
def pathO (n : Int) (gates : List S62) (data : List Int) (a5 a6 a b : Int) : Way := ((tab a n gates).getD (rd data b).toNat none).map fun p => (wrap64 (p.1 + a5), wrap64 (p.2 + a6))
theorem path_tells (n a3 a4 a5 a6 : Int) (gates : List S62) (data : List Int) (C : Gates n gates) (hd : (data.length : Int) = n) (hnode : ∀ x ∈ data, 0 ≤ x ∧ x ≤ n + gates.length - 1) (a b : Int) (h0 : 0 ≤ b) (h1 : b < n) :
  ∃ x y, Ev (fun k => spec_l06Path.f k n gates data a3 a4 a5 a6 a b) (x, y, (pathO n gates data a5 a6 a b).isSome, n, a3, a4, a5, a6) ∧ ∀ p, pathO n gates data a5 a6 a b = some p → x = p.1 ∧ y = p.2 := by
 obtain ⟨K, hK⟩ := from_tells a n a3 a4 a5 a6 gates data C
 have hc := C.n0
 have hm : rd data b ∈ data := by
  unfold rd
  rw [List.getD_eq_getElem?_getD, List.getElem?_eq_getElem (by omega)]
  exact List.getElem_mem _
 have hr := hnode _ hm
 have hlen : ((tab a n gates).length : Int) = n + gates.length := by rw [tab_len]; omega
 have hb := getD_bd (tab_bd a n gates C) (rd data b).toNat
 refine ⟨wrap64 (lo ((tab a n gates).getD (rd data b).toNat none) + a5), wrap64 (hi ((tab a n gates).getD (rd data b).toNat none) + a6), ⟨K, fun k hk => ?_⟩, ?_⟩
 ·have hk2 : spec_l06From.f k n gates data a3 a4 a5 a6 a = _ := hK k hk
  show spec_l06Path.f k n gates data a3 a4 a5 a6 a b = _
  unfold spec_l06Path.f
  rw [hk2]
  simp only [Option.bind_some]
  rw [if_pos h0, if_pos (by omega), if_pos hr.1, if_pos (by simp; omega), if_pos (by simp; omega), rd_map lo rfl hr.1 (by omega), rd_map hi rfl hr.1 (by omega)]
  have e : decide (hi ((tab a n gates).getD (rd data b).toNat none) ≥ 0) = (pathO n gates data a5 a6 a b).isSome := by
   unfold pathO
   rw [Option.isSome_map]
   cases hv : (tab a n gates).getD (rd data b).toNat none with
   | none => rfl
   | some p =>
    rw [hv] at hb
    have := hb p rfl
    rw [hi_some, decide_eq_true (show p.2 ≥ 0 by omega)]
    rfl
  rw [e]
 ·intro p hp
  unfold pathO at hp
  obtain ⟨q, hq, rfl⟩ := Option.map_eq_some_iff.mp hp
  rw [hq]
  exact ⟨rfl, rfl⟩
end Go.Proofs.Ytalafmahgeejiaa.Pure

namespace Go.Proofs.Ytalafmahgeejiaa.Pa
open Go.RowKit Go.Proofs.YtalafmahgeejiaaW.PrintWords Go.Proofs.YtalafmahgeejiaaW.PrintLast Go.Proofs.YtalafmahgeejiaaW.PrintMore
attribute [local go_sem] max2_int min2_int max_two min_two max_three min_three max_four min_four   -- for this text's walks alone
set_option linter.unusedVariables false
set_option linter.unusedSimpArgs false

/-! ### impl_Circuit_links: function 58 -/
mutual
def impl_Circuit_links.l0 : Nat → List (S72) → Int → Int → Int → List (S62) → List Int → Int → Int → Int → Int → Option ((List (S72)))
 | 0, _, _, _, _, _, _, _, _, _, _ => none
 | k + 1, x3, x12, x13, x307000, x307001, x307002, x307003, x307004, x307005, x307006 => if x13 < x12 then ((impl_Circuit_delays.f k x307000 x307001 x307002 x307003 x307004 x307005 x307006 x13).bind fun bt310 => (impl_Circuit_links.l1 k x3 x13 bt310.1 bt310.2.1 bt310.2.2 x12 x13 x307002 (x307002.length : Int) 0 x307000 x307001 x307002 x307003 x307004 x307005 x307006)) else (some x3)
def impl_Circuit_links.l1 : Nat → List (S72) → Int → List Int → List Int → List Bool → Int → Int → List Int → Int → Int → Int → List (S62) → List Int → Int → Int → Int → Int → Option ((List (S72)))
 | 0, _, _, _, _, _, _, _, _, _, _, _, _, _, _, _, _, _ => none
 | k + 1, x3, x4, x5, x6, x7, x12, x13, x24, x25, x26, x307000, x307001, x307002, x307003, x307004, x307005, x307006 => if x26 < x25 then (if 0 ≤ x26 then (if x26 < (x24.length : Int) then (if 0 ≤ (rd x24 x26) then (if (rd x24 x26) < (x7.length : Int) then (if rdOf false x7 (rd x24 x26) = true then (if (rd x24 x26) < (x5.length : Int) then (if (rd x24 x26) < (x6.length : Int) then (if x3.length < 4398046511104 then (impl_Circuit_links.l1 k (x3 ++ [(⟨x4, x26, wrap64 ((rd x5 (rd x24 x26)) + x307005), wrap64 ((rd x6 (rd x24 x26)) + x307006)⟩ : S72)]) x4 x5 x6 x7 x12 x13 x24 x25 (wrap64 (x26 + 1)) x307000 x307001 x307002 x307003 x307004 x307005 x307006) else (none)) else (none)) else (none)) else (impl_Circuit_links.l1 k x3 x4 x5 x6 x7 x12 x13 x24 x25 (wrap64 (x26 + 1)) x307000 x307001 x307002 x307003 x307004 x307005 x307006)) else (none)) else (none)) else (none)) else (none)) else (impl_Circuit_links.l0 k x3 x12 (wrap64 (x13 + 1)) x307000 x307001 x307002 x307003 x307004 x307005 x307006)
end
def impl_Circuit_links.f (k : Nat) (a0_0 : Int) (l0_1 : List (S62)) (l0_2 : List Int) (a0_3 : Int) (a0_4 : Int) (a0_5 : Int) (a0_6 : Int) : Option ((List (S72))) := impl_Circuit_links.l0 k (([] : List (S72))) a0_0 0 a0_0 l0_1 l0_2 a0_3 a0_4 a0_5 a0_6
theorem impl_Circuit_links.mono_l : ∀ k, (∀ y0 y1 y2 y3 y4 y5 y6 y7 y8 y9, LeO (impl_Circuit_links.l0 k y0 y1 y2 y3 y4 y5 y6 y7 y8 y9) (impl_Circuit_links.l0 (k + 1) y0 y1 y2 y3 y4 y5 y6 y7 y8 y9)) ∧ (∀ y0 y1 y2 y3 y4 y5 y6 y7 y8 y9 y10 y11 y12 y13 y14 y15 y16, LeO (impl_Circuit_links.l1 k y0 y1 y2 y3 y4 y5 y6 y7 y8 y9 y10 y11 y12 y13 y14 y15 y16) (impl_Circuit_links.l1 (k + 1) y0 y1 y2 y3 y4 y5 y6 y7 y8 y9 y10 y11 y12 y13 y14 y15 y16))
 | 0 => ⟨fun _ _ _ _ _ _ _ _ _ _ r h => by simp [impl_Circuit_links.l0] at h, fun _ _ _ _ _ _ _ _ _ _ _ _ _ _ _ _ _ r h => by simp [impl_Circuit_links.l1] at h⟩
 | k + 1 => by
  obtain ⟨ih0, ih1⟩ := impl_Circuit_links.mono_l k
  refine ⟨?_, ?_⟩
  ·intro y0 y1 y2 y3 y4 y5 y6 y7 y8 y9
   unfold impl_Circuit_links.l0
   repeat' first
   | (with_reducible exact ih0 _ _ _ _ _ _ _ _ _ _)
   | (with_reducible exact ih1 _ _ _ _ _ _ _ _ _ _ _ _ _ _ _ _ _)
   | (with_reducible exact impl_Circuit_delays.mono _ _ _ _ _ _ _ _ _)
   | (with_reducible exact LeO.refl _)
   | (with_reducible exact LeO.none _)
   | (with_reducible refine LeO.ite ?_ ?_)
   | (with_reducible refine LeO.bind ?_ (fun _ => ?_))
   | exact ih0 _ _ _ _ _ _ _ _ _ _
   | exact ih1 _ _ _ _ _ _ _ _ _ _ _ _ _ _ _ _ _
   | exact impl_Circuit_delays.mono _ _ _ _ _ _ _ _ _
   | exact LeO.none _
   | refine LeO.ite ?_ ?_
   | refine LeO.bind ?_ (fun _ => ?_)
  ·intro y0 y1 y2 y3 y4 y5 y6 y7 y8 y9 y10 y11 y12 y13 y14 y15 y16
   unfold impl_Circuit_links.l1
   repeat' first
   | (with_reducible exact ih0 _ _ _ _ _ _ _ _ _ _)
   | (with_reducible exact ih1 _ _ _ _ _ _ _ _ _ _ _ _ _ _ _ _ _)
   | (with_reducible exact impl_Circuit_delays.mono _ _ _ _ _ _ _ _ _)
   | (with_reducible exact LeO.refl _)
   | (with_reducible exact LeO.none _)
   | (with_reducible refine LeO.ite ?_ ?_)
   | (with_reducible refine LeO.bind ?_ (fun _ => ?_))
   | exact ih0 _ _ _ _ _ _ _ _ _ _
   | exact ih1 _ _ _ _ _ _ _ _ _ _ _ _ _ _ _ _ _
   | exact impl_Circuit_delays.mono _ _ _ _ _ _ _ _ _
   | exact LeO.none _
   | refine LeO.ite ?_ ?_
   | refine LeO.bind ?_ (fun _ => ?_)
theorem impl_Circuit_links.mono : ∀ a0 a1 a2 a3 a4 a5 a6 k, LeO (impl_Circuit_links.f k a0 a1 a2 a3 a4 a5 a6) (impl_Circuit_links.f (k + 1) a0 a1 a2 a3 a4 a5 a6) := by
 intro a0 a1 a2 a3 a4 a5 a6 k
 obtain ⟨ih0, ih1⟩ := impl_Circuit_links.mono_l k
 unfold impl_Circuit_links.f
 repeat' first
   | (with_reducible exact ih0 _ _ _ _ _ _ _ _ _ _)
   | (with_reducible exact ih1 _ _ _ _ _ _ _ _ _ _ _ _ _ _ _ _ _)
   | (with_reducible exact impl_Circuit_delays.mono _ _ _ _ _ _ _ _ _)
   | (with_reducible exact LeO.refl _)
   | (with_reducible exact LeO.none _)
   | (with_reducible refine LeO.ite ?_ ?_)
   | (with_reducible refine LeO.bind ?_ (fun _ => ?_))
   | exact ih0 _ _ _ _ _ _ _ _ _ _
   | exact ih1 _ _ _ _ _ _ _ _ _ _ _ _ _ _ _ _ _
   | exact impl_Circuit_delays.mono _ _ _ _ _ _ _ _ _
   | exact LeO.none _
   | refine LeO.ite ?_ ?_
   | refine LeO.bind ?_ (fun _ => ?_)
def impl_Circuit_links.T10 : Bool × List (List Nat × List Nat) := (true, [([], []), ([], []), ([], []), ([], []), ([], []), ([3, 4], [3, 4]), ([5], [5]), ([], []), ([7], [7]), ([6, 8], [6, 8]), ([], []), ([], []), ([10, 11], [10, 11]), ([12], [12]), ([], []), ([14], [14]), ([13, 15], [13, 15]), ([1, 2, 9, 16], [1, 2, 9, 16]), ([17], [17]), ([0, 18], [0, 18]), ([19, 19, 0, 1, 2, 3, 4, 5, 6, 7, 8, 9, 10, 11, 12, 13, 14, 15, 16, 17, 18, 19], [0, 19])])
def impl_Circuit_links.B10 : List Nat := [0, 0, 0, 0, 0, 24, 56, 0, 128, 504, 0, 0, 3072, 7168, 0, 16384, 64512, 131070, 262142, 524287, 1048575]
theorem impl_Circuit_links.tab10 : rtab .any (opsOf Try.f58 10) = impl_Circuit_links.T10 := by kernel_rfl
theorem impl_Circuit_links.bits10 : waitsOk impl_Circuit_links.T10.2 impl_Circuit_links.B10 = true := by kernel_rfl
set_option maxHeartbeats 8000000 in
set_option maxRecDepth 100000 in
theorem impl_Circuit_links.calls (k : Nat) (a0_0 : Int) (A0_1 : Option Addr) (c0_1 : Nat) (l0_1 : List (S62)) (A0_2 : Option Addr) (c0_2 : Nat) (l0_2 : List Int) (a0_3 : Int) (a0_4 : Int) (a0_5 : Int) (a0_6 : Int) (r : List (S72)) (w : World) (hr0_1 : Kd.C k62 w A0_1 l0_1.length l0_1) (hc0_1 : l0_1.length ≤ c0_1) (hr0_2 : Kd.C (Kd.int .i64) w A0_2 l0_2.length l0_2) (hc0_2 : l0_2.length ≤ c0_2) (h : impl_Circuit_links.f k a0_0 l0_1 l0_2 a0_3 a0_4 a0_5 a0_6 = some r) :
  Calls Try.prog 58 #[.agg #[.int .i64 a0_0, .slice A0_1 l0_1.length c0_1, .slice A0_2 l0_2.length c0_2, .int .i64 a0_3, .int .i64 a0_4, .int .i64 a0_5, .int .i64 a0_6]] w fun e w' => ∃ v0_ : Value, e = .returned (v0_) ∧ Kd.R k72 72 w' w.heap.size (fun _ => True) v0_ r ∧ Below w.heap.size w w' := by
 have hu30 := Try.underlying30
 have hu72 := Try.underlying72
 have HR0_1 := Aside0.mk hr0_1
 have HC0_1 := Aside0.mk hc0_1
 clear hr0_1 hc0_1
 have HR0_2 := Aside0.mk hr0_2
 have HC0_2 := Aside0.mk hc0_2
 clear hr0_2 hc0_2
 have HB := Aside0.mk (Below.refl w.heap.size w)
 have H : (impl_Circuit_links.l0 k (([] : List (S72))) a0_0 0 a0_0 l0_1 l0_2 a0_3 a0_4 a0_5 a0_6) = some r := h
 clear h
 obtain ⟨y307, hy307⟩ : ∃ y_ : List (S72), y_ = (([] : List (S72))) := ⟨_, rfl⟩
 (try rw [Option.bind_some] at H); try rw [← hy307] at H
 have Ny307 := Aside0.mk hy307
 clear hy307
 have H' := Aside0.mk H
 clear H
 go_enter Try.func58, Try.ntmps58
 go_wp2_with (first | ((with_reducible refine gate_dst (N := 1) rfl ?_); refine box_event ?hg (N := 1) ?hd (cs := #[.int .i64 a0_0, .slice A0_1 l0_1.length c0_1, .slice A0_2 l0_2.length c0_2, .int .i64 a0_3, .int .i64 a0_4, .int .i64 a0_5, .int .i64 a0_6]) (t := 30) ?hr ?_; (case hd => rfl); (case hg => rfl); (case hr => first | (go_simp; done) | (go_simp; rfl)); intro gb306 hg w2 hbox hb; have n0_ := Aside0.mk (below_step (by with_reducible repeat (first | exact HB.out | apply below_alloc | apply pw_below_drewN | apply below_drew1)) hb); have n1_ := Aside0.mk (hbox); have n2_ := Aside0.mk ((by rw [hg]; exact (below_size (by with_reducible repeat (first | exact HB.out | apply below_alloc | apply pw_below_drewN | apply below_drew1))) : w.heap.size ≤ gb306)); have n3_ := Aside0.mk ((by rw [hg]; exact (below_size (by with_reducible repeat (first | exact HB.out | apply below_alloc | apply pw_below_drewN | apply below_drew1))) : w.heap.size ≤ gb306)); clear HB; have HB := n0_; have BK306 := n1_; have GW306 := n2_; have GE306 := n3_; clear n0_ n1_ n2_ n3_; clear hb hbox hg) | ((with_reducible refine gate_dst (N := 10) rfl ?_); refine Kd.R_lit k72 _ 72 ?hg (N := 10) ?hd (xs := ([] : List (S72))) (inner := []) (ok := fun _ => True) (okp := fun _ => True) ?hr ?hp (fun _ hk => hk) trivial (Below.refl _ _) (Nat.le_refl _) (by simp) ?_; (case hd => rfl); (case hg => rfl); (case hr => first | (go_simp; done) | (go_simp; rfl)); (case hp => exact (Reps.none _ _)); intro v308 w3 ho4 hb hg_ hnew_; clear hg_ hnew_; (first | rw [← Ny307.out] at ho4 | (simp only [Int.reduceToNat] at ho4; rw [← Ny307.out] at ho4)); have n0_ := Aside0.mk (Kd.R_lower ho4 (below_size (by with_reducible repeat (first | exact HB.out | apply below_alloc | apply pw_below_drewN | apply below_drew1 | refine below_set ?_ GE306.out)))); have n1_ := Aside0.mk (blk_below (g := gb306) (by (with_reducible repeat (first | refine blk_drewN ?_ _ | refine blk_drew ?_ | refine blk_alloc ?_ _)); exact BK306.out) hb); have n2_ := Aside0.mk (below_step (by with_reducible repeat (first | exact HB.out | apply below_alloc | apply pw_below_drewN | apply below_drew1 | refine below_set ?_ GE306.out)) hb); clear BK306; clear HB; have HO309 := n0_; have BK306 := n1_; have HB := n2_; clear n0_ n1_ n2_; clear hb ho4; have hcz5_0 : w3.cell? ⟨gb306, 0, none⟩ = some (.int .i64 a0_0) := (blk_cell BK306.out 0).trans rfl; have hcz5_1 : w3.cell? ⟨gb306, 1, none⟩ = some (.slice A0_1 l0_1.length c0_1) := (blk_cell BK306.out 1).trans rfl; have hcz5_2 : w3.cell? ⟨gb306, 2, none⟩ = some (.slice A0_2 l0_2.length c0_2) := (blk_cell BK306.out 2).trans rfl; have hcz5_3 : w3.cell? ⟨gb306, 3, none⟩ = some (.int .i64 a0_3) := (blk_cell BK306.out 3).trans rfl; have hcz5_4 : w3.cell? ⟨gb306, 4, none⟩ = some (.int .i64 a0_4) := (blk_cell BK306.out 4).trans rfl; have hcz5_5 : w3.cell? ⟨gb306, 5, none⟩ = some (.int .i64 a0_5) := (blk_cell BK306.out 5).trans rfl; have hcz5_6 : w3.cell? ⟨gb306, 6, none⟩ = some (.int .i64 a0_6) := (blk_cell BK306.out 6).trans rfl; have hfz5_0 := blk_frozen BK306.out 0; have hfz5_1 := blk_frozen BK306.out 1; have hfz5_2 := blk_frozen BK306.out 2; have hfz5_3 := blk_frozen BK306.out 3; have hfz5_4 := blk_frozen BK306.out 4; have hfz5_5 := blk_frozen BK306.out 5; have hfz5_6 := blk_frozen BK306.out 6))
 go_loopg [3, 13] k (fun kq v3 v13 w' => ∃ (x3_1 : List (S72)) (x13_1 : Int), v13 = .int .i64 x13_1 ∧ Aside0 (impl_Circuit_links.l0 kq x3_1 a0_0 x13_1 a0_0 l0_1 l0_2 a0_3 a0_4 a0_5 a0_6 = some r) ∧ Aside0 (kq ≤ k) ∧ Aside0 (Kd.R k72 72 w' w.heap.size (fun _ => True) v3 x3_1) ∧ Aside0 (w'.heap[gb306]? = some (.cells #[.int .i64 a0_0, (.slice A0_1 l0_1.length c0_1), (.slice A0_2 l0_2.length c0_2), .int .i64 a0_3, .int .i64 a0_4, .int .i64 a0_5, .int .i64 a0_6] 30 (0, 0))) ∧ Aside0 (Below w.heap.size w w'))
 case atStart => exact ⟨(y307), (0), (by first | rfl | (simp; done) | (simp [*]; done)), H', ⟨Nat.le_refl _⟩, ⟨by (with_reducible repeat (first | apply Kd.R_alloc | apply Kd.R_drewN | apply Kd.R_drew)); exact HO309.out⟩, ⟨by (with_reducible repeat (first | refine blk_drewN ?_ _ | refine blk_drew ?_ | refine blk_alloc ?_ _)); exact BK306.out⟩, ⟨by with_reducible repeat (first | exact HB.out | apply below_alloc | apply pw_below_drewN | apply below_drew1 | refine below_set ?_ GE306.out)⟩⟩
 case round =>
  clear H'
  try clear p2
  try clear c5
  try clear hcz5_0
  try clear hcz5_1
  try clear hcz5_2
  try clear hcz5_3
  try clear hcz5_4
  try clear hcz5_5
  try clear hcz5_6
  try clear hfz5_0
  try clear hfz5_1
  try clear hfz5_2
  try clear hfz5_3
  try clear hfz5_4
  try clear hfz5_5
  try clear hfz5_6
  obtain ⟨x3_1, x13_1, rfl, HA, HK1, HO_3, BK306, HB⟩ := hrel
  cases gk with
  | zero => exact absurd HA.out (by simp [impl_Circuit_links.l0])
  | succ k1 =>
   have H := HA.out
   clear HA
   simp only [impl_Circuit_links.l0] at H
   by_cases c6 : x13_1 < a0_0
   ·rw [if_pos c6] at H
    have c6b0 : decide (x13_1 < a0_0) = true := decide_eq_true c6
    clear c6
    replace H := Option.bind_eq_some_iff.mp H
    obtain ⟨⟨t310, t313, t316⟩, A70, H⟩ := H
    try dsimp only at H
    have A7 := Aside0.mk A70
    clear A70
    have H' := Aside0.mk H
    clear H
    have hcz8_0 : wr.cell? ⟨gb306, 0, none⟩ = some (.int .i64 a0_0) := (blk_cell BK306.out 0).trans rfl
    have hcz8_1 : wr.cell? ⟨gb306, 1, none⟩ = some (.slice A0_1 l0_1.length c0_1) := (blk_cell BK306.out 1).trans rfl
    have hcz8_2 : wr.cell? ⟨gb306, 2, none⟩ = some (.slice A0_2 l0_2.length c0_2) := (blk_cell BK306.out 2).trans rfl
    have hcz8_3 : wr.cell? ⟨gb306, 3, none⟩ = some (.int .i64 a0_3) := (blk_cell BK306.out 3).trans rfl
    have hcz8_4 : wr.cell? ⟨gb306, 4, none⟩ = some (.int .i64 a0_4) := (blk_cell BK306.out 4).trans rfl
    have hcz8_5 : wr.cell? ⟨gb306, 5, none⟩ = some (.int .i64 a0_5) := (blk_cell BK306.out 5).trans rfl
    have hcz8_6 : wr.cell? ⟨gb306, 6, none⟩ = some (.int .i64 a0_6) := (blk_cell BK306.out 6).trans rfl
    have hfz8_0 := blk_frozen BK306.out 0
    have hfz8_1 := blk_frozen BK306.out 1
    have hfz8_2 := blk_frozen BK306.out 2
    have hfz8_3 := blk_frozen BK306.out 3
    have hfz8_4 := blk_frozen BK306.out 4
    have hfz8_5 := blk_frozen BK306.out 5
    have hfz8_6 := blk_frozen BK306.out 6
    go_wp2_with (first | ((with_reducible refine gate_callee (f := 86) rfl ?_); refine goesL_ (some 19) rfl rfl Try.func86 (by kernel_rfl) rfl #[.agg #[.int .i64 a0_0, .slice A0_1 l0_1.length c0_1, .slice A0_2 l0_2.length c0_2, .int .i64 a0_3, .int .i64 a0_4, .int .i64 a0_5, .int .i64 a0_6], .int .i64 x13_1] rfl (by (try simp only [List.map_toArray, List.map_cons, List.map_nil]); first | done | rfl | (simp only [List.length_drop, List.length_take]; rfl)) ?_; (with_reducible refine (impl_Circuit_delays.calls k1 a0_0 _ _ l0_1 _ _ l0_2 a0_3 a0_4 a0_5 a0_6 x13_1 t310 t313 t316 _ ?side1 ?side2 ?side3 ?side4 A7.out).mono ?_); (case side1 => repeat (first | exact (Kd.C_below HR0_1.out HB.out) | (with_reducible refine Kd.C_alloc ?_ _) | (with_reducible refine Kd.C_drewN ?_ _) | (with_reducible refine Kd.C_drew ?_))); (case side2 => exact HC0_1.out); (case side3 => repeat (first | exact (Kd.C_below HR0_2.out HB.out) | (with_reducible refine Kd.C_alloc ?_ _) | (with_reducible refine Kd.C_drewN ?_ _) | (with_reducible refine Kd.C_drew ?_))); (case side4 => exact HC0_2.out); rintro e w9 ⟨v311, v314, v317, rfl, ho0, ho1, ho2, hb⟩; refine ⟨_, rfl, ?_⟩; have n0_ := Aside0.mk (Kd.R_below (by (with_reducible repeat (first | apply Kd.R_alloc | apply Kd.R_drewN | apply Kd.R_drew)); exact HO_3.out) hb); have n1_ := Aside0.mk (Kd.R_lower ho0 (below_size (by with_reducible repeat (first | exact HB.out | apply below_alloc | apply pw_below_drewN | apply below_drew1 | refine below_set ?_ GE306.out)))); have n2_ := Aside0.mk (Kd.R_lower ho1 (below_size (by with_reducible repeat (first | exact HB.out | apply below_alloc | apply pw_below_drewN | apply below_drew1 | refine below_set ?_ GE306.out)))); have n3_ := Aside0.mk (Kd.R_lower ho2 (below_size (by with_reducible repeat (first | exact HB.out | apply below_alloc | apply pw_below_drewN | apply below_drew1 | refine below_set ?_ GE306.out)))); have n4_ := Aside0.mk (blk_below (g := gb306) (by (with_reducible repeat (first | refine blk_drewN ?_ _ | refine blk_drew ?_ | refine blk_alloc ?_ _)); exact BK306.out) hb); have n5_ := Aside0.mk (below_step (by with_reducible repeat (first | exact HB.out | apply below_alloc | apply pw_below_drewN | apply below_drew1 | refine below_set ?_ GE306.out)) hb); clear HO_3; clear BK306; clear HB; have HO_3 := n0_; have HO312 := n1_; have HO315 := n2_; have HO318 := n3_; have BK306 := n4_; have HB := n5_; clear n0_ n1_ n2_ n3_ n4_ n5_; (try clear hb); (try clear hb2); (try clear hk); (try clear hi); (try clear ho0); (try clear ho1); (try clear ho2); have hcz10_0 : w9.cell? ⟨gb306, 0, none⟩ = some (.int .i64 a0_0) := (blk_cell BK306.out 0).trans rfl; have hcz10_1 : w9.cell? ⟨gb306, 1, none⟩ = some (.slice A0_1 l0_1.length c0_1) := (blk_cell BK306.out 1).trans rfl; have hcz10_2 : w9.cell? ⟨gb306, 2, none⟩ = some (.slice A0_2 l0_2.length c0_2) := (blk_cell BK306.out 2).trans rfl; have hcz10_3 : w9.cell? ⟨gb306, 3, none⟩ = some (.int .i64 a0_3) := (blk_cell BK306.out 3).trans rfl; have hcz10_4 : w9.cell? ⟨gb306, 4, none⟩ = some (.int .i64 a0_4) := (blk_cell BK306.out 4).trans rfl; have hcz10_5 : w9.cell? ⟨gb306, 5, none⟩ = some (.int .i64 a0_5) := (blk_cell BK306.out 5).trans rfl; have hcz10_6 : w9.cell? ⟨gb306, 6, none⟩ = some (.int .i64 a0_6) := (blk_cell BK306.out 6).trans rfl; have hfz10_0 := blk_frozen BK306.out 0; have hfz10_1 := blk_frozen BK306.out 1; have hfz10_2 := blk_frozen BK306.out 2; have hfz10_3 := blk_frozen BK306.out 3; have hfz10_4 := blk_frozen BK306.out 4; have hfz10_5 := blk_frozen BK306.out 5; have hfz10_6 := blk_frozen BK306.out 6))
    go_loopg [3, 26] k1 (fun kq v3 v26 w' => ∃ (x3_2 : List (S72)) (x26_2 : Int), v26 = .int .i64 x26_2 ∧ Aside0 (impl_Circuit_links.l1 kq x3_2 x13_1 t310 t313 t316 a0_0 x13_1 l0_2 (l0_2.length : Int) x26_2 a0_0 l0_1 l0_2 a0_3 a0_4 a0_5 a0_6 = some r) ∧ Aside0 (kq ≤ k1) ∧ Aside0 (Kd.R k72 72 w' w.heap.size (fun _ => True) v3 x3_2) ∧ Aside0 (Kd.R (Kd.int .i64) 2 w' w.heap.size (fun k_ => some k_ ≠ (v314 : Value).ownBlock) v311 t310) ∧ Aside0 (Kd.R (Kd.int .i64) 2 w' w.heap.size (fun k_ => some k_ ≠ (v311 : Value).ownBlock) v314 t313) ∧ Aside0 (Kd.R Kd.bool 4 w' w.heap.size (fun _ => True) v317 t316) ∧ Aside0 (w'.heap[gb306]? = some (.cells #[.int .i64 a0_0, (.slice A0_1 l0_1.length c0_1), (.slice A0_2 l0_2.length c0_2), .int .i64 a0_3, .int .i64 a0_4, .int .i64 a0_5, .int .i64 a0_6] 30 (0, 0))) ∧ Aside0 (Below w.heap.size w w'))
    case atStart => exact ⟨(x3_1), (0), (by first | rfl | (simp; done) | (simp [*]; done)), H', ⟨Nat.le_refl _⟩, ⟨by (with_reducible repeat (first | apply Kd.R_alloc | apply Kd.R_drewN | apply Kd.R_drew)); exact HO_3.out⟩, ⟨by (with_reducible repeat (first | apply Kd.R_alloc | apply Kd.R_drewN | apply Kd.R_drew)); exact HO312.out⟩, ⟨by (with_reducible repeat (first | apply Kd.R_alloc | apply Kd.R_drewN | apply Kd.R_drew)); exact HO315.out⟩, ⟨by (with_reducible repeat (first | apply Kd.R_alloc | apply Kd.R_drewN | apply Kd.R_drew)); exact HO318.out⟩, ⟨by (with_reducible repeat (first | refine blk_drewN ?_ _ | refine blk_drew ?_ | refine blk_alloc ?_ _)); exact BK306.out⟩, ⟨by with_reducible repeat (first | exact HB.out | apply below_alloc | apply pw_below_drewN | apply below_drew1 | refine below_set ?_ GE306.out)⟩⟩
    case round =>
     clear H'
     try clear p2
     try clear c5
     try clear c6
     try clear c6b0
     try clear c8
     try clear hcz10_0
     try clear hcz10_1
     try clear hcz10_2
     try clear hcz10_3
     try clear hcz10_4
     try clear hcz10_5
     try clear hcz10_6
     try clear hcz5_0
     try clear hcz5_1
     try clear hcz5_2
     try clear hcz5_3
     try clear hcz5_4
     try clear hcz5_5
     try clear hcz5_6
     try clear hcz8_0
     try clear hcz8_1
     try clear hcz8_2
     try clear hcz8_3
     try clear hcz8_4
     try clear hcz8_5
     try clear hcz8_6
     try clear hfz10_0
     try clear hfz10_1
     try clear hfz10_2
     try clear hfz10_3
     try clear hfz10_4
     try clear hfz10_5
     try clear hfz10_6
     try clear hfz5_0
     try clear hfz5_1
     try clear hfz5_2
     try clear hfz5_3
     try clear hfz5_4
     try clear hfz5_5
     try clear hfz5_6
     try clear hfz8_0
     try clear hfz8_1
     try clear hfz8_2
     try clear hfz8_3
     try clear hfz8_4
     try clear hfz8_5
     try clear hfz8_6
     try clear p2
     obtain ⟨x3_2, x26_2, rfl, HA, HK2, HO_3, HO_5, HO_6, HO_7, BK306, HB⟩ := hrel
     cases gk with
     | zero => exact absurd HA.out (by simp [impl_Circuit_links.l1])
     | succ k2 =>
      have H := HA.out
      clear HA
      simp only [impl_Circuit_links.l1] at H
      by_cases c11 : x26_2 < (l0_2.length : Int)
      ·rw [if_pos c11] at H
       have c11b0 : decide (x26_2 < (l0_2.length : Int)) = true := decide_eq_true c11
       clear c11
       by_cases c12 : 0 ≤ x26_2
       case neg => rw [if_neg c12] at H; exact absurd H (by simp)
       rw [if_pos c12] at H
       have c12b0 : decide (0 ≤ x26_2) = true := decide_eq_true c12
       clear c12
       by_cases c13 : x26_2 < (l0_2.length : Int)
       case neg => rw [if_neg c13] at H; exact absurd H (by simp)
       rw [if_pos c13] at H
       have c13b0 : decide (x26_2 < (l0_2.length : Int)) = true := decide_eq_true c13
       clear c13
       by_cases c14 : 0 ≤ (rd l0_2 x26_2)
       case neg => rw [if_neg c14] at H; exact absurd H (by simp)
       rw [if_pos c14] at H
       have c14b0 : decide (0 ≤ (rd l0_2 x26_2)) = true := decide_eq_true c14
       clear c14
       by_cases c15 : (rd l0_2 x26_2) < (t316.length : Int)
       case neg => rw [if_neg c15] at H; exact absurd H (by simp)
       rw [if_pos c15] at H
       have c15b0 : decide ((rd l0_2 x26_2) < (t316.length : Int)) = true := decide_eq_true c15
       clear c15
       obtain ⟨bq16, hbq16⟩ : ∃ b_ : Bool, b_ = (rdOf false t316 (rd l0_2 x26_2)) := ⟨_, rfl⟩
       rw [← hbq16] at H
       have Nbq16 := Aside0.mk hbq16
       clear hbq16
       by_cases c17 : bq16 = true
       ·subst c17
        rw [if_pos rfl] at H
        by_cases c18 : (rd l0_2 x26_2) < (t310.length : Int)
        case neg => rw [if_neg c18] at H; exact absurd H (by simp)
        rw [if_pos c18] at H
        have c18b0 : decide ((rd l0_2 x26_2) < (t310.length : Int)) = true := decide_eq_true c18
        clear c18
        by_cases c19 : (rd l0_2 x26_2) < (t313.length : Int)
        case neg => rw [if_neg c19] at H; exact absurd H (by simp)
        rw [if_pos c19] at H
        have c19b0 : decide ((rd l0_2 x26_2) < (t313.length : Int)) = true := decide_eq_true c19
        clear c19
        by_cases c20 : x3_2.length < 4398046511104
        case neg => rw [if_neg c20] at H; exact absurd H (by simp)
        rw [if_pos c20] at H
        have LMc20 := Aside0.mk c20
        clear c20
        obtain ⟨y323, hy323⟩ : ∃ y_ : List (S72), y_ = (x3_2 ++ [(⟨x13_1, x26_2, wrap64 ((rd t310 (rd l0_2 x26_2)) + a0_5), wrap64 ((rd t313 (rd l0_2 x26_2)) + a0_6)⟩ : S72)]) := ⟨_, rfl⟩
        (try rw [Option.bind_some] at H); try rw [← hy323] at H
        have Ny323 := Aside0.mk hy323
        clear hy323
        have H' := Aside0.mk H
        clear H
        have p319 : 0 ≤ (x26_2 : Int) := of_decide_eq_true (by with_reducible assumption)
        have q319 : x26_2 < (l0_2.length : Int) := of_decide_eq_true (by with_reducible assumption)
        obtain ⟨ad319, e319, hx319_0⟩ := Kd.at_int HR0_2.out x26_2 p319 q319
        cases e319
        replace hx319_0 := (HB.out.cell (World.block_lt_of_cell? w _ hx319_0)).trans hx319_0
        replace p319 := eq_true p319
        replace q319 := eq_true q319
        obtain ⟨Ao21, co21, eo21⟩ := Kd.R_slice HO_7.out
        subst eo21
        have p320 : 0 ≤ ((rd l0_2 x26_2) : Int) := of_decide_eq_true (by with_reducible assumption)
        have q320 : (rd l0_2 x26_2) < (t316.length : Int) := of_decide_eq_true (by with_reducible assumption)
        obtain ⟨ad320, e320, hx320_0⟩ := Kd.at_bool (Kd.R_reads' HO_7.out).2.2 (rd l0_2 x26_2) p320 q320
        (try rw [← Nbq16.out] at hx320_0)
        cases e320
        replace p320 := eq_true p320
        replace q320 := eq_true q320
        try go_wp2
        have n0_ := Aside0.mk (Kd.R_drew HO_3.out)
        have n1_ := Aside0.mk (Kd.R_drew HO_5.out)
        have n2_ := Aside0.mk (Kd.R_drew HO_6.out)
        have n3_ := Aside0.mk (Kd.R_drew HO_7.out)
        have n4_ := Aside0.mk (blk_drew BK306.out)
        have n5_ := Aside0.mk (below_drew1 HB.out)
        clear HO_3
        clear HO_5
        clear HO_6
        clear HO_7
        clear BK306
        clear HB
        have HO_3 := n0_
        have HO_5 := n1_
        have HO_6 := n2_
        have HO_7 := n3_
        have BK306 := n4_
        have HB := n5_
        clear n0_ n1_ n2_ n3_ n4_ n5_
        obtain ⟨Ao23, co23, eo23⟩ := Kd.R_slice HO_5.out
        (first | subst eo23 | (injection eo23 with f1_ f2_ f3_; have f4_ := f1_.symm; have f5_ := f3_.symm; clear f1_ f2_ f3_; subst f4_; subst f5_))
        have p321 : 0 ≤ ((rd l0_2 x26_2) : Int) := of_decide_eq_true (by with_reducible assumption)
        have q321 : (rd l0_2 x26_2) < (t310.length : Int) := of_decide_eq_true (by with_reducible assumption)
        obtain ⟨ad321, e321, hx321_0⟩ := Kd.at_int (Kd.R_reads' HO_5.out).2.2 (rd l0_2 x26_2) p321 q321
        cases e321
        replace p321 := eq_true p321
        replace q321 := eq_true q321
        obtain ⟨Ao24, co24, eo24⟩ := Kd.R_slice HO_6.out
        (first | subst eo24 | (injection eo24 with f1_ f2_ f3_; have f4_ := f1_.symm; have f5_ := f3_.symm; clear f1_ f2_ f3_; subst f4_; subst f5_))
        have p322 : 0 ≤ ((rd l0_2 x26_2) : Int) := of_decide_eq_true (by with_reducible assumption)
        have q322 : (rd l0_2 x26_2) < (t313.length : Int) := of_decide_eq_true (by with_reducible assumption)
        obtain ⟨ad322, e322, hx322_0⟩ := Kd.at_int (Kd.R_reads' HO_6.out).2.2 (rd l0_2 x26_2) p322 q322
        cases e322
        replace p322 := eq_true p322
        replace q322 := eq_true q322
        refine start_ (n := 21) (S := fun w' => w'.cell? ⟨gb306, 0, none⟩ = some (.int .i64 a0_0) ∧ w'.cell? ⟨gb306, 1, none⟩ = some (.slice A0_1 l0_1.length c0_1) ∧ w'.cell? ⟨gb306, 2, none⟩ = some (.slice (some ad319) l0_2.length c0_2) ∧ w'.cell? ⟨gb306, 3, none⟩ = some (.int .i64 a0_3) ∧ w'.cell? ⟨gb306, 4, none⟩ = some (.int .i64 a0_4) ∧ w'.cell? ⟨gb306, 5, none⟩ = some (.int .i64 a0_5) ∧ w'.cell? ⟨gb306, 6, none⟩ = some (.int .i64 a0_6) ∧ w'.cell? (ad321.add ((rd l0_2 x26_2)).toNat) = some (.int .i64 (rd t310 (rd l0_2 x26_2))) ∧ w'.cell? (ad322.add ((rd l0_2 x26_2)).toNat) = some (.int .i64 (rd t313 (rd l0_2 x26_2)))) (ds := [18, 19]) #[false, false, false, false, false, false, false, false, false, false, false, false, false, false, false, false, false, false, false, false, false] (by kernel_rfl) rfl rfl ⟨(blk_cell BK306.out 0).trans rfl, (blk_cell BK306.out 1).trans rfl, (blk_cell BK306.out 2).trans rfl, (blk_cell BK306.out 3).trans rfl, (blk_cell BK306.out 4).trans rfl, (blk_cell BK306.out 5).trans rfl, (blk_cell BK306.out 6).trans rfl, hx321_0, hx322_0⟩ (fun hHeld => ?_); refine with_tabW impl_Circuit_links.tab10 impl_Circuit_links.bits10 (fun HT_ HW_ => ?_)
        generalize wr.drew = w22 at HO_3 HO_5 HO_6 HO_7 BK306 HB hx321_0 hx322_0 hHeld ⊢
        refine pure_ (i := 0) (N := some 35) (v := ?_) (a' := ?_) #[true, false, false, false, false, false, false, false, false, false, false, false, false, false, false, false, false, false, false, false, false] rfl rfl (any_of HT_.out (by kernel_rfl)) (fun _ _ _ h => h) (Or.inl ⟨by rfl, ?_⟩) ?_ ?_
        rotate_left
        ·intro w'
         go_simp
         with_reducible rfl
        rotate_left
        ·simp only [Act.put, List.setIfInBounds_toArray, List.set_cons_zero, List.set_cons_succ, i64_w, i32_w]
         rfl
        refine pure_ (i := 1) (N := some 36) (v := ?_) (a' := ?_) #[true, true, false, false, false, false, false, false, false, false, false, false, false, false, false, false, false, false, false, false, false] rfl rfl (any_of HT_.out (by kernel_rfl)) (fun _ _ _ h => h) (Or.inl ⟨by rfl, ?_⟩) ?_ ?_
        rotate_left
        ·intro w'
         go_simp
         with_reducible rfl
        rotate_left
        ·simp only [Act.put, List.setIfInBounds_toArray, List.set_cons_zero, List.set_cons_succ, i64_w, i32_w]
         rfl
        refine pure_ (i := 2) (N := some 37) (v := ?_) (a' := ?_) #[true, true, true, false, false, false, false, false, false, false, false, false, false, false, false, false, false, false, false, false, false] rfl rfl (any_of HT_.out (by kernel_rfl)) (fun _ _ _ h => h) (Or.inl ⟨by rfl, ?_⟩) ?_ ?_
        rotate_left
        ·intro w'
         go_simp
         with_reducible rfl
        rotate_left
        ·simp only [Act.put, List.setIfInBounds_toArray, List.set_cons_zero, List.set_cons_succ, i64_w, i32_w]
         rfl
        refine pure_ (i := 3) (N := some 38) (v := ?_) (a' := ?_) #[true, true, true, true, false, false, false, false, false, false, false, false, false, false, false, false, false, false, false, false, false] rfl rfl (any_of HT_.out (by kernel_rfl)) (fun _ _ _ h => h) (Or.inl ⟨by rfl, ?_⟩) ?_ ?_
        rotate_left
        ·intro w'
         go_simp
         with_reducible rfl
        rotate_left
        ·simp only [Act.put, List.setIfInBounds_toArray, List.set_cons_zero, List.set_cons_succ, i64_w, i32_w]
         rfl
        refine pure_ (i := 4) (N := some 39) (v := ?_) (a' := ?_) #[true, true, true, true, true, false, false, false, false, false, false, false, false, false, false, false, false, false, false, false, false] rfl rfl (any_of HT_.out (by kernel_rfl)) (fun _ _ _ h => h) (Or.inl ⟨by rfl, ?_⟩) ?_ ?_
        rotate_left
        ·intro w'
         go_simp
         with_reducible rfl
        rotate_left
        ·simp only [Act.put, List.setIfInBounds_toArray, List.set_cons_zero, List.set_cons_succ, i64_w, i32_w]
         rfl
        refine pure_ (i := 5) (N := some 40) (v := ?_) (a' := ?_) #[true, true, true, true, true, true, false, false, false, false, false, false, false, false, false, false, false, false, false, false, false] rfl rfl (any_of HT_.out (by kernel_rfl)) (fun _ _ _ h => h) (Or.inl ⟨by rfl, ?_⟩) ?_ ?_
        rotate_left
        ·intro w'
         go_simp
         with_reducible rfl
        rotate_left
        ·simp only [Act.put, List.setIfInBounds_toArray, List.set_cons_zero, List.set_cons_succ, i64_w, i32_w]
         rfl
        refine pure_ (i := 7) (N := some 42) (v := ?_) (a' := ?_) #[true, true, true, true, true, true, false, true, false, false, false, false, false, false, false, false, false, false, false, false, false] rfl rfl (any_of HT_.out (by kernel_rfl)) (fun _ _ _ h => h) (Or.inl ⟨by rfl, ?_⟩) ?_ ?_
        rotate_left
        ·intro w'
         go_simp
         with_reducible rfl
        rotate_left
        ·simp only [Act.put, List.setIfInBounds_toArray, List.set_cons_zero, List.set_cons_succ, i64_w, i32_w]
         rfl
        refine pure_ (i := 10) (N := some 45) (v := ?_) (a' := ?_) #[true, true, true, true, true, true, false, true, false, false, true, false, false, false, false, false, false, false, false, false, false] rfl rfl (any_of HT_.out (by kernel_rfl)) (fun _ _ _ h => h) (Or.inl ⟨by rfl, ?_⟩) ?_ ?_
        rotate_left
        ·intro w'
         go_simp
         with_reducible rfl
        rotate_left
        ·simp only [Act.put, List.setIfInBounds_toArray, List.set_cons_zero, List.set_cons_succ, i64_w, i32_w]
         rfl
        refine pure_ (i := 11) (N := some 46) (v := ?_) (a' := ?_) #[true, true, true, true, true, true, false, true, false, false, true, true, false, false, false, false, false, false, false, false, false] rfl rfl (any_of HT_.out (by kernel_rfl)) (fun _ _ _ h => h) (Or.inl ⟨by rfl, ?_⟩) ?_ ?_
        rotate_left
        ·intro w'
         go_simp
         with_reducible rfl
        rotate_left
        ·simp only [Act.put, List.setIfInBounds_toArray, List.set_cons_zero, List.set_cons_succ, i64_w, i32_w]
         rfl
        refine pure_ (i := 12) (N := some 47) (v := ?_) (a' := ?_) #[true, true, true, true, true, true, false, true, false, false, true, true, true, false, false, false, false, false, false, false, false] rfl rfl (any_of HT_.out (by kernel_rfl)) (fun _ _ _ h => h) (Or.inl ⟨by rfl, ?_⟩) ?_ ?_
        rotate_left
        ·intro w'
         go_simp
         with_reducible rfl
        rotate_left
        ·simp only [Act.put, List.setIfInBounds_toArray, List.set_cons_zero, List.set_cons_succ, i64_w, i32_w]
         rfl
        refine pure_ (i := 14) (N := some 49) (v := ?_) (a' := ?_) #[true, true, true, true, true, true, false, true, false, false, true, true, true, false, true, false, false, false, false, false, false] rfl rfl (any_of HT_.out (by kernel_rfl)) (fun _ _ _ h => h) (Or.inl ⟨by rfl, ?_⟩) ?_ ?_
        rotate_left
        ·intro w'
         go_simp
         with_reducible rfl
        rotate_left
        ·simp only [Act.put, List.setIfInBounds_toArray, List.set_cons_zero, List.set_cons_succ, i64_w, i32_w]
         rfl
        refine take_ (i := 6) (N := some 41) (v := ?_) (a' := ?_) #[true, true, true, true, true, true, true, true, false, false, true, true, true, false, true, false, false, false, false, false, false] rfl rfl (take_ofW HT_.out HW_.out (by kernel_rfl)) (fun _ _ _ h => h) (Or.inl ⟨by rfl, ?_⟩) hHeld ?_ ?_
        rotate_left
        ·rintro w' ⟨s0, s1, s2, s3, s4, s5, s6, s7, s8⟩
         go_simp
         with_reducible rfl
        rotate_left
        ·simp only [Act.put, List.setIfInBounds_toArray, List.set_cons_zero, List.set_cons_succ, i64_w, i32_w]
         rfl
        refine take_ (i := 8) (N := some 43) (v := ?_) (a' := ?_) #[true, true, true, true, true, true, true, true, true, false, true, true, true, false, true, false, false, false, false, false, false] rfl rfl (take_ofW HT_.out HW_.out (by kernel_rfl)) (fun _ _ _ h => h) (Or.inl ⟨by rfl, ?_⟩) hHeld ?_ ?_
        rotate_left
        ·rintro w' ⟨s0, s1, s2, s3, s4, s5, s6, s7, s8⟩
         go_simp
         with_reducible rfl
        rotate_left
        ·simp only [Act.put, List.setIfInBounds_toArray, List.set_cons_zero, List.set_cons_succ, i64_w, i32_w]
         rfl
        refine pure_ (i := 9) (N := some 44) (v := ?_) (a' := ?_) #[true, true, true, true, true, true, true, true, true, true, true, true, true, false, true, false, false, false, false, false, false] rfl rfl (any_of HT_.out (by kernel_rfl)) (fun _ _ _ h => h) (Or.inl ⟨by rfl, ?_⟩) ?_ ?_
        rotate_left
        ·intro w'
         go_simp
         with_reducible rfl
        rotate_left
        ·simp only [Act.put, List.setIfInBounds_toArray, List.set_cons_zero, List.set_cons_succ, i64_w, i32_w]
         rfl
        refine take_ (i := 13) (N := some 48) (v := ?_) (a' := ?_) #[true, true, true, true, true, true, true, true, true, true, true, true, true, true, true, false, false, false, false, false, false] rfl rfl (take_ofW HT_.out HW_.out (by kernel_rfl)) (fun _ _ _ h => h) (Or.inl ⟨by rfl, ?_⟩) hHeld ?_ ?_
        rotate_left
        ·rintro w' ⟨s0, s1, s2, s3, s4, s5, s6, s7, s8⟩
         go_simp
         with_reducible rfl
        rotate_left
        ·simp only [Act.put, List.setIfInBounds_toArray, List.set_cons_zero, List.set_cons_succ, i64_w, i32_w]
         rfl
        refine take_ (i := 15) (N := some 50) (v := ?_) (a' := ?_) #[true, true, true, true, true, true, true, true, true, true, true, true, true, true, true, true, false, false, false, false, false] rfl rfl (take_ofW HT_.out HW_.out (by kernel_rfl)) (fun _ _ _ h => h) (Or.inl ⟨by rfl, ?_⟩) hHeld ?_ ?_
        rotate_left
        ·rintro w' ⟨s0, s1, s2, s3, s4, s5, s6, s7, s8⟩
         go_simp
         with_reducible rfl
        rotate_left
        ·simp only [Act.put, List.setIfInBounds_toArray, List.set_cons_zero, List.set_cons_succ, i64_w, i32_w]
         rfl
        refine pure_ (i := 16) (N := some 51) (v := ?_) (a' := ?_) #[true, true, true, true, true, true, true, true, true, true, true, true, true, true, true, true, true, false, false, false, false] rfl rfl (any_of HT_.out (by kernel_rfl)) (fun _ _ _ h => h) (Or.inl ⟨by rfl, ?_⟩) ?_ ?_
        rotate_left
        ·intro w'
         go_simp
         with_reducible rfl
        rotate_left
        ·simp only [Act.put, List.setIfInBounds_toArray, List.set_cons_zero, List.set_cons_succ, i64_w, i32_w]
         rfl
        refine pure_ (i := 17) (N := some 52) (v := ?_) (a' := ?_) #[true, true, true, true, true, true, true, true, true, true, true, true, true, true, true, true, true, true, false, false, false] rfl rfl (any_of HT_.out (by kernel_rfl)) (fun _ _ _ h => h) (Or.inl ⟨by rfl, ?_⟩) ?_ ?_
        rotate_left
        ·intro w'
         go_simp
         with_reducible rfl
        rotate_left
        ·simp only [Act.put, List.setIfInBounds_toArray, List.set_cons_zero, List.set_cons_succ, i64_w, i32_w]
         rfl
        refine last_ (i := 18) (N := some 53) #[true, true, true, true, true, true, true, true, true, true, true, true, true, true, true, true, true, true, true, false, false] rfl rfl (one_of HT_.out (by kernel_rfl)) (by decide) (fun K hK => ?_)
        refine value_ (w1 := ?_) (v := ?_) (by rfl) rfl ?_ ?_
        rotate_left 2
        ·go_simp
         constructor
         ·rfl
         ·rfl
        refine hK.out _ _ ?_
        clear hK K
        refine norm_ (a' := ?_) ?_ ?_
        rotate_left
        ·show Act.put _ (some 53) _ = _
         simp only [Act.put, List.setIfInBounds_toArray, List.set_cons_zero, List.set_cons_succ, i64_w, i32_w]
         rfl
        refine last_ (i := 19) (N := some 54) #[true, true, true, true, true, true, true, true, true, true, true, true, true, true, true, true, true, true, true, true, false] rfl rfl (one_of HT_.out (by kernel_rfl)) (by decide) (fun K hK => ?_)
        refine Kd.R_append_step k72 (w0 := w) w.heap.size (by rfl) (.tmp 35) (.tmp 53) 69 72 (.agg #[(.int .i64 0), (.int .i64 0), (.int .i64 0), (.int .i64 0)]) 32 rfl Try.underlying69 info72 rfl (by decide) (by omega) u3 x3_2 (⟨x13_1, x26_2, wrap64 ((rd t310 (rd l0_2 x26_2)) + a0_5), wrap64 ((rd t313 (rd l0_2 x26_2)) + a0_6)⟩ : S72) [.int .i64 x13_1, .int .i64 x26_2, .int .i64 (wrap64 ((rd t310 (rd l0_2 x26_2)) + a0_5)), .int .i64 (wrap64 ((rd t313 (rd l0_2 x26_2)) + a0_6))] (fun _ => True) (fun _ => False) rfl rfl ?aP (fun _ hk => hk.elim) ?aF ?aO ?aB ?aS ?aL ?_
        (case aP => exact k72_mkM _ _ _ (⟨x13_1, x26_2, wrap64 ((rd t310 (rd l0_2 x26_2)) + a0_5), wrap64 ((rd t313 (rd l0_2 x26_2)) + a0_6)⟩ : S72))
        (case aB => exact (by with_reducible repeat (first | exact HB.out | apply below_alloc | apply pw_below_drewN | apply below_drew1 | refine below_set ?_ GE306.out)))
        (case aF => exact (fun _ _ => trivial))
        (case aO => exact (by (with_reducible repeat (first | apply Kd.R_alloc | apply Kd.R_drewN | apply Kd.R_drew)); exact HO_3.out))
        (case aS => exact (below_size (by with_reducible repeat (first | exact HB.out | apply below_alloc | apply pw_below_drewN | apply below_drew1 | refine below_set ?_ GE306.out))))
        (case aL => have := LMc20.out; omega)
        intro v324 w25 ho hb hg hat
        rw [← Ny323.out] at ho
        have n0_ := Aside0.mk (Kd.R_over' (by (with_reducible repeat (first | apply Kd.R_alloc | apply Kd.R_drewN | apply Kd.R_drew)); exact HO_5.out) (Kd.R_typed (by (with_reducible repeat (first | apply Kd.R_alloc | apply Kd.R_drewN | apply Kd.R_drew)); exact HO_3.out)) (by decide) hg)
        have n1_ := Aside0.mk (Kd.R_over' (by (with_reducible repeat (first | apply Kd.R_alloc | apply Kd.R_drewN | apply Kd.R_drew)); exact HO_6.out) (Kd.R_typed (by (with_reducible repeat (first | apply Kd.R_alloc | apply Kd.R_drewN | apply Kd.R_drew)); exact HO_3.out)) (by decide) hg)
        have n2_ := Aside0.mk (Kd.R_over' (by (with_reducible repeat (first | apply Kd.R_alloc | apply Kd.R_drewN | apply Kd.R_drew)); exact HO_7.out) (Kd.R_typed (by (with_reducible repeat (first | apply Kd.R_alloc | apply Kd.R_drewN | apply Kd.R_drew)); exact HO_3.out)) (by decide) hg)
        have n3_ := Aside0.mk (blk_grown (g := gb306) (by (with_reducible repeat (first | refine blk_drewN ?_ _ | refine blk_drew ?_ | refine blk_alloc ?_ _)); exact BK306.out) hg (Kd.R_ne HO_3.out BK306.out (by decide)))
        have n4_ := Aside0.mk (hb)
        have n5_ := Aside0.mk (ho)
        clear HO_5
        clear HO_6
        clear HO_7
        clear BK306
        clear HB
        clear HO_3
        have HO_5 := n0_
        have HO_6 := n1_
        have HO_7 := n2_
        have BK306 := n3_
        have HB := n4_
        have HO325 := n5_
        clear n0_ n1_ n2_ n3_ n4_ n5_
        clear ho hb hg hat
        refine hK.out _ _ ?_
        clear hK K
        refine norm_ (a' := ?_) ?_ ?_
        rotate_left
        ·show Act.put _ (some 54) _ = _
         simp only [Act.put, List.setIfInBounds_toArray, List.set_cons_zero, List.set_cons_succ, i64_w, i32_w]
         rfl
        refine pure_ (i := 20) (N := some 3) (v := ?_) (a' := ?_) #[true, true, true, true, true, true, true, true, true, true, true, true, true, true, true, true, true, true, true, true, true] rfl rfl (any_of HT_.out (by kernel_rfl)) (fun _ _ _ h => h) (Or.inl ⟨by rfl, ?_⟩) ?_ ?_
        rotate_left
        ·intro w'
         go_simp
         with_reducible rfl
        rotate_left
        ·simp only [Act.put, List.setIfInBounds_toArray, List.set_cons_zero, List.set_cons_succ, i64_w, i32_w]
         rfl
        refine done_ (done_of HT_.out (by kernel_rfl)) ?_
        try go_wp2
        go_roundg k2
        case measure => have := HK1.out; have := HK2.out; omega
        case rel => exact ⟨(y323), (wrap64 (x26_2 + 1)), (by first | rfl | (simp; done) | (simp [*]; done)), H', ⟨by have := HK1.out; have := HK2.out; omega⟩, ⟨by (with_reducible repeat (first | apply Kd.R_alloc | apply Kd.R_drewN | apply Kd.R_drew)); exact HO325.out⟩, ⟨by (with_reducible repeat (first | apply Kd.R_alloc | apply Kd.R_drewN | apply Kd.R_drew)); exact HO_5.out⟩, ⟨by (with_reducible repeat (first | apply Kd.R_alloc | apply Kd.R_drewN | apply Kd.R_drew)); exact HO_6.out⟩, ⟨by (with_reducible repeat (first | apply Kd.R_alloc | apply Kd.R_drewN | apply Kd.R_drew)); exact HO_7.out⟩, ⟨by (with_reducible repeat (first | refine blk_drewN ?_ _ | refine blk_drew ?_ | refine blk_alloc ?_ _)); exact BK306.out⟩, ⟨by with_reducible repeat (first | exact HB.out | apply below_alloc | apply pw_below_drewN | apply below_drew1 | refine below_set ?_ GE306.out)⟩⟩
       ·replace c17 := Bool.eq_false_iff.mpr c17
        subst c17
        rw [if_neg (by decide)] at H
        have H' := Aside0.mk H
        clear H
        have p319 : 0 ≤ (x26_2 : Int) := of_decide_eq_true (by with_reducible assumption)
        have q319 : x26_2 < (l0_2.length : Int) := of_decide_eq_true (by with_reducible assumption)
        obtain ⟨ad319, e319, hx319_0⟩ := Kd.at_int HR0_2.out x26_2 p319 q319
        cases e319
        replace hx319_0 := (HB.out.cell (World.block_lt_of_cell? w _ hx319_0)).trans hx319_0
        replace p319 := eq_true p319
        replace q319 := eq_true q319
        obtain ⟨Ao26, co26, eo26⟩ := Kd.R_slice HO_7.out
        subst eo26
        have p320 : 0 ≤ ((rd l0_2 x26_2) : Int) := of_decide_eq_true (by with_reducible assumption)
        have q320 : (rd l0_2 x26_2) < (t316.length : Int) := of_decide_eq_true (by with_reducible assumption)
        obtain ⟨ad320, e320, hx320_0⟩ := Kd.at_bool (Kd.R_reads' HO_7.out).2.2 (rd l0_2 x26_2) p320 q320
        (try rw [← Nbq16.out] at hx320_0)
        cases e320
        replace p320 := eq_true p320
        replace q320 := eq_true q320
        go_wp2
        go_roundg k2
        case measure => have := HK1.out; have := HK2.out; omega
        case rel => exact ⟨(x3_2), (wrap64 (x26_2 + 1)), (by first | rfl | (simp; done) | (simp [*]; done)), H', ⟨by have := HK1.out; have := HK2.out; omega⟩, ⟨by (with_reducible repeat (first | apply Kd.R_alloc | apply Kd.R_drewN | apply Kd.R_drew)); exact HO_3.out⟩, ⟨by (with_reducible repeat (first | apply Kd.R_alloc | apply Kd.R_drewN | apply Kd.R_drew)); exact HO_5.out⟩, ⟨by (with_reducible repeat (first | apply Kd.R_alloc | apply Kd.R_drewN | apply Kd.R_drew)); exact HO_6.out⟩, ⟨by (with_reducible repeat (first | apply Kd.R_alloc | apply Kd.R_drewN | apply Kd.R_drew)); exact HO_7.out⟩, ⟨by (with_reducible repeat (first | refine blk_drewN ?_ _ | refine blk_drew ?_ | refine blk_alloc ?_ _)); exact BK306.out⟩, ⟨by with_reducible repeat (first | exact HB.out | apply below_alloc | apply pw_below_drewN | apply below_drew1 | refine below_set ?_ GE306.out)⟩⟩
      ·rw [if_neg c11] at H
       have c11b0 : decide (x26_2 < (l0_2.length : Int)) = false := decide_eq_false c11
       clear c11
       have H' := Aside0.mk H
       clear H
       go_wp2
       go_roundg k2
       case measure => have := HK1.out; have := HK2.out; omega
       case rel => exact ⟨(x3_2), (wrap64 (x13_1 + 1)), (by first | rfl | (simp; done) | (simp [*]; done)), H', ⟨by have := HK1.out; have := HK2.out; omega⟩, ⟨by (with_reducible repeat (first | apply Kd.R_alloc | apply Kd.R_drewN | apply Kd.R_drew)); exact HO_3.out⟩, ⟨by (with_reducible repeat (first | refine blk_drewN ?_ _ | refine blk_drew ?_ | refine blk_alloc ?_ _)); exact BK306.out⟩, ⟨by with_reducible repeat (first | exact HB.out | apply below_alloc | apply pw_below_drewN | apply below_drew1 | refine below_set ?_ GE306.out)⟩⟩
   ·rw [if_neg c6] at H
    have c6b0 : decide (x13_1 < a0_0) = false := decide_eq_false c6
    clear c6
    obtain rfl := Option.some.inj H
    go_wp2
    go_ret
    exact ⟨_, by first | rfl | (simp [errW_none, errW_some] <;> rfl) | (simp [*, errW_none, errW_some] <;> rfl), by (with_reducible repeat (first | apply Kd.R_alloc | apply Kd.R_drewN | apply Kd.R_drew)); exact HO_3.out, by with_reducible repeat (first | exact HB.out | apply below_alloc | apply pw_below_drewN | apply below_drew1 | refine below_set ?_ GE306.out)⟩

end Go.Proofs.Ytalafmahgeejiaa.Pa

/- The program's delays from a register to each node, and its links. -/
namespace Go.Proofs.Ytalafmahgeejiaa.Pure
open Go.RowKit Go.Proofs.Ytalafmahgeejiaa.Pa Go.Proofs.YtalafmahgeejiaaW.PrintWords Go.Proofs.YtalafmahgeejiaaW.PrintLast
set_option linter.unusedVariables false
set_option linter.unusedSimpArgs false

/-- Three rows of so many cells tell a table. -/
structure Rel (N : Nat) (t : List Way) (L M : List Int) (R : List Bool) : Prop where
 l : L.length = N
 m : M.length = N
 r : R.length = N
 no : ∀ v : Nat, v < N → t.getD v none = none → R.getD v false = false
 yes : ∀ v : Nat, v < N → ∀ p, t.getD v none = some p → R.getD v false = true ∧ L.getD v 0 = p.1 ∧ M.getD v 0 = p.2
theorem rdOf_nat {x : Int} (h : 0 ≤ x) (R : List Bool) : rdOf false R x = R.getD x.toNat false := by
 unfold rdOf
 rfl
theorem rd_nat (l : List Int) (x : Int) : rd l x = l.getD x.toNat 0 := rfl
theorem getD_snoc_lt {α : Type} {t : List α} {v : α} {z : α} {i : Nat} (h : i < t.length) : (t ++ [v]).getD i z = t.getD i z := by
 rw [List.getD_eq_getElem?_getD, List.getD_eq_getElem?_getD, List.getElem?_append_left h]
theorem getD_snoc_eq {α : Type} {t : List α} {v : α} {z : α} : (t ++ [v]).getD t.length z = v := by
 rw [List.getD_eq_getElem?_getD, List.getElem?_append_right (Nat.le_refl _)]
 simp
theorem getD_snoc_gt {α : Type} {t : List α} {v : α} {z : α} {i : Nat} (h : t.length < i) : (t ++ [v]).getD i z = z := by
 rw [List.getD_eq_getElem?_getD, List.getElem?_eq_none (by simp; omega)]
 rfl
theorem getD_over {α : Type} {t : List α} {z : α} {i : Nat} (h : t.length ≤ i) : t.getD i z = z := by
 rw [List.getD_eq_getElem?_getD, List.getElem?_eq_none h]
 rfl
theorem getD_set {α : Type} {l : List α} {i j : Nat} {v z : α} (h : i < l.length) : (l.set i v).getD j z = if i = j then v else l.getD j z := by
 rw [List.getD_eq_getElem?_getD, List.getD_eq_getElem?_getD, List.getElem?_set]
 split
 ·simp [h]
 ·rfl
theorem Rel.none {N : Nat} {t : List Way} {L M : List Int} {R : List Bool} (h : Rel N t L M R) : Rel N (t ++ [none]) L M R := by
 have e : ∀ v : Nat, (t ++ [Option.none]).getD v Option.none = t.getD v Option.none := by
  intro v
  rcases Nat.lt_trichotomy v t.length with hv | hv | hv
  ·exact getD_snoc_lt hv
  ·subst hv
   rw [getD_snoc_eq, getD_over (Nat.le_refl _)]
  ·rw [getD_snoc_gt hv, getD_over (by omega)]
 exact ⟨h.l, h.m, h.r, fun v hv ht => h.no v hv (by rw [← e]; exact ht), fun v hv p ht => h.yes v hv p (by rw [← e]; exact ht)⟩
theorem mn_def (a b : Int) : mn a b = if b < a then b else a := rfl
theorem mx_def (a b : Int) : mx a b = if a < b then b else a := rfl
/-- A node's entry is written anew. -/
theorem Rel.put {N : Nat} {t : List Way} {acc : Way} {L M : List Int} {R : List Bool} (h : Rel N (t ++ [acc]) L M R) (ht : t.length < N) (a b : Int) : Rel N (t ++ [some (a, b)]) (L.set t.length a) (M.set t.length b) (R.set t.length true) := by
 have hl := h.l
 have hm := h.m
 have hr := h.r
 refine ⟨by simpa using hl, by simpa using hm, by simpa using hr, fun v hv hn => ?_, fun v hv p hp => ?_⟩
 ·rcases Nat.lt_trichotomy v t.length with hvt | hvt | hvt
  ·rw [getD_set (by omega), if_neg (by omega)]
   rw [getD_snoc_lt hvt] at hn
   exact h.no v hv (by rw [getD_snoc_lt hvt]; exact hn)
  ·subst hvt
   rw [getD_snoc_eq] at hn
   simp at hn
  ·rw [getD_set (by omega), if_neg (by omega)]
   exact h.no v hv (getD_snoc_gt hvt)
 ·rcases Nat.lt_trichotomy v t.length with hvt | hvt | hvt
  ·rw [getD_set (by omega), getD_set (by omega), getD_set (by omega), if_neg (by omega), if_neg (by omega), if_neg (by omega)]
   rw [getD_snoc_lt hvt] at hp
   exact h.yes v hv p (by rw [getD_snoc_lt hvt]; exact hp)
  ·subst hvt
   rw [getD_snoc_eq] at hp
   rw [getD_set (by omega), getD_set (by omega), getD_set (by omega), if_pos rfl, if_pos rfl, if_pos rfl]
   simp only [Option.some.injEq] at hp
   subst hp
   exact ⟨rfl, rfl, rfl⟩
  ·rw [getD_snoc_gt hvt] at hp
   simp at hp
theorem set_same {l : List Bool} {i : Nat} (h : l.getD i false = true) : l.set i true = l := by
 apply List.ext_getElem?
 intro j
 rw [List.getElem?_set]
 split
 ·rename_i e
  subst e
  rw [List.getD_eq_getElem?_getD] at h
  cases hg : l[i]? with
  | none => rw [hg] at h; simp at h
  | some b =>
   rw [hg] at h
   simp only [Option.getD_some] at h
   have := (List.getElem?_eq_some_iff.mp hg).1
   rw [if_pos this, h]
 ·rfl
theorem delays_l1 (n a3 a4 a5 a6 : Int) (gates : List S62) (data : List Int) (i : Nat) (hi' : i < gates.length) (C : Gates n gates)
  (t : List Way) (m : Int) (hm : m ≤ 10000) (ht : ∀ v ∈ t, Bd m v) (htl : (t.length : Int) = n + i) (N : Nat) (hN : t.length < N) (d : Nat) :
  ∀ (j : Nat) (acc : Way) (L M : List Int) (R : List Bool), j + d = gates[i].f2.length → Bd (m + 100) acc → Rel N (t ++ [acc]) L M R →
  ∃ L' M' R', Rel N (t ++ [joins gates[i] t acc (gates[i].f2.drop j)]) L' M' R' ∧ ∀ r, Ev (fun k => impl_Circuit_delays.l0 k L' M' R' gates (gates.length : Int) ((i : Int) + 1) n gates data a3 a4 a5 a6) r →
  Ev (fun k => impl_Circuit_delays.l1 k L M R (n + (i : Int)) gates (gates.length : Int) (i : Int) gates[i].f2 (gates[i].f2.length : Int) (j : Int) n gates data a3 a4 a5 a6 gates[i].f0 gates[i].f1 gates[i].f2) r := by
 have hc := C.n0
 have hc1 := C.n1
 have hcl := C.len
 have hg := C.gate i hi'
 have hwide := C.wide i hi'
 induction d with
 | zero =>
  intro j acc L M R h hb hR
  rw [List.drop_of_length_le (by omega)]
  refine ⟨L, M, R, hR, fun r hE => ?_⟩
  obtain ⟨K, hK⟩ := hE
  refine ⟨K + 1, fun k hk => ?_⟩
  obtain ⟨k, rfl⟩ : ∃ m, k = m + 1 := ⟨k - 1, by omega⟩
  simp only [impl_Circuit_delays.l1]
  rw [if_neg (by omega), wrap_id (by omega) (by omega)]
  exact hK k (by omega)
 | succ d ih =>
  intro j acc L M R h hb hR
  have hj : j < gates[i].f2.length := by omega
  have hxj := hg.2.2.2.2 _ (List.getElem_mem hj)
  rw [List.drop_eq_getElem_cons hj]
  simp only [joins]
  have hvb := getD_bd ht (gates[i].f2[j]).toNat
  have hw : wrap64 ((j : Int) + 1) = (j : Int) + 1 := wrap_id (by omega) (by omega)
  have hl := hR.l
  have hm' := hR.m
  have hr := hR.r
  have hxt : (gates[i].f2[j]).toNat < t.length := by omega
  have hxN : (gates[i].f2[j]).toNat < N := by omega
  have hnode : ((n + (i : Int)).toNat) = t.length := by omega
  have hsnoc := getD_snoc_lt (v := acc) (z := (none : Way)) hxt
  have c1 : (j : Int) < (gates[i].f2.length : Int) := Int.ofNat_lt.mpr hj
  have c2 : gates[i].f2[j] < (R.length : Int) := by omega
  have c3 : gates[i].f2[j] < (L.length : Int) := by omega
  have c4 : gates[i].f2[j] < (M.length : Int) := by omega
  have c5 : 0 ≤ n + (i : Int) := by omega
  have c6 : n + (i : Int) < (R.length : Int) := by omega
  have c7 : n + (i : Int) < (L.length : Int) := by omega
  have c8 : n + (i : Int) < (M.length : Int) := by omega
  cases hv : t.getD (gates[i].f2[j]).toNat none with
  | none =>
   have hE' : joins gates[i] t (joinG gates[i] acc none) (gates[i].f2.drop (j + 1)) = joins gates[i] t acc (gates[i].f2.drop (j + 1)) := by
    cases acc <;> rfl
   obtain ⟨L', M', R', hR', hE⟩ := ih (j + 1) acc L M R (by omega) hb hR
   refine ⟨L', M', R', by rw [hE']; exact hR', fun r hr' => ?_⟩
   obtain ⟨K, hK⟩ := hE r hr'
   refine ⟨K + 1, fun k hk => ?_⟩
   obtain ⟨k, rfl⟩ : ∃ m, k = m + 1 := ⟨k - 1, by omega⟩
   have hk2 := hK k (by omega)
   push_cast at hk2
   simp only [impl_Circuit_delays.l1]
   rw [if_pos c1, if_pos (Int.natCast_nonneg j), if_pos c1, rd_get hj, if_pos hxj.1, if_pos c2, rdOf_nat hxj.1, hR.no _ hxN (hsnoc.trans hv), if_neg (by decide), hw]
   exact hk2
  | some p =>
   rw [hv] at hvb
   have hp := hvb p rfl
   obtain ⟨y1, y2, y3⟩ := hR.yes _ hxN p (hsnoc.trans hv)
   have w1 : wrap64 (p.1 + gates[i].f0) = p.1 + gates[i].f0 := wrap_id (by omega) (by omega)
   have w2 : wrap64 (p.2 + gates[i].f1) = p.2 + gates[i].f1 := wrap_id (by omega) (by omega)
   cases acc with
   | none =>
    have hput := hR.put hN (p.1 + gates[i].f0) (p.2 + gates[i].f1)
    obtain ⟨L', M', R', hR', hE⟩ := ih (j + 1) _ _ _ _ (by omega) (joinG_bd ⟨hg.1, hg.2.1, hg.2.2.1⟩ hb hvb) hput
    refine ⟨L', M', R', hR', fun r hr' => ?_⟩
    obtain ⟨K, hK⟩ := hE r hr'
    refine ⟨K + 1, fun k hk => ?_⟩
    obtain ⟨k, rfl⟩ : ∃ m, k = m + 1 := ⟨k - 1, by omega⟩
    have hk2 := hK k (by omega)
    push_cast at hk2
    simp only [impl_Circuit_delays.l1]
    rw [if_pos c1, if_pos (Int.natCast_nonneg j), if_pos c1, rd_get hj, if_pos hxj.1, if_pos c2, rdOf_nat hxj.1, y1, if_pos rfl, if_pos c3, if_pos c4, if_pos c5, if_pos c6, rdOf_nat c5, hnode, hR.no _ hN getD_snoc_eq, if_neg (by decide), if_pos c7]
    simp only [Option.bind_some]
    rw [if_pos c8]
    simp only [rd_nat, Option.bind_some, y2, y3, w1, w2, hnode, hw]
    rw [getD_set (by omega), if_pos rfl, getD_set (by omega), if_pos rfl, mn_def, mx_def, if_neg (by omega), if_neg (by omega), List.set_set, List.set_set]
    exact hk2
   | some q =>
    have hq := hb q rfl
    obtain ⟨z1, z2, z3⟩ := hR.yes _ hN q getD_snoc_eq
    have hput := hR.put hN (if p.1 + gates[i].f0 < q.1 then p.1 + gates[i].f0 else q.1) (if q.2 < p.2 + gates[i].f1 then p.2 + gates[i].f1 else q.2)
    rw [set_same z1] at hput
    obtain ⟨L', M', R', hR', hE⟩ := ih (j + 1) _ _ _ _ (by omega) (joinG_bd ⟨hg.1, hg.2.1, hg.2.2.1⟩ hb hvb) hput
    refine ⟨L', M', R', hR', fun r hr' => ?_⟩
    obtain ⟨K, hK⟩ := hE r hr'
    refine ⟨K + 1, fun k hk => ?_⟩
    obtain ⟨k, rfl⟩ : ∃ m, k = m + 1 := ⟨k - 1, by omega⟩
    have hk2 := hK k (by omega)
    push_cast at hk2
    simp only [impl_Circuit_delays.l1]
    rw [if_pos c1, if_pos (Int.natCast_nonneg j), if_pos c1, rd_get hj, if_pos hxj.1, if_pos c2, rdOf_nat hxj.1, y1, if_pos rfl, if_pos c3, if_pos c4, if_pos c5, if_pos c6, rdOf_nat c5, hnode, z1, if_pos rfl, if_pos c7, if_pos c8]
    simp only [rd_nat, y2, y3, w1, w2, hnode, hw, z2, z3, mn_def, mx_def]
    exact hk2
theorem delays_l0 (n a3 a4 a5 a6 : Int) (gates : List S62) (data : List Int) (C : Gates n gates) (N : Nat) (hN : (N : Int) = n + gates.length) (d : Nat) : ∀ (i : Nat) (t : List Way) (L M : List Int) (R : List Bool), i + d = gates.length → (t.length : Int) = n + i → (∀ v ∈ t, Bd (100 * i) v) → Rel N t L M R →
  ∃ L' M' R', Ev (fun k => impl_Circuit_delays.l0 k L M R gates (gates.length : Int) (i : Int) n gates data a3 a4 a5 a6) (L', M', R') ∧ Rel N (tabG t (gates.drop i)) L' M' R' := by
 have hc := C.n0
 have hc1 := C.n1
 have hcl := C.len
 induction d with
 | zero =>
  intro i t L M R h htl ht hR
  refine ⟨L, M, R, ⟨1, fun k hk => ?_⟩, ?_⟩
  ·obtain ⟨k, rfl⟩ : ∃ m, k = m + 1 := ⟨k - 1, by omega⟩
   simp only [impl_Circuit_delays.l0]
   rw [if_neg (by omega)]
  ·rw [List.drop_of_length_le (by omega)]
   exact hR
 | succ d ih =>
  intro i t L M R h htl ht hR
  have hi' : i < gates.length := by omega
  have hg := C.gate i hi'
  have hb := joins_bd ⟨hg.1, hg.2.1, hg.2.2.1⟩ ht gates[i].f2 none (Bd.none _)
  obtain ⟨L1, M1, R1, hR1, hE1⟩ := delays_l1 n a3 a4 a5 a6 gates data i hi' C t (100 * i) (by omega) ht htl N (by omega) gates[i].f2.length 0 none L M R (by omega) (Bd.none _) hR.none
  rw [List.drop_zero] at hR1
  obtain ⟨L2, M2, R2, hE2, hR2⟩ := ih (i + 1) _ L1 M1 R1 (by omega) (by simp; omega) (by
   intro v hv
   have := append_bd ht hb v hv
   rw [show (100 : Int) * ((i + 1 : Nat) : Int) = 100 * i + 100 by push_cast; omega]
   exact this) hR1
  refine ⟨L2, M2, R2, ?_, by rw [List.drop_eq_getElem_cons hi', tabG_cons]; exact hR2⟩
  push_cast at hE2
  obtain ⟨K, hK⟩ := hE1 _ hE2
  refine ⟨K + 1, fun k hk => ?_⟩
  obtain ⟨k, rfl⟩ : ∃ m, k = m + 1 := ⟨k - 1, by omega⟩
  simp only [impl_Circuit_delays.l0]
  rw [if_pos (Int.ofNat_lt.mpr hi'), if_pos (Int.natCast_nonneg i), if_pos (Int.ofNat_lt.mpr hi'), rdG' hi', wrap_id (x := n + (i : Int)) (by omega) (by omega)]
  exact hK k (by omega)
theorem rel0 (a : Int) (n : Int) (N : Nat) (h0 : 0 ≤ a) (h1 : a < n) (hN : n ≤ N) : Rel N (tab0 a n.toNat) (List.replicate N 0) (List.replicate N 0) ((List.replicate N false).set a.toNat true) := by
 have hg : ∀ v : Nat, (tab0 a n.toNat).getD v none = if v = a.toNat then some (0, 0) else none := by
  intro v
  unfold tab0
  by_cases hv : v < n.toNat
  ·rw [List.getD_eq_getElem?_getD, List.getElem?_map, List.getElem?_range hv]
   simp only [Option.map_some, Option.getD_some]
   by_cases e : v = a.toNat
   ·rw [if_pos (by omega), if_pos e]
   ·rw [if_neg (by omega), if_neg e]
  ·rw [getD_over (by simp; omega), if_neg (by omega)]
 refine ⟨by simp, by simp, by simp, fun v hv hn => ?_, fun v hv p hp => ?_⟩
 ·rw [hg] at hn
  rw [getD_set (by simp; omega)]
  split at hn
  ·simp at hn
  ·rename_i e
   rw [if_neg (fun x => e x.symm), List.getD_eq_getElem?_getD, List.getElem?_replicate]
   split <;> rfl
 ·rw [hg] at hp
  split at hp
  ·rename_i e
   simp only [Option.some.injEq] at hp
   subst hp e
   rw [getD_set (by simp; omega), if_pos rfl]
   refine ⟨rfl, ?_, ?_⟩ <;> (rw [List.getD_eq_getElem?_getD, List.getElem?_replicate, if_pos hv]; rfl)
  ·simp at hp
theorem delays_at (a n a3 a4 a5 a6 : Int) (gates : List S62) (data : List Int) (C : Gates n gates) (h0 : 0 ≤ a) (h1 : a < n) :
  ∃ L M R, Ev (fun k => impl_Circuit_delays.f k n gates data a3 a4 a5 a6 a) (L, M, R) ∧ Rel (n.toNat + gates.length) (tab a n gates) L M R := by
 have hc := C.n0
 have hc1 := C.n1
 have hcl := C.len
 obtain ⟨L, M, R, hE, hR⟩ := delays_l0 n a3 a4 a5 a6 gates data C (n.toNat + gates.length) (by omega) gates.length 0 (tab0 a n.toNat) _ _ _ (by omega) (by rw [tab0_len]; omega) (by simpa using tab0_bd a n.toNat) (rel0 a n _ h0 h1 (by omega))
 refine ⟨L, M, R, ?_, hR⟩
 obtain ⟨K, hK⟩ := hE
 refine ⟨K, fun k hk => ?_⟩
 have hk2 := hK k hk
 show impl_Circuit_delays.f k n gates data a3 a4 a5 a6 a = _
 unfold impl_Circuit_delays.f impl_Circuit_nodes.f
 rw [wrap_id (x := n + (gates.length : Int)) (by omega) (by omega)]
 simp only [Option.bind_some]
 rw [if_pos (by omega), if_pos (by omega), if_pos (by omega), if_pos h0, if_pos (by simp; omega), show (n + (gates.length : Int)).toNat = n.toNat + gates.length by omega]
 exact hk2
end Go.Proofs.Ytalafmahgeejiaa.Pure

namespace Go.Proofs.Ytalafmahgeejiaa.Pa
open Go.RowKit Go.Proofs.YtalafmahgeejiaaW.PrintWords Go.Proofs.YtalafmahgeejiaaW.PrintLast Go.Proofs.YtalafmahgeejiaaW.PrintMore
attribute [local go_sem] max2_int min2_int max_two min_two max_three min_three max_four min_four   -- for this text's walks alone
set_option linter.unusedVariables false
set_option linter.unusedSimpArgs false

/-! ### AUX leastOf -/
/-- The least of what a function tells, from a number on. -/
def leastFrom (p : S72 → Int) : Int → List S72 → Int
 | m, [] => m
 | m, x :: l => leastFrom p (if p x < m then p x else m) l
def leastL (p : S72 → Int) (l : List S72) : Int := leastFrom p (p (rd_T72 l 0)) l
theorem leastFrom_drop (p : S72 → Int) (m x : Int) (l : List S72) (h0 : 0 ≤ x) (h1 : x < (l.length : Int)) :
  leastFrom p m (l.drop x.toNat) = leastFrom p (if p (rd_T72 l x) < m then p (rd_T72 l x) else m) (l.drop (x + 1).toNat) := by
 rw [List.drop_eq_getElem_cons (by omega), show (x + 1).toNat = x.toNat + 1 from by omega]
 unfold rd_T72
 rw [List.getD_eq_getElem?_getD, List.getElem?_eq_getElem (by omega)]
 rfl
theorem link_mem (l : List S72) (x : Int) (h0 : 0 ≤ x) (h1 : x < (l.length : Int)) : rd_T72 l x ∈ l := by
 unfold rd_T72
 rw [List.getD_eq_getElem?_getD, List.getElem?_eq_getElem (by omega)]
 exact List.getElem_mem _
/-- Both ends of a link are places of a list. -/
def linkIn (l : List Int) (x : S72) : Bool := decide (0 ≤ x.f0) && decide (x.f0 < (l.length : Int)) && decide (0 ≤ x.f1) && decide (x.f1 < (l.length : Int))
attribute [local go_sem] max2_int min2_int max_two min_two
set_option maxHeartbeats 4000000 in
set_option maxRecDepth 100000 in
theorem leastOf.calls (k : Nat) (a0_0 : Int) (A0_1 : Option Addr) (c0_1 : Nat) (l0_1 : List (S62)) (A0_2 : Option Addr) (c0_2 : Nat) (l0_2 : List Int) (a0_3 a0_4 a0_5 a0_6 : Int) (g : Nat) (lb : Array Value) (p : S72 → Int) (ls : List S72) (w : World)
  (hr0_1 : Kd.C k62 w A0_1 l0_1.length l0_1) (hc0_1 : l0_1.length ≤ c0_1) (hr0_2 : Kd.C (Kd.int .i64) w A0_2 l0_2.length l0_2) (hc0_2 : l0_2.length ≤ c0_2)
  (hl : impl_Circuit_links.f k a0_0 l0_1 l0_2 a0_3 a0_4 a0_5 a0_6 = some ls) (hne : 0 < ls.length)
  (eg : ∀ args W, (callFunc g args).run Try.prog W = .ok (.enter g args) W)
  (hp : ∀ (W : World) (x : S72), x ∈ ls → Below w.heap.size w W → Calls Try.prog g (#[.agg #[.int .i64 x.f0, .int .i64 x.f1, .int .i64 x.f2, .int .i64 x.f3]] ++ lb) W fun e w' => e = .returned (.int .i64 (p x)) ∧ Below W.heap.size W w') :
  Calls Try.prog 89 #[.agg #[.int .i64 a0_0, .slice A0_1 l0_1.length c0_1, .slice A0_2 l0_2.length c0_2, .int .i64 a0_3, .int .i64 a0_4, .int .i64 a0_5, .int .i64 a0_6], .func (.func g) #[] lb] w fun e w' => e = .returned (.int .i64 (leastL p ls)) ∧ Below w.heap.size w w' := by
 have hu := Try.underlying30
 have hu2 := Try.underlying72
 have HR1 := Aside0.mk hr0_1
 have HC1 := Aside0.mk hc0_1
 have HR2 := Aside0.mk hr0_2
 have HC2 := Aside0.mk hc0_2
 have HL := Aside0.mk hl
 have HP := Aside0.mk hp
 have HN := Aside0.mk hne
 have h00 := link_mem ls 0 (by omega) (by omega)
 have H00 := Aside0.mk h00
 clear hr0_1 hc0_1 hr0_2 hc0_2 hl hp hne h00
 go_enter Try.func89, Try.ntmps89
 go_wp2_with (first | (go_at_call 58; refine (impl_Circuit_links.calls k a0_0 A0_1 c0_1 l0_1 A0_2 c0_2 l0_2 a0_3 a0_4 a0_5 a0_6 ls _ (Kd.C_alloc HR1.out _) HC1.out (Kd.C_alloc HR2.out _) HC2.out HL.out).mono ?_; rintro e w6 ⟨v0, rfl, ho, hb⟩; obtain ⟨A, c, rfl⟩ := Kd.R_slice ho; have HO := Aside0.mk (Kd.R_reads' ho).2.2; have HB := Aside0.mk (show Below w.heap.size w w6 from (below_alloc (Below.refl _ _) _).trans (Below.mono hb (by simp))); clear ho hb; obtain ⟨ad, e, h0, h1, h2, h3⟩ := at_T72 HO.out 0 (by omega) (by have := HN.out; omega); cases e; have hlen : ls.length ≤ 9223372036854775807 := HO.out.2.1; have hz1 := HN.out; (try simp only [Int.toNat_zero, Nat.zero_mul, Addr.add_zero'] at h0 h1 h2 h3)) | (go_at_fn g; refine (HP.out _ (rd_T72 ls 0) H00.out (by first | exact HB.out | exact pw_below_drewN HB.out _)).mono ?_; rintro e w7 ⟨rfl, hb7⟩; have HB7 := Aside0.mk hb7; clear hb7))
 clear h0 h1 h2 h3
 go_loopg [6, 18] ls.length (fun gg s6 s18 wr => ∃ (m x : Int), s6 = .int .i64 m ∧ s18 = .int .i64 x ∧ Aside0 (0 ≤ x ∧ x ≤ ls.length ∧ (ls.length : Int) - x ≤ gg) ∧ Aside0 (Below w6.heap.size w6 wr) ∧ Aside0 (leastL p ls = leastFrom p m (ls.drop x.toNat)))
 case atStart => exact ⟨_, 0, rfl, rfl, ⟨by omega⟩, HB7, ⟨rfl⟩⟩
 case round =>
  obtain ⟨m, x, rfl, rfl, HX, HW, HF⟩ := hrel
  by_cases hlt : x < (ls.length : Int)
  ·have c0 : decide (0 ≤ x) = true := decide_eq_true HX.out.1
   have c1 : decide (x < (ls.length : Int)) = true := decide_eq_true hlt
   have HL' := Aside0.mk hlt
   clear hlt
   obtain ⟨ad', e, h0, h1, h2, h3⟩ := at_T72 HO.out x HX.out.1 HL'.out
   cases e
   replace h0 := (HW.out.cell (World.block_lt_of_cell? w6 _ h0)).trans h0
   replace h1 := (HW.out.cell (World.block_lt_of_cell? w6 _ h1)).trans h1
   replace h2 := (HW.out.cell (World.block_lt_of_cell? w6 _ h2)).trans h2
   replace h3 := (HW.out.cell (World.block_lt_of_cell? w6 _ h3)).trans h3
   have HM := Aside0.mk (link_mem ls x HX.out.1 HL'.out)
   have HD := Aside0.mk (leastFrom_drop p m x ls HX.out.1 HL'.out)
   have p0 := eq_true HX.out.1
   have p1 := eq_true HL'.out
   go_wp2_with (go_at_fn g; refine (HP.out _ (rd_T72 ls x) HM.out (below_step HB.out (below_alloc HW.out _))).mono ?_; rintro e w' ⟨rfl, hb'⟩; have HB' := Aside0.mk hb'; clear hb')
   all_goals
    have hx1 := HX.out
    have hl1 := HL'.out
    go_roundg ((ls.length : Int) - (x + 1)).toNat
    case measure => omega
    case rel =>
     have hw1 : wrap64 (x + 1) = x + 1 := by unfold wrap64; omega
     exact ⟨_, x + 1, rfl, by rw [hw1], ⟨by omega⟩, ⟨below_step (below_alloc HW.out _) HB'.out⟩, ⟨by rw [HF.out, HD.out]; first | rw [if_pos (by assumption)] | rw [if_neg (Int.not_lt.mpr (by assumption))]⟩⟩
  ·have c1 : decide (x < (ls.length : Int)) = false := decide_eq_false hlt
   have HL' := Aside0.mk hlt
   clear hlt
   go_wp2
   go_ret
   refine ⟨?_, below_step HB.out HW.out⟩
   have hx := HX.out
   have hl := HL'.out
   rw [HF.out, List.drop_of_length_le (by omega)]
   rfl

end Go.Proofs.Ytalafmahgeejiaa.Pa

/- The links of a circuit, and what is read from them. -/
namespace Go.Proofs.Ytalafmahgeejiaa.Pure
open Go.RowKit Go.Proofs.Ytalafmahgeejiaa.Pa Go.Proofs.YtalafmahgeejiaaW.PrintWords Go.Proofs.YtalafmahgeejiaaW.PrintLast
set_option linter.unusedVariables false
set_option linter.unusedSimpArgs false

def linkO (a b : Int) : Way → List S72
 | none => []
 | some p => [⟨a, b, p.1, p.2⟩]
/-- The links from a register to those from b on, d of them. -/
def linksTo (P : Int → Int → Way) (a : Int) : Nat → Nat → List S72
 | _, 0 => []
 | b, d + 1 => linkO a (b : Int) (P a (b : Int)) ++ linksTo P a (b + 1) d
def linksFrom (P : Int → Int → Way) (n : Nat) : Nat → Nat → List S72
 | _, 0 => []
 | a, d + 1 => linksTo P (a : Int) 0 n ++ linksFrom P n (a + 1) d
def linksOf (P : Int → Int → Way) (n : Nat) : List S72 := linksFrom P n 0 n
theorem linkO_len (a b : Int) (v : Way) : (linkO a b v).length ≤ 1 := by cases v <;> simp [linkO]
theorem linksTo_len (P : Int → Int → Way) (a : Int) (d : Nat) : ∀ b, (linksTo P a b d).length ≤ d := by
 induction d with
 | zero => intro b; simp [linksTo]
 | succ d ih => intro b; have := linkO_len a (b : Int) (P a b); have := ih (b + 1); simp [linksTo]; omega
theorem linksTo_mem (P : Int → Int → Way) (a : Int) (d : Nat) : ∀ b, ∀ x ∈ linksTo P a b d, x.f0 = a ∧ (b : Int) ≤ x.f1 ∧ x.f1 < (b : Int) + d ∧ P x.f0 x.f1 = some (x.f2, x.f3) := by
 induction d with
 | zero => intro b x hx; simp [linksTo] at hx
 | succ d ih =>
  intro b x hx
  simp only [linksTo] at hx
  rcases List.mem_append.mp hx with hx | hx
  ·cases hv : P a (b : Int) with
   | none => rw [hv] at hx; simp [linkO] at hx
   | some p =>
    rw [hv] at hx
    simp only [linkO, List.mem_singleton] at hx
    subst hx
    exact ⟨rfl, by dsimp only; omega, by dsimp only; omega, hv⟩
  ·have := ih (b + 1) x hx
   push_cast at this ⊢
   exact ⟨this.1, by omega, by omega, this.2.2.2⟩
theorem linksFrom_mem (P : Int → Int → Way) (n : Nat) (d : Nat) : ∀ a, ∀ x ∈ linksFrom P n a d, (a : Int) ≤ x.f0 ∧ x.f0 < (a : Int) + d ∧ 0 ≤ x.f1 ∧ x.f1 < n ∧ P x.f0 x.f1 = some (x.f2, x.f3) := by
 induction d with
 | zero => intro a x hx; simp [linksFrom] at hx
 | succ d ih =>
  intro a x hx
  simp only [linksFrom] at hx
  rcases List.mem_append.mp hx with hx | hx
  ·have := linksTo_mem P (a : Int) n 0 x hx
   push_cast at this ⊢
   exact ⟨by omega, by omega, by omega, by omega, this.2.2.2⟩
  ·have := ih (a + 1) x hx
   push_cast at this ⊢
   exact ⟨by omega, by omega, this.2.2.1, this.2.2.2.1, this.2.2.2.2⟩
theorem linksOf_mem (P : Int → Int → Way) (n : Nat) : ∀ x ∈ linksOf P n, 0 ≤ x.f0 ∧ x.f0 < n ∧ 0 ≤ x.f1 ∧ x.f1 < n ∧ P x.f0 x.f1 = some (x.f2, x.f3) := by
 intro x hx
 have := linksFrom_mem P n n 0 x hx
 simpa using this
theorem mem_linksTo (P : Int → Int → Way) (a : Int) (p : Int × Int) (d : Nat) : ∀ b c : Nat, b ≤ c → c < b + d → P a (c : Int) = some p → (⟨a, (c : Int), p.1, p.2⟩ : S72) ∈ linksTo P a b d := by
 induction d with
 | zero => intro b c h1 h2; omega
 | succ d ih =>
  intro b c h1 h2 hp
  simp only [linksTo]
  by_cases e : b = c
  ·subst e
   rw [hp]
   simp [linkO]
  ·exact List.mem_append.mpr (.inr (ih (b + 1) c (by omega) (by omega) hp))
theorem mem_linksFrom (P : Int → Int → Way) (n : Nat) (p : Int × Int) (b : Nat) (hb : b < n) (d : Nat) : ∀ a c : Nat, a ≤ c → c < a + d → P (c : Int) (b : Int) = some p → (⟨(c : Int), (b : Int), p.1, p.2⟩ : S72) ∈ linksFrom P n a d := by
 induction d with
 | zero => intro a c h1 h2; omega
 | succ d ih =>
  intro a c h1 h2 hp
  simp only [linksFrom]
  by_cases e : a = c
  ·subst e
   exact List.mem_append.mpr (.inl (mem_linksTo P _ p n 0 b (by omega) (by omega) hp))
  ·exact List.mem_append.mpr (.inr (ih (a + 1) c (by omega) (by omega) hp))
theorem mem_linksOf (P : Int → Int → Way) (n : Nat) (p : Int × Int) (a b : Nat) (ha : a < n) (hb : b < n) (hp : P (a : Int) (b : Int) = some p) : (⟨(a : Int), (b : Int), p.1, p.2⟩ : S72) ∈ linksOf P n :=
 mem_linksFrom P n p b hb n 0 a (by omega) (by omega) hp
/-- What the walks need of a circuit. -/
structure Ready (n : Int) (gates : List S62) (data : List Int) : Prop where
 gs : Gates n gates
 dlen : (data.length : Int) = n
 node : ∀ x ∈ data, 0 ≤ x ∧ x ≤ n + gates.length - 1
theorem Circ.ready {n : Int} {gates : List S62} {data : List Int} {a3 a4 a5 a6 : Int} (h : Circ n gates data a3 a4 a5 a6) (hw : ∀ g ∈ gates, g.f2.length ≤ 1048576) : Ready n gates data :=
 ⟨⟨h.n0, h.n1, h.len, h.gate, fun i hi => hw _ (List.getElem_mem hi)⟩, h.dlen, h.node⟩
theorem links_l1 (n a3 a4 a5 a6 : Int) (gates : List S62) (data : List Int) (C : Ready n gates data) (a : Int) (L M : List Int) (R : List Bool) (hR : Rel (n.toNat + gates.length) (tab a n gates) L M R) (d : Nat) :
  ∀ (b : Nat) (acc : List S72) (r : List S72), (b : Int) + d = n → acc.length + d ≤ 1000 →
  Ev (fun k => impl_Circuit_links.l0 k (acc ++ linksTo (pathO n gates data a5 a6) a b d) n (wrap64 (a + 1)) n gates data a3 a4 a5 a6) r →
  Ev (fun k => impl_Circuit_links.l1 k acc a L M R n a data (data.length : Int) (b : Int) n gates data a3 a4 a5 a6) r := by
 have hn := C.gs.n0
 have hn1 := C.gs.n1
 have hgl := C.gs.len
 have hdl := C.dlen
 induction d with
 | zero =>
  rintro b acc r h hl ⟨K, hK⟩
  refine ⟨K + 1, fun k hk => ?_⟩
  obtain ⟨k, rfl⟩ : ∃ m, k = m + 1 := ⟨k - 1, by omega⟩
  simp only [impl_Circuit_links.l1]
  rw [if_neg (by omega)]
  have := hK k (by omega)
  simpa [linksTo] using this
 | succ d ih =>
  intro b acc r h hl hE
  have hb : b < data.length := by omega
  have hx := C.node _ (List.getElem_mem hb)
  have hxl := hR.l
  have hxm := hR.m
  have hxr := hR.r
  have hxN : (data[b]).toNat < n.toNat + gates.length := by omega
  have hw : wrap64 ((b : Int) + 1) = (b : Int) + 1 := wrap_id (by omega) (by omega)
  have c1 : (b : Int) < (data.length : Int) := Int.ofNat_lt.mpr hb
  have c2 : data[b] < (R.length : Int) := by omega
  have c3 : data[b] < (L.length : Int) := by omega
  have c4 : data[b] < (M.length : Int) := by omega
  have c5 : acc.length < 4398046511104 := by omega
  simp only [linksTo] at hE
  rw [← List.append_assoc] at hE
  have hP : pathO n gates data a5 a6 a (b : Int) = ((tab a n gates).getD (data[b]).toNat none).map fun p => (wrap64 (p.1 + a5), wrap64 (p.2 + a6)) := by
   unfold pathO
   rw [rd_get hb]
  cases hv : (tab a n gates).getD (data[b]).toNat none with
  | none =>
   rw [hP, hv] at hE
   simp only [Option.map_none, linkO, List.append_nil] at hE
   obtain ⟨K, hK⟩ := ih (b + 1) acc r (by omega) (by omega) hE
   refine ⟨K + 1, fun k hk => ?_⟩
   obtain ⟨k, rfl⟩ : ∃ m, k = m + 1 := ⟨k - 1, by omega⟩
   have hk2 := hK k (by omega)
   push_cast at hk2
   simp only [impl_Circuit_links.l1]
   rw [if_pos c1, if_pos (Int.natCast_nonneg b), if_pos c1, rd_get hb, if_pos hx.1, if_pos c2, rdOf_nat hx.1, hR.no _ hxN hv, if_neg (by decide), hw]
   exact hk2
  | some p =>
   rw [hP, hv] at hE
   simp only [Option.map_some, linkO] at hE
   obtain ⟨y1, y2, y3⟩ := hR.yes _ hxN p hv
   obtain ⟨K, hK⟩ := ih (b + 1) _ r (by omega) (by simp; omega) hE
   refine ⟨K + 1, fun k hk => ?_⟩
   obtain ⟨k, rfl⟩ : ∃ m, k = m + 1 := ⟨k - 1, by omega⟩
   have hk2 := hK k (by omega)
   push_cast at hk2
   simp only [impl_Circuit_links.l1]
   rw [if_pos c1, if_pos (Int.natCast_nonneg b), if_pos c1, rd_get hb, if_pos hx.1, if_pos c2, rdOf_nat hx.1, y1, if_pos rfl, if_pos c3, if_pos c4, if_pos c5, hw, rd_nat, rd_nat, y2, y3]
   exact hk2
theorem links_l0 (n a3 a4 a5 a6 : Int) (gates : List S62) (data : List Int) (C : Ready n gates data) (d : Nat) : ∀ (a : Nat) (acc : List S72), (a : Int) + d = n → acc.length + 10 * d ≤ 900 →
  Ev (fun k => impl_Circuit_links.l0 k acc n (a : Int) n gates data a3 a4 a5 a6) (acc ++ linksFrom (pathO n gates data a5 a6) n.toNat a d) := by
 have hn := C.gs.n0
 have hn1 := C.gs.n1
 induction d with
 | zero =>
  intro a acc h hl
  refine ⟨1, fun k hk => ?_⟩
  obtain ⟨k, rfl⟩ : ∃ m, k = m + 1 := ⟨k - 1, by omega⟩
  simp only [impl_Circuit_links.l0, linksFrom, List.append_nil]
  rw [if_neg (by omega)]
 | succ d ih =>
  intro a acc h hl
  obtain ⟨L, M, R, ⟨K1, hK1⟩, hR⟩ := delays_at (a : Int) n a3 a4 a5 a6 gates data C.gs (by omega) (by omega)
  have hlen := linksTo_len (pathO n gates data a5 a6) (a : Int) n.toNat 0
  have h1 := ih (a + 1) (acc ++ linksTo (pathO n gates data a5 a6) (a : Int) 0 n.toNat) (by omega) (by simp; omega)
  have hw : wrap64 ((a : Int) + 1) = (a : Int) + 1 := wrap_id (by omega) (by omega)
  obtain ⟨K2, hK2⟩ := links_l1 n a3 a4 a5 a6 gates data C (a : Int) L M R hR n.toNat 0 acc _ (by omega) (by omega) (by rw [hw]; exact_mod_cast h1)
  refine ⟨K1 + K2 + 1, fun k hk => ?_⟩
  obtain ⟨k, rfl⟩ : ∃ m, k = m + 1 := ⟨k - 1, by omega⟩
  have hk1 : impl_Circuit_delays.f k n gates data a3 a4 a5 a6 (a : Int) = _ := hK1 k (by omega)
  have hk2 := hK2 k (by omega)
  simp only [impl_Circuit_links.l0, linksFrom]
  rw [if_pos (by omega), hk1, ← List.append_assoc]
  exact hk2
theorem links_tells (n a3 a4 a5 a6 : Int) (gates : List S62) (data : List Int) (C : Ready n gates data) :
  Ev (fun k => impl_Circuit_links.f k n gates data a3 a4 a5 a6) (linksOf (pathO n gates data a5 a6) n.toNat) := by
 have hn := C.gs.n0
 have hn1 := C.gs.n1
 have := links_l0 n a3 a4 a5 a6 gates data C n.toNat 0 [] (by omega) (by simp; omega)
 exact this
theorem tabG_prefix (l : List S62) : ∀ (t : List Way) (v : Nat), v < t.length → (tabG t l).getD v none = t.getD v none := by
 induction l with
 | nil => intro t v hv; rfl
 | cons g l ih =>
  intro t v hv
  rw [tabG_cons, ih _ v (by simp; omega), getD_snoc_lt hv]
theorem joins_congr (g : S62) (t t' : List Way) (l : List Int) : ∀ acc, (∀ x ∈ l, t.getD x.toNat none = t'.getD x.toNat none) → joins g t acc l = joins g t' acc l := by
 induction l with
 | nil => intro acc h; rfl
 | cons x l ih =>
  intro acc h
  simp only [joins]
  rw [h x (by simp), ih _ (fun y hy => h y (by simp [hy]))]
theorem tabG_node (l : List S62) : ∀ (t : List Way) (i : Nat) (h : i < l.length), (∀ (j : Nat) (h : j < l.length), ∀ x ∈ l[j].f2, 0 ≤ x ∧ x < (t.length : Int) + j) → (tabG t l).getD (t.length + i) none = joins l[i] (tabG t l) none l[i].f2 := by
 induction l with
 | nil => intro t i h; simp at h
 | cons g l ih =>
  intro t i h hx
  rw [tabG_cons]
  cases i with
  | zero =>
   rw [Nat.add_zero, tabG_prefix _ _ _ (by simp), getD_snoc_eq]
   simp only [List.getElem_cons_zero]
   apply joins_congr
   intro x hxx
   have := hx 0 (by simp) x hxx
   rw [tabG_prefix _ _ _ (by simp; omega), getD_snoc_lt (by omega)]
  | succ i =>
   have := ih (t ++ [joins g t none g.f2]) i (by simpa using h) (by
    intro j hj x hxx
    have := hx (j + 1) (by simpa using hj) x (by simpa using hxx)
    push_cast at this
    simp
    omega)
   rw [show t.length + (i + 1) = (t ++ [joins g t none g.f2]).length + i by simp; omega]
   simpa using this
theorem joinG_some {g : S62} {acc v : Way} (h : acc ≠ none ∨ v ≠ none) : joinG g acc v ≠ none := by
 cases v with
 | none => rcases h with h | h; exact h; exact absurd rfl h
 | some p => cases acc <;> simp [joinG]
theorem joins_some (g : S62) (t : List Way) (l : List Int) : ∀ acc, (acc ≠ none ∨ ∃ x ∈ l, t.getD x.toNat none ≠ none) → joins g t acc l ≠ none := by
 induction l with
 | nil =>
  rintro acc (h | ⟨x, hx, _⟩)
  ·exact h
  ·simp at hx
 | cons y l ih =>
  rintro acc (h | ⟨x, hx, hn⟩)
  ·exact ih _ (.inl (joinG_some (.inl h)))
  ·rcases List.mem_cons.mp hx with rfl | hx
   ·exact ih _ (.inl (joinG_some (.inr hn)))
   ·exact ih _ (.inr ⟨x, hx, hn⟩)
theorem tab0_get (a : Int) (N v : Nat) (h : v < N) : (tab0 a N).getD v none = if (v : Int) = a then some (0, 0) else none := by
 unfold tab0
 rw [List.getD_eq_getElem?_getD, List.getElem?_map, List.getElem?_range h]
 rfl
theorem tab_reg (a n : Int) (gates : List S62) (v : Nat) (h : (v : Int) < n) : (tab a n gates).getD v none = if (v : Int) = a then some (0, 0) else none := by
 unfold tab
 rw [tabG_prefix _ _ _ (by rw [tab0_len]; omega), tab0_get a _ v (by omega)]
theorem tab_node (a n : Int) (gates : List S62) (C : Gates n gates) (i : Nat) (h : i < gates.length) : (tab a n gates).getD (n.toNat + i) none = joins gates[i] (tab a n gates) none gates[i].f2 := by
 have hn := C.n0
 have := tabG_node gates (tab0 a n.toNat) i h (fun j hj x hx => by
  have := (C.gate j hj).2.2.2.2 x hx
  rw [tab0_len]
  omega)
 rw [tab0_len] at this
 exact this
/-- Each node comes from a register. -/
theorem reached (n : Int) (gates : List S62) (C : Gates n gates) (N : Nat) : ∀ v : Nat, v < N → (v : Int) < n + gates.length → ∃ a : Nat, (a : Int) < n ∧ (tab (a : Int) n gates).getD v none ≠ none := by
 have hn := C.n0
 induction N with
 | zero => intro v h; omega
 | succ N ih =>
  intro v h hv
  by_cases hr : (v : Int) < n
  ·exact ⟨v, hr, by rw [tab_reg _ _ _ _ hr, if_pos rfl]; simp⟩
  ·obtain ⟨i, rfl⟩ : ∃ i, v = n.toNat + i := ⟨v - n.toNat, by omega⟩
   have hi' : i < gates.length := by omega
   have hg := C.gate i hi'
   obtain ⟨x, hx⟩ := List.exists_mem_of_ne_nil _ hg.2.2.2.1
   have hxx := hg.2.2.2.2 x hx
   obtain ⟨a, ha, hne⟩ := ih x.toNat (by omega) (by omega)
   refine ⟨a, ha, ?_⟩
   rw [tab_node _ _ _ C i hi']
   exact joins_some _ _ _ _ (.inr ⟨x, hx, hne⟩)
theorem links_some (n a5 a6 : Int) (gates : List S62) (data : List Int) (C : Ready n gates data) : 0 < (linksOf (pathO n gates data a5 a6) n.toNat).length := by
 have hn := C.gs.n0
 have hd := C.dlen
 have h0 : 0 < data.length := by omega
 have hx := C.node _ (List.getElem_mem h0)
 obtain ⟨a, ha, hne⟩ := reached n gates C.gs ((data[0]).toNat + 1) (data[0]).toNat (by omega) (by omega)
 cases hp : pathO n gates data a5 a6 (a : Int) ((0 : Nat) : Int) with
 | none =>
  unfold pathO at hp
  rw [rd_get h0] at hp
  exact absurd (Option.map_eq_none_iff.mp hp) hne
 | some p => exact List.length_pos_of_mem (mem_linksOf _ n.toNat p a 0 (by omega) (by omega) hp)
/-- The rooms, link by link. -/
def roomStep (f g : S72 → Int) : Option (Int × Int) → S72 → Option (Int × Int)
 | none, x => some (f x, g x)
 | some q, x => some (if f x < q.1 then f x else q.1, if g x < q.2 then g x else q.2)
def rooms (f g : S72 → Int) (acc : Option (Int × Int)) (l : List S72) : Option (Int × Int) := l.foldl (roomStep f g) acc
theorem rooms_some (f g : S72 → Int) (l : List S72) : ∀ u v, rooms f g (some (u, v)) l = some (leastFrom f u l, leastFrom g v l) := by
 induction l with
 | nil => intro u v; rfl
 | cons x l ih => intro u v; exact ih _ _
theorem rooms_least (f g : S72 → Int) (l : List S72) (h : 0 < l.length) : rooms f g none l = some (leastL f l, leastL g l) := by
 cases l with
 | nil => simp at h
 | cons x l =>
  have e : ∀ p : S72 → Int, leastL p (x :: l) = leastFrom p (p x) l := by
   intro p
   unfold leastL
   simp only [leastFrom]
   rw [show rd_T72 (x :: l) 0 = x from rfl, if_neg (by omega)]
  rw [e, e]
  exact rooms_some f g l _ _
theorem rooms_append (f g : S72 → Int) (acc : Option (Int × Int)) (l m : List S72) : rooms f g acc (l ++ m) = rooms f g (rooms f g acc l) m := by
 unfold rooms
 rw [List.foldl_append]
end Go.Proofs.Ytalafmahgeejiaa.Pure

namespace Go.Proofs.Ytalafmahgeejiaa.Pa
open Go.RowKit Go.Proofs.YtalafmahgeejiaaW.PrintWords Go.Proofs.YtalafmahgeejiaaW.PrintLast Go.Proofs.YtalafmahgeejiaaW.PrintMore
attribute [local go_sem] max2_int min2_int max_two min_two max_three min_three max_four min_four   -- for this text's walks alone
set_option linter.unusedVariables false
set_option linter.unusedSimpArgs false

/-! ### laws_toInt64S: function 22 -/
def laws_toInt64S.l0 : Nat → List Int → List Int → Int → Option (List Int)
 | 0, _, _, _ => none
 | k + 1, x0, x3, x4 => if x4 < (x0.length : Int) then (if 0 ≤ x4 then (if x4 < (x3.length : Int) then (laws_toInt64S.l0 k x0 (x3.set (x4 : Int).toNat (rd x0 x4)) (wrap64 (x4 + 1))) else (none)) else (none)) else (some x3)
def laws_toInt64S.f (k : Nat) (l0 : List Int) : Option (List Int) := if 0 ≤ (l0.length : Int) then (if ((l0.length : Int) : Int).toNat ≤ 35184372088832 then (laws_toInt64S.l0 k l0 (List.replicate ((l0.length : Int) : Int).toNat 0) 0) else (none)) else (none)
theorem laws_toInt64S.mono_l : ∀ k, (∀ y0 y1 y2, LeO (laws_toInt64S.l0 k y0 y1 y2) (laws_toInt64S.l0 (k + 1) y0 y1 y2))
 | 0 => fun _ _ _ r h => by simp [laws_toInt64S.l0] at h
 | k + 1 => by
  have ih0 := laws_toInt64S.mono_l k
  ·intro y0 y1 y2
   unfold laws_toInt64S.l0
   repeat' first
   | (with_reducible exact ih0 _ _ _)
   | (with_reducible exact LeO.refl _)
   | (with_reducible exact LeO.none _)
   | (with_reducible refine LeO.ite ?_ ?_)
   | (with_reducible refine LeO.bind ?_ (fun _ => ?_))
   | exact ih0 _ _ _
   | exact LeO.none _
   | refine LeO.ite ?_ ?_
   | refine LeO.bind ?_ (fun _ => ?_)
theorem laws_toInt64S.mono : ∀ a0 k, LeO (laws_toInt64S.f k a0) (laws_toInt64S.f (k + 1) a0) := by
 intro a0 k
 have ih0 := laws_toInt64S.mono_l k
 unfold laws_toInt64S.f
 repeat' first
   | (with_reducible exact ih0 _ _ _)
   | (with_reducible exact LeO.refl _)
   | (with_reducible exact LeO.none _)
   | (with_reducible refine LeO.ite ?_ ?_)
   | (with_reducible refine LeO.bind ?_ (fun _ => ?_))
   | exact ih0 _ _ _
   | exact LeO.none _
   | refine LeO.ite ?_ ?_
   | refine LeO.bind ?_ (fun _ => ?_)
set_option maxHeartbeats 8000000 in
set_option maxRecDepth 100000 in
theorem laws_toInt64S.calls (k : Nat) (A0 : Option Addr) (c0 : Nat) (l0 : List Int) (r : List Int) (w : World) (hr0 : Kd.C (Kd.int .i64) w A0 l0.length l0) (hc0 : l0.length ≤ c0) (h : laws_toInt64S.f k l0 = some r) :
  Calls Try.prog 22 #[.slice A0 l0.length c0] w fun e w' => ∃ v0_ : Value, e = .returned (v0_) ∧ Kd.R (Kd.int .i64) 2 w' w.heap.size (fun _ => True) v0_ r ∧ Below w.heap.size w w' := by
 have HR0 := Aside0.mk hr0
 have HC0 := Aside0.mk hc0
 clear hr0 hc0
 have HB := Aside0.mk (Below.refl w.heap.size w)
 have H : (if 0 ≤ (l0.length : Int) then (if ((l0.length : Int) : Int).toNat ≤ 35184372088832 then (laws_toInt64S.l0 k l0 (List.replicate ((l0.length : Int) : Int).toNat 0) 0) else (none)) else (none)) = some r := h
 clear h
 by_cases c2 : 0 ≤ (l0.length : Int)
 ·rw [if_pos c2] at H
  have c2b0 := eq_true c2
  have c2b1 : decide (0 ≤ (l0.length : Int)) = true := decide_eq_true c2
  clear c2
  by_cases c3 : ((l0.length : Int) : Int).toNat ≤ 35184372088832
  ·rw [if_pos c3] at H
   have c3b0 := eq_true c3
   have c3b1 : decide (((l0.length : Int) : Int).toNat ≤ 35184372088832) = true := decide_eq_true c3
   clear c3
   obtain ⟨y120, hy120⟩ : ∃ y_ : List Int, y_ = (List.replicate ((l0.length : Int) : Int).toNat 0) := ⟨_, rfl⟩
   replace H : (laws_toInt64S.l0 k l0 y120 0) = some r := by first | (rw [hy120]; with_reducible exact H) | (have H2_ := (Option.bind_some _ _).symm.trans H; rw [hy120]; with_reducible exact H2_) | (have H2_ := (Option.bind_some _ _).symm.trans H; with_reducible exact H2_) | with_reducible exact H | (rw [hy120]; exact H) | exact H
   have Ny120 := Aside0.mk hy120
   clear hy120
   have H' := Aside0.mk H
   clear H
   go_enter Try.func22, Try.ntmps22
   go_wp2_with (first | ((with_reducible refine gate_dst (N := 7) rfl ?_); refine Kd.R_make (Kd.int .i64) _ 2 rfl (N := 7) rfl 23 _ _ rfl (l0.length : Int) rfl rfl Try.underlying23 (.int .i64 0) 8 info2 rfl (by decide) (by omega) 0 (ok := fun _ => True) (okp := fun _ => True) rfl (fun _ hk => hk) trivial (of_decide_eq_true (by with_reducible assumption)) (Nat.le_trans (Nat.mul_le_mul_right _ (of_decide_eq_true (by with_reducible assumption) : (l0.length : Int).toNat ≤ 35184372088832)) (by omega)) (Below.refl _ _) (Nat.le_refl _) ?_; intro v121 w4 ho5 hb hg_ hnew_; clear hg_ hnew_; (first | rw [← Ny120.out] at ho5 | (simp only [Int.reduceToNat] at ho5; rw [← Ny120.out] at ho5)); have n0_ := Aside0.mk (Kd.R_lower ho5 (below_size (by repeat (first | (with_reducible first | exact HB.out | apply below_alloc | apply pw_below_drewN | apply below_drew1) | exact HB.out)))); have n1_ := Aside0.mk (below_step (by repeat (first | (with_reducible first | exact HB.out | apply below_alloc | apply pw_below_drewN | apply below_drew1) | exact HB.out)) hb); clear HB; have HO122 := n0_; have HB := n1_; clear n0_ n1_; clear hb ho5))
   go_loopg [4] k (fun kq v4 w' => ∃ (x3_1 : List Int) (x4_1 : Int), v4 = .int .i64 x4_1 ∧ Aside0 (laws_toInt64S.l0 kq l0 x3_1 x4_1 = some r) ∧ Aside0 (kq ≤ k) ∧ Aside0 (Kd.R (Kd.int .i64) 2 w' w.heap.size (fun _ => True) v121 x3_1) ∧ Aside0 (Below w.heap.size w w'))
   case atStart => exact ⟨(y120), (0), (by first | rfl | (simp; done) | (simp [*]; done)), H', ⟨Nat.le_refl _⟩, ⟨by (with_reducible repeat (first | apply Kd.R_alloc | apply Kd.R_drewN | apply Kd.R_drew)); exact HO122.out⟩, ⟨by repeat (first | (with_reducible first | exact HB.out | apply below_alloc | apply pw_below_drewN | apply below_drew1) | exact HB.out)⟩⟩
   case round =>
    clear H'
    try clear c2
    try clear c2b0
    try clear c2b1
    try clear p2
    try clear c3
    try clear c3b0
    try clear c3b1
    obtain ⟨x3_1, x4_1, rfl, HA, HK1, HO_3, HB⟩ := hrel
    cases gk with
    | zero => exact absurd HA.out (by simp [laws_toInt64S.l0])
    | succ k1 =>
     have H := HA.out
     clear HA
     simp only [laws_toInt64S.l0] at H
     by_cases c6 : x4_1 < (l0.length : Int)
     ·rw [if_pos c6] at H
      have c6b0 : decide (x4_1 < (l0.length : Int)) = true := decide_eq_true c6
      clear c6
      by_cases c7 : 0 ≤ x4_1
      ·rw [if_pos c7] at H
       have c7b0 : decide (0 ≤ x4_1) = true := decide_eq_true c7
       clear c7
       by_cases c8 : x4_1 < (x3_1.length : Int)
       ·rw [if_pos c8] at H
        have c8b0 : decide (x4_1 < (x3_1.length : Int)) = true := decide_eq_true c8
        clear c8
        obtain ⟨y124, hy124⟩ : ∃ y_ : List Int, y_ = (x3_1.set (x4_1 : Int).toNat (rd l0 x4_1)) := ⟨_, rfl⟩
        replace H : (laws_toInt64S.l0 k1 l0 y124 (wrap64 (x4_1 + 1))) = some r := by first | (rw [hy124]; with_reducible exact H) | (have H2_ := (Option.bind_some _ _).symm.trans H; rw [hy124]; with_reducible exact H2_) | (have H2_ := (Option.bind_some _ _).symm.trans H; with_reducible exact H2_) | with_reducible exact H | (rw [hy124]; exact H) | exact H
        have Ny124 := Aside0.mk hy124
        clear hy124
        have H' := Aside0.mk H
        clear H
        have p123 : 0 ≤ (x4_1 : Int) := of_decide_eq_true (by with_reducible assumption)
        have q123 : x4_1 < (l0.length : Int) := of_decide_eq_true (by with_reducible assumption)
        obtain ⟨ad123, e123, hx123_0⟩ := Kd.at_int HR0.out x4_1 p123 q123
        cases e123
        replace hx123_0 := (HB.out.cell (World.block_lt_of_cell? w _ hx123_0)).trans hx123_0
        replace p123 := eq_true p123
        replace q123 := eq_true q123
        have p9 : 0 ≤ (x4_1 : Int) := of_decide_eq_true (by with_reducible assumption)
        have q9 : (x4_1 : Int) < ((x3_1.length : Int) : Int) := of_decide_eq_true (by with_reducible assumption)
        obtain ⟨go9, co9, eo9, gb9, gl9, cl9, HG9⟩ := Kd.R_form HO_3.out (by omega)
        (first | cases eo9 | (injection eo9 with ea_ en_ ec_; (first | subst ea_ | (injection ea_ with ea_; subst ea_)); subst ec_; clear en_))
        have GB9 := Aside0.mk gb9
        have GG9 := Aside0.mk HG9
        clear gb9 gl9 HG9
        obtain ⟨hx9_0, hf9_0⟩ := Kd.R_celln 0 HO_3.out (x4_1 : Int) p9 q9
        replace p9 := eq_true p9
        replace q9 := eq_true q9
        have HP10 := Kd.R_putg HO_3.out (x4_1 : Int) (rd l0 x4_1)
        go_wp2_with (first | ((with_reducible refine gate_store (t := 2) (p := 20) rfl ?_); refine store_event (t := 2) (p := 20) (v := ?vo_w11) (w1 := (wr.setCell ⟨go9, (x4_1 : Int).toNat, none⟩ (.int .i64 (rd l0 x4_1)))) ?hg ?ho ?hn ?hr ?_; (case ho => rfl); (case hg => rfl); (case hn => rfl); (case hr => first | (go_simp; done) | (go_simp; rfl)); intro w11 hw; have hg : wr.grownBy w11 (some go9) := (by rw [hw]; exact HP10.2); have hp_ : Kd.R (Kd.int .i64) 2 w11 w.heap.size (fun _ => True) (.slice (some ⟨go9, 0, none⟩) x3_1.length co9) y124 := (by rw [hw, Ny124.out]; exact HP10.1); clear HP10; have n0_ := Aside0.mk (hp_); have n1_ := Aside0.mk ((by rw [hw]; exact below_set (HB.out) GB9.out : Below w.heap.size w w11)); clear HO_3; clear HB; have HO_3 := n0_; have HB := n1_; clear n0_ n1_; clear hg hw hp_))
        go_roundg k1
        case measure => have := HK1.out; omega
        case rel => exact ⟨(y124), (wrap64 (x4_1 + 1)), (by first | rfl | (simp; done) | (simp [*]; done)), H', ⟨by have := HK1.out; omega⟩, ⟨by (with_reducible repeat (first | apply Kd.R_alloc | apply Kd.R_drewN | apply Kd.R_drew)); exact HO_3.out⟩, ⟨by repeat (first | (with_reducible first | exact HB.out | apply below_alloc | apply pw_below_drewN | apply below_drew1) | exact HB.out)⟩⟩
       ·rw [if_neg c8] at H
        exact absurd H (by simp)
      ·rw [if_neg c7] at H
       exact absurd H (by simp)
     ·rw [if_neg c6] at H
      have c6b0 : decide (x4_1 < (l0.length : Int)) = false := decide_eq_false c6
      clear c6
      obtain rfl := Option.some.inj H
      go_wp2
      go_ret
      exact ⟨_, by first | rfl | (simp [errW_none, errW_some] <;> rfl) | (simp [*, errW_none, errW_some] <;> rfl), by (with_reducible repeat (first | apply Kd.R_alloc | apply Kd.R_drewN | apply Kd.R_drew)); exact HO_3.out, by repeat (first | (with_reducible first | exact HB.out | apply below_alloc | apply pw_below_drewN | apply below_drew1) | exact HB.out)⟩
  ·rw [if_neg c3] at H
   exact absurd H (by simp)
 ·rw [if_neg c2] at H
  exact absurd H (by simp)

end Go.Proofs.Ytalafmahgeejiaa.Pa

/- A list of whole numbers that a law lays anew. -/
namespace Go.Proofs.Ytalafmahgeejiaa.Pure
open Go.RowKit Go.Proofs.Ytalafmahgeejiaa.Pa Go.Proofs.YtalafmahgeejiaaW.PrintWords Go.Proofs.YtalafmahgeejiaaW.PrintLast
set_option linter.unusedVariables false
set_option linter.unusedSimpArgs false

theorem toI_loop (l : List Int) (hl : l.length ≤ 4611686018427387904) (d : Nat) : ∀ (k : Nat) (acc : List Int) (i : Nat), acc.length = l.length → i + d = l.length → d < k →
  laws_toInt64S.l0 k l acc (i : Int) = some (acc.take i ++ l.drop i) := by
 induction d with
 | zero =>
  intro k acc i ha h hk
  obtain ⟨k, rfl⟩ : ∃ m, k = m + 1 := ⟨k - 1, by omega⟩
  simp only [laws_toInt64S.l0]
  rw [if_neg (by omega), List.take_of_length_le (by omega), List.drop_of_length_le (by omega)]
  simp
 | succ d ih =>
  intro k acc i ha h hk
  obtain ⟨k, rfl⟩ : ∃ m, k = m + 1 := ⟨k - 1, by omega⟩
  have hi : i < l.length := by omega
  simp only [laws_toInt64S.l0]
  rw [if_pos (by omega), if_pos (by omega), if_pos (by omega), wrap_id (by omega) (by omega), Int.toNat_natCast, rd_get hi]
  have := ih k (acc.set i (l[i])) (i + 1) (by simpa using ha) (by omega) (by omega)
  push_cast at this
  rw [this, List.drop_eq_getElem_cons hi]
  have ht : (acc.set i (l[i])).take (i + 1) = acc.take i ++ [l[i]] := by
   rw [List.take_succ_eq_append_getElem (by simp; omega), List.take_set_of_le (by omega)]
   simp
  rw [ht]
  simp
theorem toI (l : List Int) (hl : l.length ≤ 1048576) : ∀ k, l.length < k → laws_toInt64S.f k l = some l := by
 intro k hk
 unfold laws_toInt64S.f
 rw [if_pos (by omega), if_pos (by omega)]
 have := toI_loop l (by omega) l.length k (List.replicate ((l.length : Int)).toNat 0) 0 (by simp) (by omega) hk
 rw [show ((0 : Nat) : Int) = 0 from rfl] at this
 rw [this]
 simp
end Go.Proofs.Ytalafmahgeejiaa.Pure

namespace Go.Proofs.Ytalafmahgeejiaa.Pa
open Go.RowKit Go.Proofs.YtalafmahgeejiaaW.PrintWords Go.Proofs.YtalafmahgeejiaaW.PrintLast Go.Proofs.YtalafmahgeejiaaW.PrintMore
attribute [local go_sem] max2_int min2_int max_two min_two max_three min_three max_four min_four   -- for this text's walks alone
set_option linter.unusedVariables false
set_option linter.unusedSimpArgs false

/-! ### laws_szInt64S: function 46 -/
def laws_szInt64S.f (l0 : List Int) (a1 : Int) : Option (Int) := if (wrap64 (a1 - (l0.length : Int))) < 0 then (some (-1)) else (some (wrap64 (a1 - (l0.length : Int))))
set_option maxHeartbeats 8000000 in
set_option maxRecDepth 100000 in
theorem laws_szInt64S.calls (A0 : Option Addr) (c0 : Nat) (l0 : List Int) (a1 : Int) (r : Int) (w : World) (hr0 : Kd.C (Kd.int .i64) w A0 l0.length l0) (hc0 : l0.length ≤ c0) (h : laws_szInt64S.f l0 a1 = some r) :
  Calls Try.prog 46 #[.slice A0 l0.length c0, .int .i64 a1] w fun e w' => e = .returned (.int .i64 r) ∧ Drawn0 w w' := by
 have HR0 := Aside0.mk hr0
 have HC0 := Aside0.mk hc0
 clear hr0 hc0
 have H : (if (wrap64 (a1 - (l0.length : Int))) < 0 then (some (-1)) else (some (wrap64 (a1 - (l0.length : Int))))) = some r := h
 clear h
 by_cases c3 : (wrap64 (a1 - (l0.length : Int))) < 0
 ·rw [if_pos c3] at H
  have c3b0 : decide ((wrap64 (a1 - (l0.length : Int))) < 0) = true := decide_eq_true c3
  clear c3
  obtain rfl := Option.some.inj H
  go_enter Try.func46, Try.ntmps46
  go_wp2
  go_ret
  exact ⟨by first | rfl | (simp; done) | (simp [*]; done), by repeat (first | exact Drawn0.refl _ | apply Drawn0.step)⟩
 ·rw [if_neg c3] at H
  have c3b0 : decide ((wrap64 (a1 - (l0.length : Int))) < 0) = false := decide_eq_false c3
  clear c3
  obtain rfl := Option.some.inj H
  go_enter Try.func46, Try.ntmps46
  go_wp2
  go_ret
  exact ⟨by first | rfl | (simp; done) | (simp [*]; done), by repeat (first | exact Drawn0.refl _ | apply Drawn0.step)⟩

end Go.Proofs.Ytalafmahgeejiaa.Pa

namespace Go.Proofs.Ytalafmahgeejiaa.Pa
open Go.RowKit Go.Proofs.YtalafmahgeejiaaW.PrintWords Go.Proofs.YtalafmahgeejiaaW.PrintLast Go.Proofs.YtalafmahgeejiaaW.PrintMore
attribute [local go_sem] max2_int min2_int max_two min_two max_three min_three max_four min_four   -- for this text's walks alone
set_option linter.unusedVariables false
set_option linter.unusedSimpArgs false

/-! ### laws_szGate: function 79 -/
def laws_szGate.f (a0_0 : Int) (a0_1 : Int) (l0_2 : List Int) (a1 : Int) : Option (Int) := (laws_szInt64S.f l0_2 a1).bind fun t102 => (if t102 < 0 then (some (-1)) else (some t102))
set_option maxHeartbeats 8000000 in
set_option maxRecDepth 100000 in
theorem laws_szGate.calls (a0_0 : Int) (a0_1 : Int) (A0_2 : Option Addr) (c0_2 : Nat) (l0_2 : List Int) (a1 : Int) (r : Int) (w : World) (hr0_2 : Kd.C (Kd.int .i64) w A0_2 l0_2.length l0_2) (hc0_2 : l0_2.length ≤ c0_2) (h : laws_szGate.f a0_0 a0_1 l0_2 a1 = some r) :
  Calls Try.prog 79 #[.agg #[.int .i64 a0_0, .int .i64 a0_1, .slice A0_2 l0_2.length c0_2], .int .i64 a1] w fun e w' => e = .returned (.int .i64 r) ∧ Below w.heap.size w w' := by
 have hu89 := Try.underlying89
 have HR0_2 := Aside0.mk hr0_2
 have HC0_2 := Aside0.mk hc0_2
 clear hr0_2 hc0_2
 have HB := Aside0.mk (Below.refl w.heap.size w)
 have H : ((laws_szInt64S.f l0_2 a1).bind fun t102 => (if t102 < 0 then (some (-1)) else (some t102))) = some r := h
 clear h
 replace H := Option.bind_eq_some_iff.mp H
 obtain ⟨t102, A30, H⟩ := H
 replace H : (if t102 < 0 then (some (-1)) else (some t102)) = some r := H
 have A3 := Aside0.mk A30
 clear A30
 by_cases c4 : t102 < 0
 ·rw [if_pos c4] at H
  have c4b0 : decide (t102 < 0) = true := decide_eq_true c4
  clear c4
  obtain rfl := Option.some.inj H
  go_enter Try.func79, Try.ntmps79
  go_wp2_with (first | ((with_reducible refine gate_dst (N := 2) rfl ?_); refine box_event ?hg (N := 2) ?hd (cs := #[.int .i64 a0_0, .int .i64 a0_1, .slice A0_2 l0_2.length c0_2]) (t := 89) ?hr ?_; (case hd => rfl); (case hg => rfl); (case hr => first | (go_simp; done) | (go_simp; rfl)); intro gb101 hg w5 hbox hb; have n0_ := Aside0.mk (below_step (by repeat (first | (with_reducible first | exact HB.out | apply below_alloc | apply pw_below_drewN | apply below_drew1) | exact HB.out)) hb); have n1_ := Aside0.mk (hbox); have n2_ := Aside0.mk ((by rw [hg]; exact (below_size (by repeat (first | (with_reducible first | exact HB.out | apply below_alloc | apply pw_below_drewN | apply below_drew1) | exact HB.out))) : w.heap.size ≤ gb101)); have n3_ := Aside0.mk ((by rw [hg]; exact (below_size (by repeat (first | (with_reducible first | exact HB.out | apply below_alloc | apply pw_below_drewN | apply below_drew1) | exact HB.out))) : w.heap.size ≤ gb101)); clear HB; have HB := n0_; have BK101 := n1_; have GW101 := n2_; have GE101 := n3_; clear n0_ n1_ n2_ n3_; clear hb hbox hg; have hcz6_0 : w5.cell? ⟨gb101, 0, none⟩ = some (.int .i64 a0_0) := (blk_cell BK101.out 0).trans rfl; have hcz6_1 : w5.cell? ⟨gb101, 1, none⟩ = some (.int .i64 a0_1) := (blk_cell BK101.out 1).trans rfl; have hcz6_2 : w5.cell? ⟨gb101, 2, none⟩ = some (.slice A0_2 l0_2.length c0_2) := (blk_cell BK101.out 2).trans rfl; have hfz6_0 := blk_frozen BK101.out 0; have hfz6_1 := blk_frozen BK101.out 1; have hfz6_2 := blk_frozen BK101.out 2) | ((with_reducible refine gate_callee (f := 46) rfl ?_); refine goesL_ (some 8) rfl rfl Try.func46 (by kernel_rfl) rfl #[.slice A0_2 l0_2.length c0_2, .int .i64 a1] rfl (by (try simp only [List.map_toArray, List.map_cons, List.map_nil]); first | done | rfl | (simp only [List.length_drop, List.length_take]; rfl)) ?_; (with_reducible refine (laws_szInt64S.calls _ _ l0_2 a1 t102 _ ?side1 ?side2 A3.out).mono ?_); (case side1 => repeat (first | exact (Kd.C_below HR0_2.out HB.out) | (with_reducible refine Kd.C_alloc ?_ _) | (with_reducible refine Kd.C_drewN ?_ _) | (with_reducible refine Kd.C_drew ?_))); (case side2 => exact HC0_2.out); rintro e w' ⟨rfl, ⟨nd, rfl⟩⟩; refine ⟨_, rfl, ?_⟩))
  go_ret
  exact ⟨by first | rfl | (simp [errW_none, errW_some] <;> rfl) | (simp [*, errW_none, errW_some] <;> rfl), by repeat (first | (with_reducible first | exact HB.out | apply below_alloc | apply pw_below_drewN | apply below_drew1 | refine below_set ?_ GE101.out) | exact HB.out)⟩
 ·rw [if_neg c4] at H
  have c4b0 : decide (t102 < 0) = false := decide_eq_false c4
  clear c4
  obtain rfl := Option.some.inj H
  go_enter Try.func79, Try.ntmps79
  go_wp2_with (first | ((with_reducible refine gate_dst (N := 2) rfl ?_); refine box_event ?hg (N := 2) ?hd (cs := #[.int .i64 a0_0, .int .i64 a0_1, .slice A0_2 l0_2.length c0_2]) (t := 89) ?hr ?_; (case hd => rfl); (case hg => rfl); (case hr => first | (go_simp; done) | (go_simp; rfl)); intro gb101 hg w7 hbox hb; have n0_ := Aside0.mk (below_step (by repeat (first | (with_reducible first | exact HB.out | apply below_alloc | apply pw_below_drewN | apply below_drew1) | exact HB.out)) hb); have n1_ := Aside0.mk (hbox); have n2_ := Aside0.mk ((by rw [hg]; exact (below_size (by repeat (first | (with_reducible first | exact HB.out | apply below_alloc | apply pw_below_drewN | apply below_drew1) | exact HB.out))) : w.heap.size ≤ gb101)); have n3_ := Aside0.mk ((by rw [hg]; exact (below_size (by repeat (first | (with_reducible first | exact HB.out | apply below_alloc | apply pw_below_drewN | apply below_drew1) | exact HB.out))) : w.heap.size ≤ gb101)); clear HB; have HB := n0_; have BK101 := n1_; have GW101 := n2_; have GE101 := n3_; clear n0_ n1_ n2_ n3_; clear hb hbox hg; have hcz8_0 : w7.cell? ⟨gb101, 0, none⟩ = some (.int .i64 a0_0) := (blk_cell BK101.out 0).trans rfl; have hcz8_1 : w7.cell? ⟨gb101, 1, none⟩ = some (.int .i64 a0_1) := (blk_cell BK101.out 1).trans rfl; have hcz8_2 : w7.cell? ⟨gb101, 2, none⟩ = some (.slice A0_2 l0_2.length c0_2) := (blk_cell BK101.out 2).trans rfl; have hfz8_0 := blk_frozen BK101.out 0; have hfz8_1 := blk_frozen BK101.out 1; have hfz8_2 := blk_frozen BK101.out 2) | ((with_reducible refine gate_callee (f := 46) rfl ?_); refine goesL_ (some 8) rfl rfl Try.func46 (by kernel_rfl) rfl #[.slice A0_2 l0_2.length c0_2, .int .i64 a1] rfl (by (try simp only [List.map_toArray, List.map_cons, List.map_nil]); first | done | rfl | (simp only [List.length_drop, List.length_take]; rfl)) ?_; (with_reducible refine (laws_szInt64S.calls _ _ l0_2 a1 t102 _ ?side1 ?side2 A3.out).mono ?_); (case side1 => repeat (first | exact (Kd.C_below HR0_2.out HB.out) | (with_reducible refine Kd.C_alloc ?_ _) | (with_reducible refine Kd.C_drewN ?_ _) | (with_reducible refine Kd.C_drew ?_))); (case side2 => exact HC0_2.out); rintro e w' ⟨rfl, ⟨nd, rfl⟩⟩; refine ⟨_, rfl, ?_⟩))
  go_ret
  exact ⟨by first | rfl | (simp [errW_none, errW_some] <;> rfl) | (simp [*, errW_none, errW_some] <;> rfl), by repeat (first | (with_reducible first | exact HB.out | apply below_alloc | apply pw_below_drewN | apply below_drew1 | refine below_set ?_ GE101.out) | exact HB.out)⟩

end Go.Proofs.Ytalafmahgeejiaa.Pa

namespace Go.Proofs.Ytalafmahgeejiaa.Pa
open Go.RowKit Go.Proofs.YtalafmahgeejiaaW.PrintWords Go.Proofs.YtalafmahgeejiaaW.PrintLast Go.Proofs.YtalafmahgeejiaaW.PrintMore
attribute [local go_sem] max2_int min2_int max_two min_two max_three min_three max_four min_four   -- for this text's walks alone
set_option linter.unusedVariables false
set_option linter.unusedSimpArgs false

/-! ### laws_szGateS: function 45 -/
def laws_szGateS.l0 : Nat → List (S89) → Int → Int → Option (Int)
 | 0, _, _, _ => none
 | k + 1, x0, x1, x5 => if x5 < (x0.length : Int) then (if 0 ≤ x5 then ((laws_szGate.f ((rd_T89 x0 x5).f0) ((rd_T89 x0 x5).f1) ((rd_T89 x0 x5).f2) x1).bind fun t104 => (if t104 < 0 then (some (-1)) else (laws_szGateS.l0 k x0 t104 (wrap64 (x5 + 1))))) else (none)) else (some x1)
def laws_szGateS.f (k : Nat) (l0 : List (S89)) (a1 : Int) : Option (Int) := if (wrap64 (a1 - (l0.length : Int))) < 0 then (some (-1)) else (laws_szGateS.l0 k l0 (wrap64 (a1 - (l0.length : Int))) 0)
theorem laws_szGateS.mono_l : ∀ k, (∀ y0 y1 y2, LeO (laws_szGateS.l0 k y0 y1 y2) (laws_szGateS.l0 (k + 1) y0 y1 y2))
 | 0 => fun _ _ _ r h => by simp [laws_szGateS.l0] at h
 | k + 1 => by
  have ih0 := laws_szGateS.mono_l k
  ·intro y0 y1 y2
   unfold laws_szGateS.l0
   repeat' first
   | (with_reducible exact ih0 _ _ _)
   | (with_reducible exact LeO.refl _)
   | (with_reducible exact LeO.none _)
   | (with_reducible refine LeO.ite ?_ ?_)
   | (with_reducible refine LeO.bind ?_ (fun _ => ?_))
   | exact ih0 _ _ _
   | exact LeO.none _
   | refine LeO.ite ?_ ?_
   | refine LeO.bind ?_ (fun _ => ?_)
theorem laws_szGateS.mono : ∀ a0 a1 k, LeO (laws_szGateS.f k a0 a1) (laws_szGateS.f (k + 1) a0 a1) := by
 intro a0 a1 k
 have ih0 := laws_szGateS.mono_l k
 unfold laws_szGateS.f
 repeat' first
   | (with_reducible exact ih0 _ _ _)
   | (with_reducible exact LeO.refl _)
   | (with_reducible exact LeO.none _)
   | (with_reducible refine LeO.ite ?_ ?_)
   | (with_reducible refine LeO.bind ?_ (fun _ => ?_))
   | exact ih0 _ _ _
   | exact LeO.none _
   | refine LeO.ite ?_ ?_
   | refine LeO.bind ?_ (fun _ => ?_)
set_option maxHeartbeats 8000000 in
set_option maxRecDepth 100000 in
theorem laws_szGateS.calls (k : Nat) (A0 : Option Addr) (c0 : Nat) (l0 : List (S89)) (a1 : Int) (r : Int) (w : World) (hr0 : Kd.C k89 w A0 l0.length l0) (hc0 : l0.length ≤ c0) (h : laws_szGateS.f k l0 a1 = some r) :
  Calls Try.prog 45 #[.slice A0 l0.length c0, .int .i64 a1] w fun e w' => e = .returned (.int .i64 r) ∧ Below w.heap.size w w' := by
 have hu89 := Try.underlying89
 have HR0 := Aside0.mk hr0
 have HC0 := Aside0.mk hc0
 clear hr0 hc0
 have HB := Aside0.mk (Below.refl w.heap.size w)
 have H : (if (wrap64 (a1 - (l0.length : Int))) < 0 then (some (-1)) else (laws_szGateS.l0 k l0 (wrap64 (a1 - (l0.length : Int))) 0)) = some r := h
 clear h
 by_cases c3 : (wrap64 (a1 - (l0.length : Int))) < 0
 ·rw [if_pos c3] at H
  have c3b0 : decide ((wrap64 (a1 - (l0.length : Int))) < 0) = true := decide_eq_true c3
  clear c3
  obtain rfl := Option.some.inj H
  go_enter Try.func45, Try.ntmps45
  go_wp2
  go_ret
  exact ⟨by first | rfl | (simp [errW_none, errW_some] <;> rfl) | (simp [*, errW_none, errW_some] <;> rfl), by repeat (first | (with_reducible first | exact HB.out | apply below_alloc | apply pw_below_drewN | apply below_drew1) | exact HB.out)⟩
 ·rw [if_neg c3] at H
  have c3b0 : decide ((wrap64 (a1 - (l0.length : Int))) < 0) = false := decide_eq_false c3
  clear c3
  have H' := Aside0.mk H
  clear H
  go_enter Try.func45, Try.ntmps45
  go_wp2
  go_loopg [1, 5] k (fun kq v1 v5 w' => ∃ (x1_1 : Int) (x5_1 : Int), v1 = .int .i64 x1_1 ∧ v5 = .int .i64 x5_1 ∧ Aside0 (laws_szGateS.l0 kq l0 x1_1 x5_1 = some r) ∧ Aside0 (kq ≤ k) ∧ Aside0 (Below w.heap.size w w'))
  case atStart => exact ⟨(wrap64 (a1 - (l0.length : Int))), (0), (by first | rfl | (simp; done) | (simp [*]; done)), (by first | rfl | (simp; done) | (simp [*]; done)), H', ⟨Nat.le_refl _⟩, ⟨by repeat (first | (with_reducible first | exact HB.out | apply below_alloc | apply pw_below_drewN | apply below_drew1) | exact HB.out)⟩⟩
  case round =>
   clear H'
   try clear p2
   try clear c3
   try clear c3b0
   obtain ⟨x1_1, x5_1, rfl, rfl, HA, HK1, HB⟩ := hrel
   cases gk with
   | zero => exact absurd HA.out (by simp [laws_szGateS.l0])
   | succ k1 =>
    have H := HA.out
    clear HA
    simp only [laws_szGateS.l0] at H
    by_cases c4 : x5_1 < (l0.length : Int)
    ·rw [if_pos c4] at H
     have c4b0 : decide (x5_1 < (l0.length : Int)) = true := decide_eq_true c4
     clear c4
     by_cases c5 : 0 ≤ x5_1
     ·rw [if_pos c5] at H
      have c5b0 : decide (0 ≤ x5_1) = true := decide_eq_true c5
      clear c5
      replace H := Option.bind_eq_some_iff.mp H
      obtain ⟨t104, A60, H⟩ := H
      replace H : (if t104 < 0 then (some (-1)) else (laws_szGateS.l0 k1 l0 t104 (wrap64 (x5_1 + 1)))) = some r := H
      have A6 := Aside0.mk A60
      clear A60
      by_cases c7 : t104 < 0
      ·rw [if_pos c7] at H
       have c7b0 : decide (t104 < 0) = true := decide_eq_true c7
       clear c7
       obtain rfl := Option.some.inj H
       have p103 : 0 ≤ (x5_1 : Int) := of_decide_eq_true (by with_reducible assumption)
       have q103 : x5_1 < (l0.length : Int) := of_decide_eq_true (by with_reducible assumption)
       obtain ⟨ad103, A103_2, c103_2, e103, hx103_0, hx103_1, hx103_2, hl103_2, hi103_2⟩ := at_T89 HR0.out x5_1 p103 q103
       cases e103
       replace hx103_0 := (HB.out.cell (World.block_lt_of_cell? w _ hx103_0)).trans hx103_0
       replace hx103_1 := (HB.out.cell (World.block_lt_of_cell? w _ hx103_1)).trans hx103_1
       replace hx103_2 := (HB.out.cell (World.block_lt_of_cell? w _ hx103_2)).trans hx103_2
       have HR103_2 := Aside0.mk hi103_2
       have HC103_2 := Aside0.mk hl103_2
       clear hi103_2 hl103_2
       replace p103 := eq_true p103
       replace q103 := eq_true q103
       go_wp2_with (first | ((with_reducible refine gate_callee (f := 79) rfl ?_); refine goesL_ (some 23) rfl rfl Try.func79 (by kernel_rfl) rfl #[.agg #[.int .i64 ((rd_T89 l0 x5_1).f0), .int .i64 ((rd_T89 l0 x5_1).f1), .slice A103_2 ((rd_T89 l0 x5_1).f2).length c103_2], .int .i64 x1_1] rfl (by (try simp only [List.map_toArray, List.map_cons, List.map_nil]); first | done | rfl | (simp only [List.length_drop, List.length_take]; rfl)) ?_; (with_reducible refine (laws_szGate.calls ((rd_T89 l0 x5_1).f0) ((rd_T89 l0 x5_1).f1) _ _ ((rd_T89 l0 x5_1).f2) x1_1 t104 _ ?side1 ?side2 A6.out).mono ?_); (case side1 => repeat (first | exact (Kd.C_below HR103_2.out HB.out) | (with_reducible refine Kd.C_alloc ?_ _) | (with_reducible refine Kd.C_drewN ?_ _) | (with_reducible refine Kd.C_drew ?_))); (case side2 => exact HC103_2.out); rintro e w8 ⟨rfl, hb⟩; refine ⟨_, rfl, ?_⟩; have n0_ := Aside0.mk (below_step (by repeat (first | (with_reducible first | exact HB.out | apply below_alloc | apply pw_below_drewN | apply below_drew1) | exact HB.out)) hb); clear HB; have HB := n0_; clear n0_; (try clear hb); (try clear hb2); (try clear hk); (try clear hi)))
       go_ret
       exact ⟨by first | rfl | (simp [errW_none, errW_some] <;> rfl) | (simp [*, errW_none, errW_some] <;> rfl), by repeat (first | (with_reducible first | exact HB.out | apply below_alloc | apply pw_below_drewN | apply below_drew1) | exact HB.out)⟩
      ·rw [if_neg c7] at H
       have c7b0 : decide (t104 < 0) = false := decide_eq_false c7
       clear c7
       have H' := Aside0.mk H
       clear H
       have p103 : 0 ≤ (x5_1 : Int) := of_decide_eq_true (by with_reducible assumption)
       have q103 : x5_1 < (l0.length : Int) := of_decide_eq_true (by with_reducible assumption)
       obtain ⟨ad103, A103_2, c103_2, e103, hx103_0, hx103_1, hx103_2, hl103_2, hi103_2⟩ := at_T89 HR0.out x5_1 p103 q103
       cases e103
       replace hx103_0 := (HB.out.cell (World.block_lt_of_cell? w _ hx103_0)).trans hx103_0
       replace hx103_1 := (HB.out.cell (World.block_lt_of_cell? w _ hx103_1)).trans hx103_1
       replace hx103_2 := (HB.out.cell (World.block_lt_of_cell? w _ hx103_2)).trans hx103_2
       have HR103_2 := Aside0.mk hi103_2
       have HC103_2 := Aside0.mk hl103_2
       clear hi103_2 hl103_2
       replace p103 := eq_true p103
       replace q103 := eq_true q103
       go_wp2_with (first | ((with_reducible refine gate_callee (f := 79) rfl ?_); refine goesL_ (some 23) rfl rfl Try.func79 (by kernel_rfl) rfl #[.agg #[.int .i64 ((rd_T89 l0 x5_1).f0), .int .i64 ((rd_T89 l0 x5_1).f1), .slice A103_2 ((rd_T89 l0 x5_1).f2).length c103_2], .int .i64 x1_1] rfl (by (try simp only [List.map_toArray, List.map_cons, List.map_nil]); first | done | rfl | (simp only [List.length_drop, List.length_take]; rfl)) ?_; (with_reducible refine (laws_szGate.calls ((rd_T89 l0 x5_1).f0) ((rd_T89 l0 x5_1).f1) _ _ ((rd_T89 l0 x5_1).f2) x1_1 t104 _ ?side1 ?side2 A6.out).mono ?_); (case side1 => repeat (first | exact (Kd.C_below HR103_2.out HB.out) | (with_reducible refine Kd.C_alloc ?_ _) | (with_reducible refine Kd.C_drewN ?_ _) | (with_reducible refine Kd.C_drew ?_))); (case side2 => exact HC103_2.out); rintro e w9 ⟨rfl, hb⟩; refine ⟨_, rfl, ?_⟩; have n0_ := Aside0.mk (below_step (by repeat (first | (with_reducible first | exact HB.out | apply below_alloc | apply pw_below_drewN | apply below_drew1) | exact HB.out)) hb); clear HB; have HB := n0_; clear n0_; (try clear hb); (try clear hb2); (try clear hk); (try clear hi)))
       go_roundg k1
       case measure => have := HK1.out; omega
       case rel => exact ⟨(t104), (wrap64 (x5_1 + 1)), (by first | rfl | (simp; done) | (simp [*]; done)), (by first | rfl | (simp; done) | (simp [*]; done)), H', ⟨by have := HK1.out; omega⟩, ⟨by repeat (first | (with_reducible first | exact HB.out | apply below_alloc | apply pw_below_drewN | apply below_drew1) | exact HB.out)⟩⟩
     ·rw [if_neg c5] at H
      exact absurd H (by simp)
    ·rw [if_neg c4] at H
     have c4b0 : decide (x5_1 < (l0.length : Int)) = false := decide_eq_false c4
     clear c4
     obtain rfl := Option.some.inj H
     go_wp2
     go_ret
     exact ⟨by first | rfl | (simp [errW_none, errW_some] <;> rfl) | (simp [*, errW_none, errW_some] <;> rfl), by repeat (first | (with_reducible first | exact HB.out | apply below_alloc | apply pw_below_drewN | apply below_drew1) | exact HB.out)⟩

end Go.Proofs.Ytalafmahgeejiaa.Pa

namespace Go.Proofs.Ytalafmahgeejiaa.Pa
open Go.RowKit Go.Proofs.YtalafmahgeejiaaW.PrintWords Go.Proofs.YtalafmahgeejiaaW.PrintLast Go.Proofs.YtalafmahgeejiaaW.PrintMore
attribute [local go_sem] max2_int min2_int max_two min_two max_three min_three max_four min_four   -- for this text's walks alone
set_option linter.unusedVariables false
set_option linter.unusedSimpArgs false

/-! ### laws_szCircuit: function 14 -/
def laws_szCircuit.f (k : Nat) (a0_0 : Int) (l0_1 : List (S89)) (l0_2 : List Int) (a0_3 : Int) (a0_4 : Int) (a0_5 : Int) (a0_6 : Int) (a1 : Int) : Option (Int) := (laws_szGateS.f k l0_1 a1).bind fun t106 => (if t106 < 0 then (some (-1)) else ((laws_szInt64S.f l0_2 t106).bind fun t107 => (if t107 < 0 then (some (-1)) else (some t107))))
theorem laws_szCircuit.mono : ∀ a0 a1 a2 a3 a4 a5 a6 a7 k, LeO (laws_szCircuit.f k a0 a1 a2 a3 a4 a5 a6 a7) (laws_szCircuit.f (k + 1) a0 a1 a2 a3 a4 a5 a6 a7) := by
 intro a0 a1 a2 a3 a4 a5 a6 a7 k
 unfold laws_szCircuit.f
 repeat' first
   | (with_reducible exact laws_szGateS.mono _ _ _)
   | (with_reducible exact LeO.refl _)
   | (with_reducible exact LeO.none _)
   | (with_reducible refine LeO.ite ?_ ?_)
   | (with_reducible refine LeO.bind ?_ (fun _ => ?_))
   | exact laws_szGateS.mono _ _ _
   | exact LeO.none _
   | refine LeO.ite ?_ ?_
   | refine LeO.bind ?_ (fun _ => ?_)
set_option maxHeartbeats 8000000 in
set_option maxRecDepth 100000 in
theorem laws_szCircuit.calls (k : Nat) (a0_0 : Int) (A0_1 : Option Addr) (c0_1 : Nat) (l0_1 : List (S89)) (A0_2 : Option Addr) (c0_2 : Nat) (l0_2 : List Int) (a0_3 : Int) (a0_4 : Int) (a0_5 : Int) (a0_6 : Int) (a1 : Int) (r : Int) (w : World) (hr0_1 : Kd.C k89 w A0_1 l0_1.length l0_1) (hc0_1 : l0_1.length ≤ c0_1) (hr0_2 : Kd.C (Kd.int .i64) w A0_2 l0_2.length l0_2) (hc0_2 : l0_2.length ≤ c0_2) (h : laws_szCircuit.f k a0_0 l0_1 l0_2 a0_3 a0_4 a0_5 a0_6 a1 = some r) :
  Calls Try.prog 14 #[.agg #[.int .i64 a0_0, .slice A0_1 l0_1.length c0_1, .slice A0_2 l0_2.length c0_2, .int .i64 a0_3, .int .i64 a0_4, .int .i64 a0_5, .int .i64 a0_6], .int .i64 a1] w fun e w' => e = .returned (.int .i64 r) ∧ Below w.heap.size w w' := by
 have hu25 := Try.underlying25
 have HR0_1 := Aside0.mk hr0_1
 have HC0_1 := Aside0.mk hc0_1
 clear hr0_1 hc0_1
 have HR0_2 := Aside0.mk hr0_2
 have HC0_2 := Aside0.mk hc0_2
 clear hr0_2 hc0_2
 have HB := Aside0.mk (Below.refl w.heap.size w)
 have H : ((laws_szGateS.f k l0_1 a1).bind fun t106 => (if t106 < 0 then (some (-1)) else ((laws_szInt64S.f l0_2 t106).bind fun t107 => (if t107 < 0 then (some (-1)) else (some t107))))) = some r := h
 clear h
 replace H := Option.bind_eq_some_iff.mp H
 obtain ⟨t106, A30, H⟩ := H
 try dsimp only at H
 have A3 := Aside0.mk A30
 clear A30
 by_cases c4 : t106 < 0
 ·rw [if_pos c4] at H
  have c4b0 : decide (t106 < 0) = true := decide_eq_true c4
  clear c4
  obtain rfl := Option.some.inj H
  go_enter Try.func14, Try.ntmps14
  go_wp2_with (first | ((with_reducible refine gate_dst (N := 2) rfl ?_); refine box_event ?hg (N := 2) ?hd (cs := #[.int .i64 a0_0, .slice A0_1 l0_1.length c0_1, .slice A0_2 l0_2.length c0_2, .int .i64 a0_3, .int .i64 a0_4, .int .i64 a0_5, .int .i64 a0_6]) (t := 25) ?hr ?_; (case hd => rfl); (case hg => rfl); (case hr => first | (go_simp; done) | (go_simp; rfl)); intro gb105 hg w5 hbox hb; have n0_ := Aside0.mk (below_step (by with_reducible repeat (first | exact HB.out | apply below_alloc | apply pw_below_drewN | apply below_drew1)) hb); have n1_ := Aside0.mk (hbox); have n2_ := Aside0.mk ((by rw [hg]; exact (below_size (by with_reducible repeat (first | exact HB.out | apply below_alloc | apply pw_below_drewN | apply below_drew1))) : w.heap.size ≤ gb105)); have n3_ := Aside0.mk ((by rw [hg]; exact (below_size (by with_reducible repeat (first | exact HB.out | apply below_alloc | apply pw_below_drewN | apply below_drew1))) : w.heap.size ≤ gb105)); clear HB; have HB := n0_; have BK105 := n1_; have GW105 := n2_; have GE105 := n3_; clear n0_ n1_ n2_ n3_; clear hb hbox hg; have hcz6_0 : w5.cell? ⟨gb105, 0, none⟩ = some (.int .i64 a0_0) := (blk_cell BK105.out 0).trans rfl; have hcz6_1 : w5.cell? ⟨gb105, 1, none⟩ = some (.slice A0_1 l0_1.length c0_1) := (blk_cell BK105.out 1).trans rfl; have hcz6_2 : w5.cell? ⟨gb105, 2, none⟩ = some (.slice A0_2 l0_2.length c0_2) := (blk_cell BK105.out 2).trans rfl; have hcz6_3 : w5.cell? ⟨gb105, 3, none⟩ = some (.int .i64 a0_3) := (blk_cell BK105.out 3).trans rfl; have hcz6_4 : w5.cell? ⟨gb105, 4, none⟩ = some (.int .i64 a0_4) := (blk_cell BK105.out 4).trans rfl; have hcz6_5 : w5.cell? ⟨gb105, 5, none⟩ = some (.int .i64 a0_5) := (blk_cell BK105.out 5).trans rfl; have hcz6_6 : w5.cell? ⟨gb105, 6, none⟩ = some (.int .i64 a0_6) := (blk_cell BK105.out 6).trans rfl; have hfz6_0 := blk_frozen BK105.out 0; have hfz6_1 := blk_frozen BK105.out 1; have hfz6_2 := blk_frozen BK105.out 2; have hfz6_3 := blk_frozen BK105.out 3; have hfz6_4 := blk_frozen BK105.out 4; have hfz6_5 := blk_frozen BK105.out 5; have hfz6_6 := blk_frozen BK105.out 6) | ((with_reducible refine gate_callee (f := 45) rfl ?_); refine goesL_ (some 8) rfl rfl Try.func45 (by kernel_rfl) rfl #[.slice A0_1 l0_1.length c0_1, .int .i64 a1] rfl (by (try simp only [List.map_toArray, List.map_cons, List.map_nil]); first | done | rfl | (simp only [List.length_drop, List.length_take]; rfl)) ?_; (with_reducible refine (laws_szGateS.calls k _ _ l0_1 a1 t106 _ ?side1 ?side2 A3.out).mono ?_); (case side1 => repeat (first | exact (Kd.C_below HR0_1.out HB.out) | (with_reducible refine Kd.C_alloc ?_ _) | (with_reducible refine Kd.C_drewN ?_ _) | (with_reducible refine Kd.C_drew ?_))); (case side2 => exact HC0_1.out); rintro e w7 ⟨rfl, hb⟩; refine ⟨_, rfl, ?_⟩; have n0_ := Aside0.mk (blk_below (g := gb105) (by (with_reducible repeat (first | refine blk_drewN ?_ _ | refine blk_drew ?_ | refine blk_alloc ?_ _)); exact BK105.out) hb); have n1_ := Aside0.mk (below_step (by with_reducible repeat (first | exact HB.out | apply below_alloc | apply pw_below_drewN | apply below_drew1 | refine below_set ?_ GE105.out)) hb); clear BK105; clear HB; have BK105 := n0_; have HB := n1_; clear n0_ n1_; (try clear hb); (try clear hb2); (try clear hk); (try clear hi)))
  go_ret
  exact ⟨by first | rfl | (simp [errW_none, errW_some] <;> rfl) | (simp [*, errW_none, errW_some] <;> rfl), by with_reducible repeat (first | exact HB.out | apply below_alloc | apply pw_below_drewN | apply below_drew1 | refine below_set ?_ GE105.out)⟩
 ·rw [if_neg c4] at H
  have c4b0 : decide (t106 < 0) = false := decide_eq_false c4
  clear c4
  replace H := Option.bind_eq_some_iff.mp H
  obtain ⟨t107, A80, H⟩ := H
  try dsimp only at H
  have A8 := Aside0.mk A80
  clear A80
  by_cases c9 : t107 < 0
  ·rw [if_pos c9] at H
   have c9b0 : decide (t107 < 0) = true := decide_eq_true c9
   clear c9
   obtain rfl := Option.some.inj H
   go_enter Try.func14, Try.ntmps14
   go_wp2_with (first | ((with_reducible refine gate_dst (N := 2) rfl ?_); refine box_event ?hg (N := 2) ?hd (cs := #[.int .i64 a0_0, .slice A0_1 l0_1.length c0_1, .slice A0_2 l0_2.length c0_2, .int .i64 a0_3, .int .i64 a0_4, .int .i64 a0_5, .int .i64 a0_6]) (t := 25) ?hr ?_; (case hd => rfl); (case hg => rfl); (case hr => first | (go_simp; done) | (go_simp; rfl)); intro gb105 hg w10 hbox hb; have n0_ := Aside0.mk (below_step (by with_reducible repeat (first | exact HB.out | apply below_alloc | apply pw_below_drewN | apply below_drew1)) hb); have n1_ := Aside0.mk (hbox); have n2_ := Aside0.mk ((by rw [hg]; exact (below_size (by with_reducible repeat (first | exact HB.out | apply below_alloc | apply pw_below_drewN | apply below_drew1))) : w.heap.size ≤ gb105)); have n3_ := Aside0.mk ((by rw [hg]; exact (below_size (by with_reducible repeat (first | exact HB.out | apply below_alloc | apply pw_below_drewN | apply below_drew1))) : w.heap.size ≤ gb105)); clear HB; have HB := n0_; have BK105 := n1_; have GW105 := n2_; have GE105 := n3_; clear n0_ n1_ n2_ n3_; clear hb hbox hg; have hcz11_0 : w10.cell? ⟨gb105, 0, none⟩ = some (.int .i64 a0_0) := (blk_cell BK105.out 0).trans rfl; have hcz11_1 : w10.cell? ⟨gb105, 1, none⟩ = some (.slice A0_1 l0_1.length c0_1) := (blk_cell BK105.out 1).trans rfl; have hcz11_2 : w10.cell? ⟨gb105, 2, none⟩ = some (.slice A0_2 l0_2.length c0_2) := (blk_cell BK105.out 2).trans rfl; have hcz11_3 : w10.cell? ⟨gb105, 3, none⟩ = some (.int .i64 a0_3) := (blk_cell BK105.out 3).trans rfl; have hcz11_4 : w10.cell? ⟨gb105, 4, none⟩ = some (.int .i64 a0_4) := (blk_cell BK105.out 4).trans rfl; have hcz11_5 : w10.cell? ⟨gb105, 5, none⟩ = some (.int .i64 a0_5) := (blk_cell BK105.out 5).trans rfl; have hcz11_6 : w10.cell? ⟨gb105, 6, none⟩ = some (.int .i64 a0_6) := (blk_cell BK105.out 6).trans rfl; have hfz11_0 := blk_frozen BK105.out 0; have hfz11_1 := blk_frozen BK105.out 1; have hfz11_2 := blk_frozen BK105.out 2; have hfz11_3 := blk_frozen BK105.out 3; have hfz11_4 := blk_frozen BK105.out 4; have hfz11_5 := blk_frozen BK105.out 5; have hfz11_6 := blk_frozen BK105.out 6) | ((with_reducible refine gate_callee (f := 45) rfl ?_); refine goesL_ (some 8) rfl rfl Try.func45 (by kernel_rfl) rfl #[.slice A0_1 l0_1.length c0_1, .int .i64 a1] rfl (by (try simp only [List.map_toArray, List.map_cons, List.map_nil]); first | done | rfl | (simp only [List.length_drop, List.length_take]; rfl)) ?_; (with_reducible refine (laws_szGateS.calls k _ _ l0_1 a1 t106 _ ?side1 ?side2 A3.out).mono ?_); (case side1 => repeat (first | exact (Kd.C_below HR0_1.out HB.out) | (with_reducible refine Kd.C_alloc ?_ _) | (with_reducible refine Kd.C_drewN ?_ _) | (with_reducible refine Kd.C_drew ?_))); (case side2 => exact HC0_1.out); rintro e w12 ⟨rfl, hb⟩; refine ⟨_, rfl, ?_⟩; have n0_ := Aside0.mk (blk_below (g := gb105) (by (with_reducible repeat (first | refine blk_drewN ?_ _ | refine blk_drew ?_ | refine blk_alloc ?_ _)); exact BK105.out) hb); have n1_ := Aside0.mk (below_step (by with_reducible repeat (first | exact HB.out | apply below_alloc | apply pw_below_drewN | apply below_drew1 | refine below_set ?_ GE105.out)) hb); clear BK105; clear HB; have BK105 := n0_; have HB := n1_; clear n0_ n1_; (try clear hb); (try clear hb2); (try clear hk); (try clear hi); have hcz13_0 : w12.cell? ⟨gb105, 0, none⟩ = some (.int .i64 a0_0) := (blk_cell BK105.out 0).trans rfl; have hcz13_1 : w12.cell? ⟨gb105, 1, none⟩ = some (.slice A0_1 l0_1.length c0_1) := (blk_cell BK105.out 1).trans rfl; have hcz13_2 : w12.cell? ⟨gb105, 2, none⟩ = some (.slice A0_2 l0_2.length c0_2) := (blk_cell BK105.out 2).trans rfl; have hcz13_3 : w12.cell? ⟨gb105, 3, none⟩ = some (.int .i64 a0_3) := (blk_cell BK105.out 3).trans rfl; have hcz13_4 : w12.cell? ⟨gb105, 4, none⟩ = some (.int .i64 a0_4) := (blk_cell BK105.out 4).trans rfl; have hcz13_5 : w12.cell? ⟨gb105, 5, none⟩ = some (.int .i64 a0_5) := (blk_cell BK105.out 5).trans rfl; have hcz13_6 : w12.cell? ⟨gb105, 6, none⟩ = some (.int .i64 a0_6) := (blk_cell BK105.out 6).trans rfl; have hfz13_0 := blk_frozen BK105.out 0; have hfz13_1 := blk_frozen BK105.out 1; have hfz13_2 := blk_frozen BK105.out 2; have hfz13_3 := blk_frozen BK105.out 3; have hfz13_4 := blk_frozen BK105.out 4; have hfz13_5 := blk_frozen BK105.out 5; have hfz13_6 := blk_frozen BK105.out 6) | ((with_reducible refine gate_callee (f := 46) rfl ?_); refine goesL_ (some 14) rfl rfl Try.func46 (by kernel_rfl) rfl #[.slice A0_2 l0_2.length c0_2, .int .i64 t106] rfl (by (try simp only [List.map_toArray, List.map_cons, List.map_nil]); first | done | rfl | (simp only [List.length_drop, List.length_take]; rfl)) ?_; (with_reducible refine (laws_szInt64S.calls _ _ l0_2 t106 t107 _ ?side1 ?side2 A8.out).mono ?_); (case side1 => repeat (first | exact (Kd.C_below HR0_2.out HB.out) | (with_reducible refine Kd.C_alloc ?_ _) | (with_reducible refine Kd.C_drewN ?_ _) | (with_reducible refine Kd.C_drew ?_))); (case side2 => exact HC0_2.out); rintro e w' ⟨rfl, ⟨nd, rfl⟩⟩; refine ⟨_, rfl, ?_⟩))
   go_ret
   exact ⟨by first | rfl | (simp [errW_none, errW_some] <;> rfl) | (simp [*, errW_none, errW_some] <;> rfl), by with_reducible repeat (first | exact HB.out | apply below_alloc | apply pw_below_drewN | apply below_drew1 | refine below_set ?_ GE105.out)⟩
  ·rw [if_neg c9] at H
   have c9b0 : decide (t107 < 0) = false := decide_eq_false c9
   clear c9
   obtain rfl := Option.some.inj H
   go_enter Try.func14, Try.ntmps14
   go_wp2_with (first | ((with_reducible refine gate_dst (N := 2) rfl ?_); refine box_event ?hg (N := 2) ?hd (cs := #[.int .i64 a0_0, .slice A0_1 l0_1.length c0_1, .slice A0_2 l0_2.length c0_2, .int .i64 a0_3, .int .i64 a0_4, .int .i64 a0_5, .int .i64 a0_6]) (t := 25) ?hr ?_; (case hd => rfl); (case hg => rfl); (case hr => first | (go_simp; done) | (go_simp; rfl)); intro gb105 hg w14 hbox hb; have n0_ := Aside0.mk (below_step (by with_reducible repeat (first | exact HB.out | apply below_alloc | apply pw_below_drewN | apply below_drew1)) hb); have n1_ := Aside0.mk (hbox); have n2_ := Aside0.mk ((by rw [hg]; exact (below_size (by with_reducible repeat (first | exact HB.out | apply below_alloc | apply pw_below_drewN | apply below_drew1))) : w.heap.size ≤ gb105)); have n3_ := Aside0.mk ((by rw [hg]; exact (below_size (by with_reducible repeat (first | exact HB.out | apply below_alloc | apply pw_below_drewN | apply below_drew1))) : w.heap.size ≤ gb105)); clear HB; have HB := n0_; have BK105 := n1_; have GW105 := n2_; have GE105 := n3_; clear n0_ n1_ n2_ n3_; clear hb hbox hg; have hcz15_0 : w14.cell? ⟨gb105, 0, none⟩ = some (.int .i64 a0_0) := (blk_cell BK105.out 0).trans rfl; have hcz15_1 : w14.cell? ⟨gb105, 1, none⟩ = some (.slice A0_1 l0_1.length c0_1) := (blk_cell BK105.out 1).trans rfl; have hcz15_2 : w14.cell? ⟨gb105, 2, none⟩ = some (.slice A0_2 l0_2.length c0_2) := (blk_cell BK105.out 2).trans rfl; have hcz15_3 : w14.cell? ⟨gb105, 3, none⟩ = some (.int .i64 a0_3) := (blk_cell BK105.out 3).trans rfl; have hcz15_4 : w14.cell? ⟨gb105, 4, none⟩ = some (.int .i64 a0_4) := (blk_cell BK105.out 4).trans rfl; have hcz15_5 : w14.cell? ⟨gb105, 5, none⟩ = some (.int .i64 a0_5) := (blk_cell BK105.out 5).trans rfl; have hcz15_6 : w14.cell? ⟨gb105, 6, none⟩ = some (.int .i64 a0_6) := (blk_cell BK105.out 6).trans rfl; have hfz15_0 := blk_frozen BK105.out 0; have hfz15_1 := blk_frozen BK105.out 1; have hfz15_2 := blk_frozen BK105.out 2; have hfz15_3 := blk_frozen BK105.out 3; have hfz15_4 := blk_frozen BK105.out 4; have hfz15_5 := blk_frozen BK105.out 5; have hfz15_6 := blk_frozen BK105.out 6) | ((with_reducible refine gate_callee (f := 45) rfl ?_); refine goesL_ (some 8) rfl rfl Try.func45 (by kernel_rfl) rfl #[.slice A0_1 l0_1.length c0_1, .int .i64 a1] rfl (by (try simp only [List.map_toArray, List.map_cons, List.map_nil]); first | done | rfl | (simp only [List.length_drop, List.length_take]; rfl)) ?_; (with_reducible refine (laws_szGateS.calls k _ _ l0_1 a1 t106 _ ?side1 ?side2 A3.out).mono ?_); (case side1 => repeat (first | exact (Kd.C_below HR0_1.out HB.out) | (with_reducible refine Kd.C_alloc ?_ _) | (with_reducible refine Kd.C_drewN ?_ _) | (with_reducible refine Kd.C_drew ?_))); (case side2 => exact HC0_1.out); rintro e w16 ⟨rfl, hb⟩; refine ⟨_, rfl, ?_⟩; have n0_ := Aside0.mk (blk_below (g := gb105) (by (with_reducible repeat (first | refine blk_drewN ?_ _ | refine blk_drew ?_ | refine blk_alloc ?_ _)); exact BK105.out) hb); have n1_ := Aside0.mk (below_step (by with_reducible repeat (first | exact HB.out | apply below_alloc | apply pw_below_drewN | apply below_drew1 | refine below_set ?_ GE105.out)) hb); clear BK105; clear HB; have BK105 := n0_; have HB := n1_; clear n0_ n1_; (try clear hb); (try clear hb2); (try clear hk); (try clear hi); have hcz17_0 : w16.cell? ⟨gb105, 0, none⟩ = some (.int .i64 a0_0) := (blk_cell BK105.out 0).trans rfl; have hcz17_1 : w16.cell? ⟨gb105, 1, none⟩ = some (.slice A0_1 l0_1.length c0_1) := (blk_cell BK105.out 1).trans rfl; have hcz17_2 : w16.cell? ⟨gb105, 2, none⟩ = some (.slice A0_2 l0_2.length c0_2) := (blk_cell BK105.out 2).trans rfl; have hcz17_3 : w16.cell? ⟨gb105, 3, none⟩ = some (.int .i64 a0_3) := (blk_cell BK105.out 3).trans rfl; have hcz17_4 : w16.cell? ⟨gb105, 4, none⟩ = some (.int .i64 a0_4) := (blk_cell BK105.out 4).trans rfl; have hcz17_5 : w16.cell? ⟨gb105, 5, none⟩ = some (.int .i64 a0_5) := (blk_cell BK105.out 5).trans rfl; have hcz17_6 : w16.cell? ⟨gb105, 6, none⟩ = some (.int .i64 a0_6) := (blk_cell BK105.out 6).trans rfl; have hfz17_0 := blk_frozen BK105.out 0; have hfz17_1 := blk_frozen BK105.out 1; have hfz17_2 := blk_frozen BK105.out 2; have hfz17_3 := blk_frozen BK105.out 3; have hfz17_4 := blk_frozen BK105.out 4; have hfz17_5 := blk_frozen BK105.out 5; have hfz17_6 := blk_frozen BK105.out 6) | ((with_reducible refine gate_callee (f := 46) rfl ?_); refine goesL_ (some 14) rfl rfl Try.func46 (by kernel_rfl) rfl #[.slice A0_2 l0_2.length c0_2, .int .i64 t106] rfl (by (try simp only [List.map_toArray, List.map_cons, List.map_nil]); first | done | rfl | (simp only [List.length_drop, List.length_take]; rfl)) ?_; (with_reducible refine (laws_szInt64S.calls _ _ l0_2 t106 t107 _ ?side1 ?side2 A8.out).mono ?_); (case side1 => repeat (first | exact (Kd.C_below HR0_2.out HB.out) | (with_reducible refine Kd.C_alloc ?_ _) | (with_reducible refine Kd.C_drewN ?_ _) | (with_reducible refine Kd.C_drew ?_))); (case side2 => exact HC0_2.out); rintro e w' ⟨rfl, ⟨nd, rfl⟩⟩; refine ⟨_, rfl, ?_⟩))
   go_ret
   exact ⟨by first | rfl | (simp [errW_none, errW_some] <;> rfl) | (simp [*, errW_none, errW_some] <;> rfl), by with_reducible repeat (first | exact HB.out | apply below_alloc | apply pw_below_drewN | apply below_drew1 | refine below_set ?_ GE105.out)⟩

end Go.Proofs.Ytalafmahgeejiaa.Pa

namespace Go.Proofs.Ytalafmahgeejiaa.Pa
open Go.RowKit Go.Proofs.YtalafmahgeejiaaW.PrintWords Go.Proofs.YtalafmahgeejiaaW.PrintLast Go.Proofs.YtalafmahgeejiaaW.PrintMore
attribute [local go_sem] max2_int min2_int max_two min_two max_three min_three max_four min_four   -- for this text's walks alone
set_option linter.unusedVariables false
set_option linter.unusedSimpArgs false

/-! ### laws_toGate: function 82 -/
def laws_toGate.f (k : Nat) (a0_0 : Int) (a0_1 : Int) (l0_2 : List Int) : Option (Int × Int × List Int) := (laws_toInt64S.f k l0_2).bind fun t128 => (some (a0_0, a0_1, t128))
theorem laws_toGate.mono : ∀ a0 a1 a2 k, LeO (laws_toGate.f k a0 a1 a2) (laws_toGate.f (k + 1) a0 a1 a2) := by
 intro a0 a1 a2 k
 unfold laws_toGate.f
 repeat' first
   | (with_reducible exact laws_toInt64S.mono _ _)
   | (with_reducible exact LeO.refl _)
   | (with_reducible exact LeO.none _)
   | (with_reducible refine LeO.ite ?_ ?_)
   | (with_reducible refine LeO.bind ?_ (fun _ => ?_))
   | exact laws_toInt64S.mono _ _
   | exact LeO.none _
   | refine LeO.ite ?_ ?_
   | refine LeO.bind ?_ (fun _ => ?_)
set_option maxHeartbeats 8000000 in
set_option maxRecDepth 100000 in
theorem laws_toGate.calls (k : Nat) (a0_0 : Int) (a0_1 : Int) (A0_2 : Option Addr) (c0_2 : Nat) (l0_2 : List Int) (r1 : Int) (r2 : Int) (r3 : List Int) (w : World) (hr0_2 : Kd.C (Kd.int .i64) w A0_2 l0_2.length l0_2) (hc0_2 : l0_2.length ≤ c0_2) (h : laws_toGate.f k a0_0 a0_1 l0_2 = some (r1, r2, r3)) :
  Calls Try.prog 82 #[.agg #[.int .i64 a0_0, .int .i64 a0_1, .slice A0_2 l0_2.length c0_2]] w fun e w' => ∃ v2_ : Value, e = .returned (.agg #[.int .i64 r1, .int .i64 r2, v2_]) ∧ Kd.R (Kd.int .i64) 2 w' w.heap.size (fun _ => True) v2_ r3 ∧ Below w.heap.size w w' := by
 have hu89 := Try.underlying89
 have hu62 := Try.underlying62
 have HR0_2 := Aside0.mk hr0_2
 have HC0_2 := Aside0.mk hc0_2
 clear hr0_2 hc0_2
 have HB := Aside0.mk (Below.refl w.heap.size w)
 have H : ((laws_toInt64S.f k l0_2).bind fun t128 => (some (a0_0, a0_1, t128))) = some (r1, r2, r3) := h
 clear h
 replace H := Option.bind_eq_some_iff.mp H
 obtain ⟨t128, A20, H⟩ := H
 replace H : (some (a0_0, a0_1, t128)) = some (r1, r2, r3) := H
 have A2 := Aside0.mk A20
 clear A20
 simp only [Option.some.injEq, Prod.mk.injEq] at H
 obtain ⟨rfl, rfl, rfl⟩ := H
 go_enter Try.func82, Try.ntmps82
 go_wp2_with (first | ((with_reducible refine gate_dst (N := 1) rfl ?_); refine box_event ?hg (N := 1) ?hd (cs := #[.int .i64 a0_0, .int .i64 a0_1, .slice A0_2 l0_2.length c0_2]) (t := 89) ?hr ?_; (case hd => rfl); (case hg => rfl); (case hr => first | (go_simp; done) | (go_simp; rfl)); intro gb125 hg w3 hbox hb; have n0_ := Aside0.mk (below_step (by repeat (first | (with_reducible first | exact HB.out | apply below_alloc | apply pw_below_drewN | apply below_drew1) | exact HB.out)) hb); have n1_ := Aside0.mk (hbox); have n2_ := Aside0.mk ((by rw [hg]; exact (below_size (by repeat (first | (with_reducible first | exact HB.out | apply below_alloc | apply pw_below_drewN | apply below_drew1) | exact HB.out))) : w.heap.size ≤ gb125)); have n3_ := Aside0.mk ((by rw [hg]; exact (below_size (by repeat (first | (with_reducible first | exact HB.out | apply below_alloc | apply pw_below_drewN | apply below_drew1) | exact HB.out))) : w.heap.size ≤ gb125)); clear HB; have HB := n0_; have BK125 := n1_; have GW125 := n2_; have GE125 := n3_; clear n0_ n1_ n2_ n3_; clear hb hbox hg) | ((with_reducible refine gate_dst (N := 2) rfl ?_); refine box_event ?hg (N := 2) ?hd (cs := #[.int .i64 0, .int .i64 0, .slice none 0 0]) (t := 62) ?hr ?_; (case hd => rfl); (case hg => rfl); (case hr => first | (go_simp; done) | (go_simp; rfl)); intro gb126 hg w4 hbox hb; have n0_ := Aside0.mk (blk_below (g := gb125) (o := .cells #[.int .i64 a0_0, .int .i64 a0_1, .slice A0_2 l0_2.length c0_2] 89 (0, 0)) (by (with_reducible repeat (first | refine blk_drewN ?_ _ | refine blk_drew ?_ | refine blk_alloc ?_ _)); exact BK125.out) hb); have n1_ := Aside0.mk (below_step (by repeat (first | (with_reducible first | exact HB.out | apply below_alloc | apply pw_below_drewN | apply below_drew1 | refine below_set ?_ GE125.out) | exact HB.out)) hb); have n2_ := Aside0.mk (hbox); have n3_ := Aside0.mk ((by rw [hg]; exact (below_size (by repeat (first | (with_reducible first | exact HB.out | apply below_alloc | apply pw_below_drewN | apply below_drew1 | refine below_set ?_ GE125.out) | exact HB.out))) : w.heap.size ≤ gb126)); have n4_ := Aside0.mk ((by rw [hg]; exact (below_size (by repeat (first | (with_reducible first | exact HB.out | apply below_alloc | apply pw_below_drewN | apply below_drew1 | refine below_set ?_ GE125.out) | exact HB.out))) : w.heap.size ≤ gb126)); have n5_ := Aside0.mk ((by rw [hg]; exact Nat.ne_of_lt (blk_lt (g := gb125) (o := .cells #[.int .i64 a0_0, .int .i64 a0_1, .slice A0_2 l0_2.length c0_2] 89 (0, 0)) (by (with_reducible repeat (first | refine blk_drewN ?_ _ | refine blk_drew ?_ | refine blk_alloc ?_ _)); exact BK125.out)) : gb125 ≠ gb126)); have n6_ := Aside0.mk ((by rw [hg]; exact Nat.ne_of_gt (blk_lt (g := gb125) (o := .cells #[.int .i64 a0_0, .int .i64 a0_1, .slice A0_2 l0_2.length c0_2] 89 (0, 0)) (by (with_reducible repeat (first | refine blk_drewN ?_ _ | refine blk_drew ?_ | refine blk_alloc ?_ _)); exact BK125.out)) : gb126 ≠ gb125)); clear BK125; clear HB; have BK125 := n0_; have HB := n1_; have BK126 := n2_; have GW126 := n3_; have GE126 := n4_; have NB125_126 := n5_; have NB126_125 := n6_; clear n0_ n1_ n2_ n3_ n4_ n5_ n6_; clear hb hbox hg) | ((with_reducible refine gate_dst (N := 3) rfl ?_); refine box_event ?hg (N := 3) ?hd (cs := #[.int .i64 0, .int .i64 0, .slice none 0 0]) (t := 62) ?hr ?_; (case hd => rfl); (case hg => rfl); (case hr => first | (go_simp; done) | (go_simp; rfl)); intro gb127 hg w5 hbox hb; have n0_ := Aside0.mk (blk_below (g := gb125) (o := .cells #[.int .i64 a0_0, .int .i64 a0_1, .slice A0_2 l0_2.length c0_2] 89 (0, 0)) (by (with_reducible repeat (first | refine blk_drewN ?_ _ | refine blk_drew ?_ | refine blk_alloc ?_ _)); exact BK125.out) hb); have n1_ := Aside0.mk (blk_below (g := gb126) (o := .cells #[.int .i64 0, .int .i64 0, .slice none 0 0] 62 (0, 0)) (by (with_reducible repeat (first | refine blk_drewN ?_ _ | refine blk_drew ?_ | refine blk_alloc ?_ _)); exact BK126.out) hb); have n2_ := Aside0.mk (below_step (by repeat (first | (with_reducible first | exact HB.out | apply below_alloc | apply pw_below_drewN | apply below_drew1 | refine below_set ?_ GE125.out | refine below_set ?_ GE126.out) | exact HB.out)) hb); have n3_ := Aside0.mk (hbox); have n4_ := Aside0.mk ((by rw [hg]; exact (below_size (by repeat (first | (with_reducible first | exact HB.out | apply below_alloc | apply pw_below_drewN | apply below_drew1 | refine below_set ?_ GE125.out | refine below_set ?_ GE126.out) | exact HB.out))) : w.heap.size ≤ gb127)); have n5_ := Aside0.mk ((by rw [hg]; exact (below_size (by repeat (first | (with_reducible first | exact HB.out | apply below_alloc | apply pw_below_drewN | apply below_drew1 | refine below_set ?_ GE125.out | refine below_set ?_ GE126.out) | exact HB.out))) : w.heap.size ≤ gb127)); have n6_ := Aside0.mk ((by rw [hg]; exact Nat.ne_of_lt (blk_lt (g := gb125) (o := .cells #[.int .i64 a0_0, .int .i64 a0_1, .slice A0_2 l0_2.length c0_2] 89 (0, 0)) (by (with_reducible repeat (first | refine blk_drewN ?_ _ | refine blk_drew ?_ | refine blk_alloc ?_ _)); exact BK125.out)) : gb125 ≠ gb127)); have n7_ := Aside0.mk ((by rw [hg]; exact Nat.ne_of_gt (blk_lt (g := gb125) (o := .cells #[.int .i64 a0_0, .int .i64 a0_1, .slice A0_2 l0_2.length c0_2] 89 (0, 0)) (by (with_reducible repeat (first | refine blk_drewN ?_ _ | refine blk_drew ?_ | refine blk_alloc ?_ _)); exact BK125.out)) : gb127 ≠ gb125)); have n8_ := Aside0.mk ((by rw [hg]; exact Nat.ne_of_lt (blk_lt (g := gb126) (o := .cells #[.int .i64 0, .int .i64 0, .slice none 0 0] 62 (0, 0)) (by (with_reducible repeat (first | refine blk_drewN ?_ _ | refine blk_drew ?_ | refine blk_alloc ?_ _)); exact BK126.out)) : gb126 ≠ gb127)); have n9_ := Aside0.mk ((by rw [hg]; exact Nat.ne_of_gt (blk_lt (g := gb126) (o := .cells #[.int .i64 0, .int .i64 0, .slice none 0 0] 62 (0, 0)) (by (with_reducible repeat (first | refine blk_drewN ?_ _ | refine blk_drew ?_ | refine blk_alloc ?_ _)); exact BK126.out)) : gb127 ≠ gb126)); clear BK125; clear BK126; clear HB; have BK125 := n0_; have BK126 := n1_; have HB := n2_; have BK127 := n3_; have GW127 := n4_; have GE127 := n5_; have NB125_127 := n6_; have NB127_125 := n7_; have NB126_127 := n8_; have NB127_126 := n9_; clear n0_ n1_ n2_ n3_ n4_ n5_ n6_ n7_ n8_ n9_; clear hb hbox hg; have hnb6 := NB125_126.out; have hnc6 := NB126_125.out; have hnb7 := NB125_127.out; have hnc7 := NB127_125.out; have hcz8_0 : w5.cell? ⟨gb125, 0, none⟩ = some (.int .i64 a0_0) := (blk_cell BK125.out 0).trans rfl; have hcz8_1 : w5.cell? ⟨gb125, 1, none⟩ = some (.int .i64 a0_1) := (blk_cell BK125.out 1).trans rfl; have hcz8_2 : w5.cell? ⟨gb125, 2, none⟩ = some (.slice A0_2 l0_2.length c0_2) := (blk_cell BK125.out 2).trans rfl; have hfz8_0 := blk_frozen BK125.out 0; have hfz8_1 := blk_frozen BK125.out 1; have hfz8_2 := blk_frozen BK125.out 2; have hnb9 := NB127_126.out; have hnc9 := NB126_127.out; have hcz10_0 : w5.cell? ⟨gb127, 0, none⟩ = some (.int .i64 0) := (blk_cell BK127.out 0).trans rfl; have hcz10_1 : w5.cell? ⟨gb127, 1, none⟩ = some (.int .i64 0) := (blk_cell BK127.out 1).trans rfl; have hcz10_2 : w5.cell? ⟨gb127, 2, none⟩ = some (.slice none 0 0) := (blk_cell BK127.out 2).trans rfl; have hfz10_0 := blk_frozen BK127.out 0; have hfz10_1 := blk_frozen BK127.out 1; have hfz10_2 := blk_frozen BK127.out 2) | ((with_reducible refine gate_callee (f := 22) rfl ?_); refine goesL_ (some 12) rfl rfl Try.func22 (by kernel_rfl) rfl #[.slice A0_2 l0_2.length c0_2] rfl (by (try simp only [List.map_toArray, List.map_cons, List.map_nil]); first | done | rfl | (simp only [List.length_drop, List.length_take]; rfl)) ?_; (with_reducible refine (laws_toInt64S.calls k _ _ l0_2 t128 _ ?side1 ?side2 A2.out).mono ?_); (case side1 => exact Kd.C_below HR0_2.out (by repeat (first | (with_reducible first | exact HB.out | apply below_alloc | apply pw_below_drewN | apply below_drew1 | refine below_set ?_ GE125.out | refine below_set ?_ GE126.out | refine below_set ?_ GE127.out) | exact HB.out))); (case side2 => exact HC0_2.out); rintro e w11 ⟨v129, rfl, ho0, hb⟩; refine ⟨_, rfl, ?_⟩; have n0_ := Aside0.mk (Kd.R_lower ho0 (below_size (by repeat (first | (with_reducible first | exact HB.out | apply below_alloc | apply pw_below_drewN | apply below_drew1 | refine below_set ?_ GE125.out | refine below_set ?_ GE126.out | refine below_set ?_ GE127.out) | exact HB.out)))); have n1_ := Aside0.mk (blk_below (g := gb125) (o := .cells #[.int .i64 a0_0, .int .i64 a0_1, .slice A0_2 l0_2.length c0_2] 89 (0, 0)) (by (with_reducible repeat (first | refine blk_drewN ?_ _ | refine blk_drew ?_ | refine blk_alloc ?_ _)); refine blk_far ?_ NB125_127.out _; (with_reducible repeat (first | refine blk_drewN ?_ _ | refine blk_drew ?_ | refine blk_alloc ?_ _)); refine blk_far ?_ NB125_127.out _; (with_reducible repeat (first | refine blk_drewN ?_ _ | refine blk_drew ?_ | refine blk_alloc ?_ _)); exact BK125.out) hb); have n2_ := Aside0.mk (blk_below (g := gb126) (o := .cells #[.int .i64 0, .int .i64 0, .slice none 0 0] 62 (0, 0)) (by (with_reducible repeat (first | refine blk_drewN ?_ _ | refine blk_drew ?_ | refine blk_alloc ?_ _)); refine blk_far ?_ NB126_127.out _; (with_reducible repeat (first | refine blk_drewN ?_ _ | refine blk_drew ?_ | refine blk_alloc ?_ _)); refine blk_far ?_ NB126_127.out _; (with_reducible repeat (first | refine blk_drewN ?_ _ | refine blk_drew ?_ | refine blk_alloc ?_ _)); exact BK126.out) hb); have n3_ := Aside0.mk (blk_below (g := gb127) (o := .cells #[.int .i64 a0_0, .int .i64 a0_1, .slice none 0 0] 62 (0, 0)) (by (with_reducible repeat (first | refine blk_drewN ?_ _ | refine blk_drew ?_ | refine blk_alloc ?_ _)); refine blk_put (cs := #[.int .i64 a0_0, .int .i64 0, .slice none 0 0]) ?_ 1 _ rfl; (with_reducible repeat (first | refine blk_drewN ?_ _ | refine blk_drew ?_ | refine blk_alloc ?_ _)); refine blk_put (cs := #[.int .i64 0, .int .i64 0, .slice none 0 0]) ?_ 0 _ rfl; (with_reducible repeat (first | refine blk_drewN ?_ _ | refine blk_drew ?_ | refine blk_alloc ?_ _)); exact BK127.out) hb); have n4_ := Aside0.mk (below_step (by repeat (first | (with_reducible first | exact HB.out | apply below_alloc | apply pw_below_drewN | apply below_drew1 | refine below_set ?_ GE125.out | refine below_set ?_ GE126.out | refine below_set ?_ GE127.out) | exact HB.out)) hb); clear BK125; clear BK126; clear BK127; clear HB; have HO130 := n0_; have BK125 := n1_; have BK126 := n2_; have BK127 := n3_; have HB := n4_; clear n0_ n1_ n2_ n3_ n4_; (try clear hb); (try clear hb2); (try clear hk); (try clear hi); (try clear ho0); obtain ⟨Ao12, co12, eo12⟩ := Kd.R_slice HO130.out; subst eo12; have hcz13_0 : w11.cell? ⟨gb127, 0, none⟩ = some (.int .i64 a0_0) := (blk_cell BK127.out 0).trans rfl; have hcz13_1 : w11.cell? ⟨gb127, 1, none⟩ = some (.int .i64 a0_1) := (blk_cell BK127.out 1).trans rfl; have hcz13_2 : w11.cell? ⟨gb127, 2, none⟩ = some (.slice none 0 0) := (blk_cell BK127.out 2).trans rfl; have hfz13_0 := blk_frozen BK127.out 0; have hfz13_1 := blk_frozen BK127.out 1; have hfz13_2 := blk_frozen BK127.out 2; have hcz14_0 : w11.cell? ⟨gb126, 0, none⟩ = some (.int .i64 0) := (blk_cell BK126.out 0).trans rfl; have hcz14_1 : w11.cell? ⟨gb126, 1, none⟩ = some (.int .i64 0) := (blk_cell BK126.out 1).trans rfl; have hcz14_2 : w11.cell? ⟨gb126, 2, none⟩ = some (.slice none 0 0) := (blk_cell BK126.out 2).trans rfl; have hfz14_0 := blk_frozen BK126.out 0; have hfz14_1 := blk_frozen BK126.out 1; have hfz14_2 := blk_frozen BK126.out 2))
 refine bodyPost_ret (results_cell_row rfl _ _ gb126 62 #[.int .i64 a0_0, .int .i64 a0_1, .slice Ao12 t128.length co12] (0, 0) _ rfl (by (with_reducible repeat (first | refine blk_drewN ?_ _ | refine blk_drew ?_ | refine blk_alloc ?_ _)); refine blk_put (cs := #[.int .i64 a0_0, .int .i64 a0_1, .slice none 0 0]) ?_ 2 _ rfl; (with_reducible repeat (first | refine blk_drewN ?_ _ | refine blk_drew ?_ | refine blk_alloc ?_ _)); refine blk_put (cs := #[.int .i64 a0_0, .int .i64 0, .slice none 0 0]) ?_ 1 _ rfl; (with_reducible repeat (first | refine blk_drewN ?_ _ | refine blk_drew ?_ | refine blk_alloc ?_ _)); refine blk_put (cs := #[.int .i64 0, .int .i64 0, .slice none 0 0]) ?_ 0 _ rfl; (with_reducible repeat (first | refine blk_drewN ?_ _ | refine blk_drew ?_ | refine blk_alloc ?_ _)); refine blk_far ?_ NB126_127.out _; (with_reducible repeat (first | refine blk_drewN ?_ _ | refine blk_drew ?_ | refine blk_alloc ?_ _)); exact BK126.out) Try.underlying62 rfl (by kernel_rfl)) rfl ?_
 exact ⟨_, by first | rfl | (simp [errW_none, errW_some] <;> rfl) | (simp [*, errW_none, errW_some] <;> rfl), by (with_reducible repeat (first | apply Kd.R_alloc | apply Kd.R_drewN | apply Kd.R_drew)); exact Kd.R_mono (Kd.R_far (p := ⟨gb126, 2, none⟩) (Kd.R_far (p := ⟨gb126, 1, none⟩) (Kd.R_far (p := ⟨gb126, 0, none⟩) (Kd.R_far (p := ⟨gb127, 2, none⟩) (Kd.R_types (Kd.R_types HO130.out BK127.out (by decide)) BK126.out (by decide)) (fun _ hk => hk.1.2) (.slice Ao12 t128.length co12)) (fun _ hk => hk.2) (.int .i64 a0_0)) (fun _ hk => hk.2) (.int .i64 a0_1)) (fun _ hk => hk.2) (.slice Ao12 t128.length co12)) (fun _ hk => trivial), by repeat (first | (with_reducible first | exact HB.out | apply below_alloc | apply pw_below_drewN | apply below_drew1 | refine below_set ?_ GE125.out | refine below_set ?_ GE126.out | refine below_set ?_ GE127.out) | exact HB.out)⟩

end Go.Proofs.Ytalafmahgeejiaa.Pa

namespace Go.Proofs.Ytalafmahgeejiaa.Pa
open Go.RowKit Go.Proofs.YtalafmahgeejiaaW.PrintWords Go.Proofs.YtalafmahgeejiaaW.PrintLast Go.Proofs.YtalafmahgeejiaaW.PrintMore
attribute [local go_sem] max2_int min2_int max_two min_two max_three min_three max_four min_four   -- for this text's walks alone
set_option linter.unusedVariables false
set_option linter.unusedSimpArgs false

/-! ### laws_toGateS: function 48 -/
def laws_toGateS.l0 : Nat → List (S89) → List (S62) → Int → Option ((List (S62)))
 | 0, _, _, _ => none
 | k + 1, x0, x3, x4 => if x4 < (x0.length : Int) then (if 0 ≤ x4 then ((laws_toGate.f k ((rd_T89 x0 x4).f0) ((rd_T89 x0 x4).f1) ((rd_T89 x0 x4).f2)).bind fun bt135 => (if x4 < (x3.length : Int) then (laws_toGateS.l0 k x0 (x3.set (x4 : Int).toNat (⟨bt135.1, bt135.2.1, bt135.2.2⟩ : S62)) (wrap64 (x4 + 1))) else (none))) else (none)) else (some x3)
def laws_toGateS.f (k : Nat) (l0 : List (S89)) : Option ((List (S62))) := if 0 ≤ (l0.length : Int) then (if ((l0.length : Int) : Int).toNat ≤ 7036874417766 then (laws_toGateS.l0 k l0 (List.replicate ((l0.length : Int) : Int).toNat z62) 0) else (none)) else (none)
theorem laws_toGateS.mono_l : ∀ k, (∀ y0 y1 y2, LeO (laws_toGateS.l0 k y0 y1 y2) (laws_toGateS.l0 (k + 1) y0 y1 y2))
 | 0 => fun _ _ _ r h => by simp [laws_toGateS.l0] at h
 | k + 1 => by
  have ih0 := laws_toGateS.mono_l k
  ·intro y0 y1 y2
   unfold laws_toGateS.l0
   repeat' first
   | (with_reducible exact ih0 _ _ _)
   | (with_reducible exact laws_toGate.mono _ _ _ _)
   | (with_reducible exact LeO.refl _)
   | (with_reducible exact LeO.none _)
   | (with_reducible refine LeO.ite ?_ ?_)
   | (with_reducible refine LeO.bind ?_ (fun _ => ?_))
   | exact ih0 _ _ _
   | exact laws_toGate.mono _ _ _ _
   | exact LeO.none _
   | refine LeO.ite ?_ ?_
   | refine LeO.bind ?_ (fun _ => ?_)
theorem laws_toGateS.mono : ∀ a0 k, LeO (laws_toGateS.f k a0) (laws_toGateS.f (k + 1) a0) := by
 intro a0 k
 have ih0 := laws_toGateS.mono_l k
 unfold laws_toGateS.f
 repeat' first
   | (with_reducible exact ih0 _ _ _)
   | (with_reducible exact laws_toGate.mono _ _ _ _)
   | (with_reducible exact LeO.refl _)
   | (with_reducible exact LeO.none _)
   | (with_reducible refine LeO.ite ?_ ?_)
   | (with_reducible refine LeO.bind ?_ (fun _ => ?_))
   | exact ih0 _ _ _
   | exact laws_toGate.mono _ _ _ _
   | exact LeO.none _
   | refine LeO.ite ?_ ?_
   | refine LeO.bind ?_ (fun _ => ?_)
set_option maxHeartbeats 8000000 in
set_option maxRecDepth 100000 in
theorem laws_toGateS.calls (k : Nat) (A0 : Option Addr) (c0 : Nat) (l0 : List (S89)) (r : List (S62)) (w : World) (hr0 : Kd.C k89 w A0 l0.length l0) (hc0 : l0.length ≤ c0) (h : laws_toGateS.f k l0 = some r) :
  Calls Try.prog 48 #[.slice A0 l0.length c0] w fun e w' => ∃ v0_ : Value, e = .returned (v0_) ∧ Kd.S k62 62 w' w.heap.size (fun _ => True) v0_ r ∧ Below w.heap.size w w' := by
 have hu89 := Try.underlying89
 have hu62 := Try.underlying62
 have HR0 := Aside0.mk hr0
 have HC0 := Aside0.mk hc0
 clear hr0 hc0
 have HB := Aside0.mk (Below.refl w.heap.size w)
 have H : (if 0 ≤ (l0.length : Int) then (if ((l0.length : Int) : Int).toNat ≤ 7036874417766 then (laws_toGateS.l0 k l0 (List.replicate ((l0.length : Int) : Int).toNat z62) 0) else (none)) else (none)) = some r := h
 clear h
 by_cases c2 : 0 ≤ (l0.length : Int)
 case neg => rw [if_neg c2] at H; exact absurd H (by simp)
 rw [if_pos c2] at H
 have c2b0 := eq_true c2
 have c2b1 : decide (0 ≤ (l0.length : Int)) = true := decide_eq_true c2
 clear c2
 by_cases c3 : ((l0.length : Int) : Int).toNat ≤ 7036874417766
 case neg => rw [if_neg c3] at H; exact absurd H (by simp)
 rw [if_pos c3] at H
 have c3b0 := eq_true c3
 have c3b1 : decide (((l0.length : Int) : Int).toNat ≤ 7036874417766) = true := decide_eq_true c3
 clear c3
 obtain ⟨y131, hy131⟩ : ∃ y_ : List (S62), y_ = (List.replicate ((l0.length : Int) : Int).toNat z62) := ⟨_, rfl⟩
 (try rw [Option.bind_some] at H); try rw [← hy131] at H
 have Ny131 := Aside0.mk hy131
 clear hy131
 have H' := Aside0.mk H
 clear H
 go_enter Try.func48, Try.ntmps48
 go_wp2_with (first | ((with_reducible refine gate_dst (N := 7) rfl ?_); refine Kd.S_make k62 _ 62 rfl (N := 7) rfl 28 _ _ rfl (l0.length : Int) rfl rfl Try.underlying28 (.agg #[(.int .i64 0), (.int .i64 0), (.slice none 0 0)]) 40 info62 rfl (by decide) (by omega) z62 (ok := fun _ => True) (okp := fun _ => True) (k62_mkM _ _ _ z62 (Kd.R_nil _ _ _ _ _)) (fun _ hk => hk) trivial (of_decide_eq_true (by with_reducible assumption)) (Nat.le_trans (Nat.mul_le_mul_right _ (of_decide_eq_true (by with_reducible assumption) : (l0.length : Int).toNat ≤ 7036874417766)) (by omega)) (Below.refl _ _) (Nat.le_refl _) ?_; intro v132 w4 ho5 hb hg_ hnew_; clear hg_ hnew_; (first | rw [← Ny131.out] at ho5 | (simp only [Int.reduceToNat] at ho5; rw [← Ny131.out] at ho5)); have n0_ := Aside0.mk (Kd.S_lower ho5 (below_size (by with_reducible repeat (first | exact HB.out | apply below_alloc | apply pw_below_drewN | apply below_drew1)))); have n1_ := Aside0.mk (below_step (by with_reducible repeat (first | exact HB.out | apply below_alloc | apply pw_below_drewN | apply below_drew1)) hb); clear HB; have HO133 := n0_; have HB := n1_; clear n0_ n1_; clear hb ho5))
 go_loopg [4] k (fun kq v4 w' => ∃ (x3_1 : List (S62)) (x4_1 : Int), v4 = .int .i64 x4_1 ∧ Aside0 (laws_toGateS.l0 kq l0 x3_1 x4_1 = some r) ∧ Aside0 (kq ≤ k) ∧ Aside0 (Kd.S k62 62 w' w.heap.size (fun _ => True) v132 x3_1) ∧ Aside0 (Below w.heap.size w w'))
 case atStart => exact ⟨(y131), (0), (by first | rfl | (simp; done) | (simp [*]; done)), H', ⟨Nat.le_refl _⟩, ⟨by (with_reducible repeat (first | apply Kd.S_alloc | apply Kd.S_drewN | apply Kd.S_drew)); exact HO133.out⟩, ⟨by with_reducible repeat (first | exact HB.out | apply below_alloc | apply pw_below_drewN | apply below_drew1)⟩⟩
 case round =>
  clear H'
  try clear c2
  try clear c2b0
  try clear c2b1
  try clear p2
  try clear c3
  try clear c3b0
  try clear c3b1
  try clear c4
  obtain ⟨x3_1, x4_1, rfl, HA, HK1, HO_3, HB⟩ := hrel
  cases gk with
  | zero => exact absurd HA.out (by simp [laws_toGateS.l0])
  | succ k1 =>
   have H := HA.out
   clear HA
   simp only [laws_toGateS.l0] at H
   by_cases c6 : x4_1 < (l0.length : Int)
   ·rw [if_pos c6] at H
    have c6b0 : decide (x4_1 < (l0.length : Int)) = true := decide_eq_true c6
    clear c6
    by_cases c7 : 0 ≤ x4_1
    case neg => rw [if_neg c7] at H; exact absurd H (by simp)
    rw [if_pos c7] at H
    have c7b0 : decide (0 ≤ x4_1) = true := decide_eq_true c7
    clear c7
    replace H := Option.bind_eq_some_iff.mp H
    obtain ⟨⟨t135, t136, t137⟩, A80, H⟩ := H
    try dsimp only at H
    have A8 := Aside0.mk A80
    clear A80
    by_cases c9 : x4_1 < (x3_1.length : Int)
    case neg => rw [if_neg c9] at H; exact absurd H (by simp)
    rw [if_pos c9] at H
    have c9b0 : decide (x4_1 < (x3_1.length : Int)) = true := decide_eq_true c9
    clear c9
    obtain ⟨y140, hy140⟩ : ∃ y_ : List (S62), y_ = (x3_1.set (x4_1 : Int).toNat (⟨t135, t136, t137⟩ : S62)) := ⟨_, rfl⟩
    (try rw [Option.bind_some] at H); try rw [← hy140] at H
    have Ny140 := Aside0.mk hy140
    clear hy140
    have H' := Aside0.mk H
    clear H
    have p134 : 0 ≤ (x4_1 : Int) := of_decide_eq_true (by with_reducible assumption)
    have q134 : x4_1 < (l0.length : Int) := of_decide_eq_true (by with_reducible assumption)
    obtain ⟨ad134, A134_2, c134_2, e134, hx134_0, hx134_1, hx134_2, hl134_2, hi134_2⟩ := at_T89 HR0.out x4_1 p134 q134
    cases e134
    replace hx134_0 := (HB.out.cell (World.block_lt_of_cell? w _ hx134_0)).trans hx134_0
    replace hx134_1 := (HB.out.cell (World.block_lt_of_cell? w _ hx134_1)).trans hx134_1
    replace hx134_2 := (HB.out.cell (World.block_lt_of_cell? w _ hx134_2)).trans hx134_2
    have HR134_2 := Aside0.mk hi134_2
    have HC134_2 := Aside0.mk hl134_2
    clear hi134_2 hl134_2
    replace p134 := eq_true p134
    replace q134 := eq_true q134
    go_wp2_with (first | ((with_reducible refine gate_callee (f := 82) rfl ?_); refine goesL_ (some 20) rfl rfl Try.func82 (by kernel_rfl) rfl #[.agg #[.int .i64 ((rd_T89 l0 x4_1).f0), .int .i64 ((rd_T89 l0 x4_1).f1), .slice A134_2 ((rd_T89 l0 x4_1).f2).length c134_2]] rfl (by (try simp only [List.map_toArray, List.map_cons, List.map_nil]); first | done | rfl | (simp only [List.length_drop, List.length_take]; rfl)) ?_; (with_reducible refine (laws_toGate.calls k1 ((rd_T89 l0 x4_1).f0) ((rd_T89 l0 x4_1).f1) _ _ ((rd_T89 l0 x4_1).f2) t135 t136 t137 _ ?side1 ?side2 A8.out).mono ?_); (case side1 => repeat (first | exact (Kd.C_below HR134_2.out HB.out) | (with_reducible refine Kd.C_alloc ?_ _) | (with_reducible refine Kd.C_drewN ?_ _) | (with_reducible refine Kd.C_drew ?_))); (case side2 => exact HC134_2.out); rintro e w11 ⟨v138, rfl, ho0, hb⟩; refine ⟨_, rfl, ?_⟩; have n0_ := Aside0.mk (Kd.S_elder' (by (with_reducible repeat (first | apply Kd.S_alloc | apply Kd.S_drewN | apply Kd.S_drew)); exact HO_3.out) (Kd.R_base ho0) hb); have n1_ := Aside0.mk (Kd.R_lower ho0 (below_size (by with_reducible repeat (first | exact HB.out | apply below_alloc | apply pw_below_drewN | apply below_drew1)))); have n2_ := Aside0.mk (below_step (by with_reducible repeat (first | exact HB.out | apply below_alloc | apply pw_below_drewN | apply below_drew1)) hb); clear HO_3; clear HB; have HO_3 := n0_; have HO139 := n1_; have HB := n2_; clear n0_ n1_ n2_; (try clear hb); (try clear hb2); (try clear hk); (try clear hi); (try clear ho0); have p10 : 0 ≤ (x4_1 : Int) := of_decide_eq_true (by with_reducible assumption); have q10 : (x4_1 : Int) < ((x3_1.length : Int) : Int) := of_decide_eq_true (by with_reducible assumption); obtain ⟨go10, co10, eo10, gb10, gl10, cl10, HG10⟩ := Kd.S_form HO_3.out (by omega); (first | cases eo10 | (injection eo10 with ea_ en_ ec_; (first | subst ea_ | (injection ea_ with ea_; subst ea_)); subst ec_; clear en_)); have GB10 := Aside0.mk gb10; have GG10 := Aside0.mk HG10; clear gb10 gl10 HG10; obtain ⟨_, ce10, hcl10, hM10, hcc10, hfr10, _, _⟩ := Kd.S_elem HO_3.out z62 (x4_1 : Int) p10 q10; obtain ⟨ve10_2, rfl, ge10_2⟩ := k62_openM hM10; have hx10_0 : w11.cell? ⟨go10, (x4_1 : Int).toNat * 3, none⟩ = some (.int .i64 ((rd_T62 x3_1 x4_1).f0)) := hcc10 0 _ rfl; have hx10_1 : w11.cell? ⟨go10, (x4_1 : Int).toNat * 3 + 1, none⟩ = some (.int .i64 ((rd_T62 x3_1 x4_1).f1)) := hcc10 1 _ rfl; have hx10_2 : w11.cell? ⟨go10, (x4_1 : Int).toNat * 3 + 2, none⟩ = some (ve10_2) := hcc10 2 _ rfl; have hf10_0 : w11.frozen? ⟨go10, (x4_1 : Int).toNat * 3, none⟩ = false := hfr10 0; have hf10_1 : w11.frozen? ⟨go10, (x4_1 : Int).toNat * 3 + 1, none⟩ = false := hfr10 1; have hf10_2 : w11.frozen? ⟨go10, (x4_1 : Int).toNat * 3 + 2, none⟩ = false := hfr10 2; clear hcl10 hcc10 hfr10 hM10; replace p10 := eq_true p10; replace q10 := eq_true q10; have n_ := Aside0.mk (Kd.S_mono (ok' := (fun k_ => some k_ ≠ (v138 : Value).ownBlock)) HO_3.out (fun k_ hk => hk.2)); clear HO_3; have HO_3 := n_; clear n_; have HX12 := Aside0.mk (show Kd.S k62 62 w11 w.heap.size (fun k_ => ((fun _ => True)) k_ ∧ ¬ ((fun k_ => some k_ = (v138 : Value).ownBlock)) k_) (.slice (some ⟨go10, 0, none⟩) x3_1.length co10) x3_1 from (by (with_reducible repeat (first | apply Kd.S_alloc | apply Kd.S_drewN | apply Kd.S_drew)); exact Kd.S_mono HO_3.out (fun k_ hk => ⟨trivial, fun e_ => hk e_⟩))); obtain ⟨oki12, ce12, hcl12, hM12, hcc12, hfr12, hoki12, hH12⟩ := Kd.S_elem HX12.out z62 (x4_1 : Int) (of_decide_eq_true (by with_reducible assumption)) (by have h_ : (x4_1 : Int) < ((x3_1.length : Int) : Int) := of_decide_eq_true (by with_reducible assumption); first | exact h_ | (have e_ := (Kd.S_reads' HO_3.out).1; omega) | simpa using h_); obtain ⟨ve12_2, rfl, ge12_2⟩ := k62_openM hM12; have HP12 := Kd.S_seg hH12 (of_decide_eq_true (by with_reducible assumption)) (by have h_ : (x4_1 : Int) < ((x3_1.length : Int) : Int) := of_decide_eq_true (by with_reducible assumption); first | exact h_ | (have e_ := (Kd.S_reads' HO_3.out).1; omega) | simpa using h_) (seg := [.int .i64 t135, .int .i64 t136, v138]) (j := 0) (show 3 ≤ 3 from by decide) (x' := (⟨t135, t136, t137⟩ : S62)) (k62_mkM _ _ _ (⟨t135, t136, t137⟩ : S62) (Kd.R_mono (Kd.R_tight rfl (Kd.R_mono (ok' := fun k_ => ((fun _ => True)) k_ ∧ k_ ≠ go10) (Kd.R_apart' (HO139.out) (Kd.S_typed HO_3.out) (by decide)) (fun k_ hk => ⟨trivial, fun e_ => (hk.2) (by rw [e_]; rfl)⟩))) (fun _ h_ => Or.inr (h_)))) (fun _ hk => hk) (fun k_ hk_ => ((Kd.R_mono (ok' := fun k_ => ((fun _ => True)) k_ ∧ k_ ≠ go10) (Kd.R_apart' (HO139.out) (Kd.S_typed HO_3.out) (by decide)) (fun k_ hk => ⟨trivial, fun e_ => (hk.2) (by rw [e_]; rfl)⟩))).1 k_ hk_.symm); have hx12_0 := hcc12 0 _ rfl; (try simp only [show (k62).sz = 3 from rfl, Nat.mul_one, Nat.add_zero] at hx12_0); have hf12_0 := hfr12 0; (try simp only [show (k62).sz = 3 from rfl, Nat.mul_one, Nat.add_zero] at hf12_0); have hx12_1 := hcc12 1 _ rfl; (try simp only [show (k62).sz = 3 from rfl, Nat.mul_one, Nat.add_zero] at hx12_1); have hf12_1 := hfr12 1; (try simp only [show (k62).sz = 3 from rfl, Nat.mul_one, Nat.add_zero] at hf12_1); have hx12_2 := hcc12 2 _ rfl; (try simp only [show (k62).sz = 3 from rfl, Nat.mul_one, Nat.add_zero] at hx12_2); have hf12_2 := hfr12 2; (try simp only [show (k62).sz = 3 from rfl, Nat.mul_one, Nat.add_zero] at hf12_2); clear hcl12 hcc12 hfr12 hM12 hoki12 hH12) | ((with_reducible refine gate_store (t := 62) (p := 21) rfl ?_); refine store_event (t := 62) (p := 21) (v := ?vo_w13) (w1 := (((w11.setCell ⟨go10, (x4_1 : Int).toNat * 3, none⟩ (.int .i64 t135)).setCell ⟨go10, (x4_1 : Int).toNat * 3 + 1, none⟩ (.int .i64 t136)).setCell ⟨go10, (x4_1 : Int).toNat * 3 + 2, none⟩ (v138))) ?hg ?ho ?hn ?hr ?_; (case ho => rfl); (case hg => rfl); (case hn => rfl); (case hr => obtain ⟨Ao_, co_, eo_⟩ := Kd.R_slice HO139.out; subst eo_; first | (go_simp; done) | (go_simp; rfl)); intro w13 hw; have hg : w11.grownBy w13 (some go10) := (by rw [hw]; exact HP12.2); have hp_ : Kd.S k62 62 w13 w.heap.size (fun _ => True) (.slice (some ⟨go10, 0, none⟩) x3_1.length co10) y140 := (by rw [hw, Ny140.out]; exact HP12.1); clear HP12; have n0_ := Aside0.mk (hp_); have n1_ := Aside0.mk ((by rw [hw]; exact below_set (below_set (below_set (HB.out) GB10.out) GB10.out) GB10.out : Below w.heap.size w w13)); clear HO_3; clear HB; clear HO139; have HO_3 := n0_; have HB := n1_; clear n0_ n1_; clear hg hw hp_))
    go_roundg k1
    case measure => have := HK1.out; omega
    case rel => exact ⟨(y140), (wrap64 (x4_1 + 1)), (by first | rfl | (simp; done) | (simp [*]; done)), H', ⟨by have := HK1.out; omega⟩, ⟨by (with_reducible repeat (first | apply Kd.S_alloc | apply Kd.S_drewN | apply Kd.S_drew)); exact HO_3.out⟩, ⟨by with_reducible repeat (first | exact HB.out | apply below_alloc | apply pw_below_drewN | apply below_drew1)⟩⟩
   ·rw [if_neg c6] at H
    have c6b0 : decide (x4_1 < (l0.length : Int)) = false := decide_eq_false c6
    clear c6
    obtain rfl := Option.some.inj H
    go_wp2
    go_ret
    exact ⟨_, by first | rfl | (simp [errW_none, errW_some] <;> rfl) | (simp [*, errW_none, errW_some] <;> rfl), by (with_reducible repeat (first | apply Kd.S_alloc | apply Kd.S_drewN | apply Kd.S_drew)); exact HO_3.out, by with_reducible repeat (first | exact HB.out | apply below_alloc | apply pw_below_drewN | apply below_drew1)⟩
end Go.Proofs.Ytalafmahgeejiaa.Pa

