-- Written for this claim by a program of this session.
import Derived.Test.YtalafmahgeejiaaCore4
import Derived.Test.YtalafmahgeejiaaKPaxf20
import Derived.Test.YtalafmahgeejiaaKPaxf19
/- The delays between two registers: the program's and the reference's. -/
namespace Go.Proofs.Ytalafmahgeejiaa.Pure
open Go.RowKit Go.Proofs.Ytalafmahgeejiaa.Pa Go.Proofs.YtalafmahgeejiaaW.PrintWords Go.Proofs.YtalafmahgeejiaaW.PrintLast
set_option linter.unusedVariables false
set_option linter.unusedSimpArgs false

def wayR : Way → Int × Int × Bool
 | none => (0, 0, false)
 | some p => (p.1, p.2, true)
/-- What both answer. -/
def pdR (n : Int) (gates : List S62) (data : List Int) (a3 a4 a5 a6 a b : Int) : Int × Int × Bool :=
 if validB n gates data a3 a4 a5 a6 = true ∧ (0 ≤ a ∧ a ≤ n - 1) ∧ (0 ≤ b ∧ b ≤ n - 1) then wayR (pathO n gates data a5 a6 a b) else (0, 0, false)
theorem specPD (n : Int) (gates : List S62) (data : List Int) (a3 a4 a5 a6 a b : Int) (hw : ∀ g ∈ gates, g.f2.length ≤ 1048576) (hd : data.length ≤ 1048576) :
  Ev (fun k => spec_PathDelays.f k n gates data a3 a4 a5 a6 a b) (pdR n gates data a3 a4 a5 a6 a b) := by
 unfold pdR
 cases hv : validB n gates data a3 a4 a5 a6 with
 | false =>
  refine ⟨2500000, fun k hk => ?_⟩
  show spec_PathDelays.f k n gates data a3 a4 a5 a6 a b = _
  unfold spec_PathDelays.f spec_PathDelays.fB spec_l06Both.f
  rw [is_tells n gates data a3 a4 a5 a6, hv]
  simp
 | true =>
  have C := circ_of n gates data a3 a4 a5 a6 hw hv
  have R := C.ready hw
  have hn := C.n0
  have hn1 := C.n1
  have wn : wrap64 (n - 1) = n - 1 := wrap_id (by omega) (by omega)
  by_cases ha : 0 ≤ a ∧ a ≤ n - 1
  ·by_cases hb : 0 ≤ b ∧ b ≤ n - 1
   ·obtain ⟨x, y, ⟨K, hK⟩, hxy⟩ := path_tells n a3 a4 a5 a6 gates data R.gs R.dlen R.node a b hb.1 (by omega)
    refine ⟨K + 2500000, fun k hk => ?_⟩
    have hk2 : spec_l06Path.f k n gates data a3 a4 a5 a6 a b = _ := hK k (by omega)
    show spec_PathDelays.f k n gates data a3 a4 a5 a6 a b = _
    unfold spec_PathDelays.f spec_PathDelays.fB spec_l06Both.f
    rw [is_tells n gates data a3 a4 a5 a6, hv]
    simp only [Option.bind_some, if_true]
    rw [in_tells, in_tells, wn, inB_iff.mpr ha, inB_iff.mpr hb]
    simp only [Option.bind_some, if_true]
    rw [hk2, if_pos ⟨trivial, ha, hb⟩]
    simp only [Option.bind_some]
    cases hp : pathO n gates data a5 a6 a b with
    | none => simp [wayR]
    | some p =>
     obtain ⟨rfl, rfl⟩ := hxy p hp
     simp [wayR]
   ·refine ⟨2500000, fun k hk => ?_⟩
    show spec_PathDelays.f k n gates data a3 a4 a5 a6 a b = _
    unfold spec_PathDelays.f spec_PathDelays.fB spec_l06Both.f
    rw [is_tells n gates data a3 a4 a5 a6, hv]
    simp only [Option.bind_some, if_true]
    rw [in_tells, in_tells, wn, inB_iff.mpr ha, Bool.eq_false_iff.mpr (fun h => hb (inB_iff.mp h)), if_neg (fun h => hb h.2.2)]
    simp
  ·refine ⟨2500000, fun k hk => ?_⟩
   show spec_PathDelays.f k n gates data a3 a4 a5 a6 a b = _
   unfold spec_PathDelays.f spec_PathDelays.fB spec_l06Both.f
   rw [is_tells n gates data a3 a4 a5 a6, hv]
   simp only [Option.bind_some, if_true]
   rw [in_tells, wn, Bool.eq_false_iff.mpr (fun h => ha (inB_iff.mp h)), if_neg (fun h => ha h.2.1)]
   simp
/-- The first link between two registers. -/
def findL (a b : Int) : List S72 → Int × Int × Bool
 | [] => (0, 0, false)
 | x :: l => if x.f0 = a ∧ x.f1 = b then (x.f2, x.f3, true) else findL a b l
theorem rdL {l : List S72} {i : Nat} (h : i < l.length) : rd_T72 l (i : Int) = l[i] := by
 unfold rd_T72
 rw [List.getD_eq_getElem?_getD, Int.toNat_natCast, List.getElem?_eq_getElem h]
 rfl
theorem find_loop (a b : Int) (ls : List S72) (hl : ls.length ≤ 1000) (d : Nat) : ∀ (k i : Nat), i + d = ls.length → d < k → impl_PathDelays.l0 k a b ls (ls.length : Int) (i : Int) = some (findL a b (ls.drop i)) := by
 induction d with
 | zero =>
  intro k i h hk
  obtain ⟨k, rfl⟩ : ∃ m, k = m + 1 := ⟨k - 1, by omega⟩
  simp only [impl_PathDelays.l0]
  rw [if_neg (by omega), List.drop_of_length_le (by omega)]
  rfl
 | succ d ih =>
  intro k i h hk
  obtain ⟨k, rfl⟩ : ∃ m, k = m + 1 := ⟨k - 1, by omega⟩
  have hi : i < ls.length := by omega
  simp only [impl_PathDelays.l0]
  rw [if_pos (by omega), if_pos (by omega), if_pos (by omega), rdL hi, List.drop_eq_getElem_cons hi, wrap_id (x := (i : Int) + 1) (by omega) (by omega)]
  have := ih k (i + 1) (by omega) (by omega)
  push_cast at this
  rw [this]
  simp only [findL]
  by_cases h1 : ls[i].f0 = a
  ·rw [if_pos h1]
   by_cases h2 : ls[i].f1 = b
   ·rw [if_pos h2, if_pos ⟨h1, h2⟩]
   ·rw [if_neg h2, if_neg (fun h => h2 h.2)]
  ·rw [if_neg h1, if_neg (fun h => h1 h.1)]
theorem find_none (a b : Int) (l : List S72) (h : ∀ x ∈ l, ¬ (x.f0 = a ∧ x.f1 = b)) : findL a b l = (0, 0, false) := by
 induction l with
 | nil => rfl
 | cons x l ih =>
  simp only [findL]
  rw [if_neg (h x (by simp)), ih (fun y hy => h y (by simp [hy]))]
theorem find_some (a b u v : Int) (l : List S72) (h : ∀ x ∈ l, x.f0 = a → x.f1 = b → x.f2 = u ∧ x.f3 = v) (hm : ∃ x ∈ l, x.f0 = a ∧ x.f1 = b) : findL a b l = (u, v, true) := by
 induction l with
 | nil => obtain ⟨x, hx, _⟩ := hm; simp at hx
 | cons x l ih =>
  simp only [findL]
  by_cases h1 : x.f0 = a ∧ x.f1 = b
  ·rw [if_pos h1]
   have := h x (by simp) h1.1 h1.2
   rw [this.1, this.2]
  ·rw [if_neg h1]
   refine ih (fun y hy => h y (by simp [hy])) ?_
   obtain ⟨y, hy, he⟩ := hm
   rcases List.mem_cons.mp hy with rfl | hy
   ·exact absurd he h1
   ·exact ⟨y, hy, he⟩
theorem find_links (P : Int → Int → Way) (n : Nat) (a b : Int) : findL a b (linksOf P n) = if (0 ≤ a ∧ a ≤ (n : Int) - 1) ∧ (0 ≤ b ∧ b ≤ (n : Int) - 1) then wayR (P a b) else (0, 0, false) := by
 by_cases h : (0 ≤ a ∧ a ≤ (n : Int) - 1) ∧ (0 ≤ b ∧ b ≤ (n : Int) - 1)
 ·rw [if_pos h]
  cases hp : P a b with
  | none =>
   refine find_none a b _ fun x hx he => ?_
   have := (linksOf_mem P n x hx).2.2.2.2
   rw [he.1, he.2, hp] at this
   simp at this
  | some p =>
   refine find_some a b p.1 p.2 _ (fun x hx h1 h2 => ?_) ?_
   ·have := (linksOf_mem P n x hx).2.2.2.2
    rw [h1, h2, hp] at this
    simp only [Option.some.injEq] at this
    rw [this]
    exact ⟨rfl, rfl⟩
   ·obtain ⟨i, rfl⟩ : ∃ i : Nat, a = (i : Int) := ⟨a.toNat, by omega⟩
    obtain ⟨j, rfl⟩ : ∃ j : Nat, b = (j : Int) := ⟨b.toNat, by omega⟩
    exact ⟨_, mem_linksOf P n p i j (by omega) (by omega) hp, rfl, rfl⟩
 ·rw [if_neg h]
  refine find_none a b _ fun x hx he => h ?_
  have := linksOf_mem P n x hx
  omega
theorem linksFrom_len (P : Int → Int → Way) (n : Nat) (d : Nat) : ∀ a, (linksFrom P n a d).length ≤ d * n := by
 induction d with
 | zero => intro a; simp [linksFrom]
 | succ d ih =>
  intro a
  have := ih (a + 1)
  have h2 := linksTo_len P (a : Int) n 0
  simp only [linksFrom, List.length_append]
  rw [Nat.succ_mul]
  omega
theorem linksOf_len (P : Int → Int → Way) (n : Nat) (h : n ≤ 6) : (linksOf P n).length ≤ 36 := by
 have := linksFrom_len P n n 0
 have h2 : n * n ≤ 6 * 6 := Nat.mul_le_mul h h
 unfold linksOf
 omega
theorem implPD (n : Int) (gates : List S62) (data : List Int) (a3 a4 a5 a6 a b : Int) (hw : ∀ g ∈ gates, g.f2.length ≤ 1048576) (hd : data.length ≤ 1048576) :
  Ev (fun k => impl_PathDelays.f k n gates data a3 a4 a5 a6 a b) (pdR n gates data a3 a4 a5 a6 a b) := by
 unfold pdR
 cases hv : validB n gates data a3 a4 a5 a6 with
 | false =>
  refine ⟨2500000, fun k hk => ?_⟩
  show impl_PathDelays.f k n gates data a3 a4 a5 a6 a b = _
  unfold impl_PathDelays.f
  rw [valid_tells n gates data a3 a4 a5 a6, hv]
  simp
 | true =>
  have C := circ_of n gates data a3 a4 a5 a6 hw hv
  have R := C.ready hw
  have hn := C.n0
  have hn1 := C.n1
  obtain ⟨K, hK⟩ := links_tells n a3 a4 a5 a6 gates data R
  have hlen := linksOf_len (pathO n gates data a5 a6) n.toNat (by omega)
  refine ⟨K + 2500000, fun k hk => ?_⟩
  have hk2 : impl_Circuit_links.f k n gates data a3 a4 a5 a6 = _ := hK k (by omega)
  show impl_PathDelays.f k n gates data a3 a4 a5 a6 a b = _
  unfold impl_PathDelays.f
  rw [valid_tells n gates data a3 a4 a5 a6, hv]
  simp only [Option.bind_some, if_true]
  rw [hk2]
  simp only [Option.bind_some]
  have hf := find_loop a b (linksOf (pathO n gates data a5 a6) n.toNat) (by omega) _ k 0 (Nat.zero_add _) (by omega)
  rw [show ((0 : Nat) : Int) = 0 from rfl, List.drop_zero, find_links, show ((n.toNat : Nat) : Int) = n by omega] at hf
  rw [hf]
  congr 1
  by_cases h : (0 ≤ a ∧ a ≤ n - 1) ∧ 0 ≤ b ∧ b ≤ n - 1
  ·rw [if_pos h, if_pos ⟨trivial, h.1, h.2⟩]
  ·rw [if_neg h, if_neg (fun x => h x.2)]
end Go.Proofs.Ytalafmahgeejiaa.Pure
