-- Written for this claim by a program of this session.
import Derived.Test.YtljboamepnhfpaaCore5
import Derived.Test.YtljboamepnhfpaaKPaxf42
import Derived.Test.YtljboamepnhfpaaKPaxf41
/- EarliestTimes: program and reference answer alike. -/
namespace Go.Proofs.Ytljboamepnhfpaa.Pure
open Go.RowKit Go.Proofs.Ytljboamepnhfpaa.Pa Go.Proofs.YtljboamepnhfpaaW.PrintWords Go.Proofs.YtljboamepnhfpaaW.PrintLast Go.Proofs.YtljboamepnhfpaaW.PrintMore
set_option linter.unusedVariables false
set_option linter.unusedSimpArgs false

/-- A column, each number turned. -/
def colL (T : List (List Int)) (a : Int) : Nat → Nat → List Int
 | 0, _ => []
 | d + 1, j => wrap64 (-(rd (rd_L8 T (j : Int)) a)) :: colL T a d (j + 1)
theorem colL_length (T : List (List Int)) (a : Int) (d : Nat) : ∀ j, (colL T a d j).length = d := by
 induction d with
 | zero => intro j; rfl
 | succ d ih => intro j; simp [colL, ih]
theorem neg_none {x : Int} (h : I64 x) : wrap64 (-x) = -1000000 ↔ x = 1000000 := by
 unfold I64 at h
 unfold wrap64
 omega
theorem early_end (k : Nat) (a : Int) (T : List (List Int)) (o : Bool) (acc : List Int) (j n : Int) (bs : List S45) (h : ¬ j < n) : spec_EarliestTimes.l0 (k + 1) a T o acc j n bs = some (acc, true, n) := by
 simp only [spec_EarliestTimes.l0]
 rw [if_neg h]
theorem early_bad (k : Nat) (a : Int) (T : List (List Int)) (acc : List Int) (j n : Int) (bs : List S45) (h : j < n) : spec_EarliestTimes.l0 (k + 1) a T false acc j n bs = some ([], false, n) := by
 simp only [spec_EarliestTimes.l0]
 rw [if_pos h]
 simp
theorem early_none (k : Nat) (a : Int) (T : List (List Int)) (acc : List Int) (j n : Int) (bs : List S45) (h : j < n) (a0 : 0 ≤ a) (a1 : a < ((rd_L8 T j).length : Int)) (j0 : 0 ≤ j) (j1 : j < (T.length : Int)) (e : rd (rd_L8 T j) a = 1000000) : spec_EarliestTimes.l0 (k + 1) a T true acc j n bs = some ([], false, n) := by
 simp only [spec_EarliestTimes.l0]
 rw [if_pos h, if_pos trivial, if_pos j0, if_pos j1, if_pos a0, if_pos a1, if_pos e]
theorem early_step (k : Nat) (a : Int) (T : List (List Int)) (acc : List Int) (j n : Int) (bs : List S45) (h : j < n) (a0 : 0 ≤ a) (a1 : a < ((rd_L8 T j).length : Int)) (j0 : 0 ≤ j) (j1 : j < (T.length : Int)) (e : ¬ rd (rd_L8 T j) a = 1000000) (hl : acc.length < 17592186044416) (hj : j ≤ 1000) : spec_EarliestTimes.l0 (k + 1) a T true acc j n bs = spec_EarliestTimes.l0 k a T true (acc ++ [wrap64 (-(rd (rd_L8 T j) a))]) (j + 1) n bs := by
 simp only [spec_EarliestTimes.l0]
 rw [if_pos h, if_pos trivial, if_pos j0, if_pos j1, if_pos a0, if_pos a1, if_neg e, if_pos hl, wrap_id (x := j + 1) (by omega) (by omega)]
theorem early_loop {m : Nat} (hn : m ≤ 10) (bs : List S45) {a : Int} (a0 : 0 ≤ a) (a1 : a < (m : Int)) {T : List (List Int)} (hS : Sq m T) (d : Nat) : ∀ (k j : Nat) (acc : List Int), acc.length = j → j + d = m →
  spec_EarliestTimes.l0 (k + d + 1) a T true acc (j : Int) (m : Int) bs = some (if (colL T a d j).contains (-1000000) = true then ([], false, (m : Int)) else (acc ++ colL T a d j, true, (m : Int))) := by
 induction d with
 | zero =>
  intro k j acc ha hj
  rw [early_end (h := by omega), colL, List.append_nil]
  rfl
 | succ d ih =>
  intro k j acc ha hj
  have hr := row_len hS (show j < m by omega)
  have hM := hS.1
  have hc := cell_in hS (show j < m by omega) (show a.toNat < m by omega)
  rw [show ((a.toNat : Nat) : Int) = a by omega] at hc
  have hn' := neg_none hc
  rw [colL, List.contains_cons]
  by_cases e : rd (rd_L8 T (j : Int)) a = 1000000
  ·rw [show k + (d + 1) + 1 = (k + d + 1) + 1 from rfl, early_none (h := by omega) (a0 := a0) (a1 := by omega) (j0 := by omega) (j1 := by omega) (e := e), hn'.2 e]
   simp
  ·rw [show k + (d + 1) + 1 = (k + d + 1) + 1 from rfl, early_step (h := by omega) (a0 := a0) (a1 := by omega) (j0 := by omega) (j1 := by omega) (e := e) (hl := by omega) (hj := by omega), ← Int.natCast_succ]
   rw [ih k (j + 1) _ (by simp [ha]) (by omega)]
   have : ((-1000000 : Int) == wrap64 (-(rd (rd_L8 T (j : Int)) a))) = false := by simpa using fun h => e (hn'.1 h.symm)
   rw [this, Bool.false_or, List.append_assoc, List.singleton_append]
theorem early_impl {m : Nat} (hn : m ≤ 10) {a : Int} (a0 : 0 ≤ a) (a1 : a < (m : Int)) {T : List (List Int)} (hS : Sq m T) (d : Nat) : ∀ (k j : Nat) (acc : List Int), acc.length = j → j + d = m →
  impl_EarliestTimes.l0 (k + 20 + d + 1) a acc T (m : Int) (j : Int) = some (if (acc ++ colL T a d j).contains (-1000000) = true then ([], false) else (acc ++ colL T a d j, true)) := by
 induction d with
 | zero =>
  intro k j acc ha hj
  simp only [Nat.add_zero, impl_EarliestTimes.l0, colL, List.append_nil]
  rw [if_neg (by omega), contains_tells _ (by omega) _ _ (by omega)]
  simp only [Option.bind_some]
  by_cases z : acc.contains (-1000000) = true
  ·rw [if_pos z, if_pos z]
  ·rw [if_neg z, if_neg z]
 | succ d ih =>
  intro k j acc ha hj
  have hr := row_len hS (show j < m by omega)
  have hM := hS.1
  have next := ih k (j + 1) (acc ++ [wrap64 (-(rd (rd_L8 T (j : Int)) a))]) (by simp [ha]) (by omega)
  rw [colL, show acc ++ wrap64 (-(rd (rd_L8 T (j : Int)) a)) :: colL T a d (j + 1) = acc ++ [wrap64 (-(rd (rd_L8 T (j : Int)) a))] ++ colL T a d (j + 1) by simp, ← next, show ((j + 1 : Nat) : Int) = (j : Int) + 1 from by omega, show k + 20 + (d + 1) + 1 = (k + 20 + d + 1) + 1 from rfl]
  generalize k + 20 + d + 1 = q
  simp only [impl_EarliestTimes.l0]
  rw [if_pos (by omega), if_pos (by omega), if_pos (by omega), if_pos a0, if_pos (by omega), if_pos (by omega), wrap_id (x := (j : Int) + 1) (by omega) (by omega)]
theorem early_tells (n : Int) (bs : List S45) (a : Int) : ∃ A K, A.1.length ≤ 10 ∧ ∀ k, K ≤ k → spec_EarliestTimes.f k n bs a = some A ∧ impl_EarliestTimes.f k n bs a = some A := by
 by_cases hok : diagramOk n bs = true
 ·obtain ⟨m, rfl, h0, hn, hl, hb⟩ := dia_ok hok
  obtain ⟨K1, hK1⟩ := implTB h0 hn bs hl hb hok
  obtain ⟨K2, hK2⟩ := spec_tight hn bs hl hb [] (by simp)
  by_cases ea : evOk m a = true
  ·obtain ⟨a0, a1⟩ := evOk_in ea
   by_cases hf : feasible m bs [] = true
   ·have hS := tight_Sq hb []
    have hcl := colL_length (tight m bs []) a m 0
    refine ⟨if (colL (tight m bs []) a m 0).contains (-1000000) = true then ([], false) else (colL (tight m bs []) a m 0, true), max K1 K2 + 100, by split <;> simp; omega, fun k hk => ?_⟩
    have i1 := hK1 k (by omega)
    have i2 := hK2 k (by omega)
    generalize tight m bs [] = T at *
    constructor
    ·unfold spec_EarliestTimes.f spec_EarliestTimes.fB
     rw [spec_ev hn bs hok, ea]
     simp only [Option.bind_some, if_true]
     rw [i2]
     simp only [Option.bind_some, hf]
     have := early_loop hn bs a0 a1 hS m (k - m - 1) 0 [] rfl (by omega)
     rw [show k - m - 1 + m + 1 = k by omega, show ((0 : Nat) : Int) = 0 from rfl, List.nil_append] at this
     rw [this]
     simp only [Option.bind_some]
     by_cases z : (colL T a m 0).contains (-1000000) = true
     ·rw [if_pos z, if_pos z]
     ·rw [if_neg z, if_neg z]
    ·unfold impl_EarliestTimes.f
     rw [i1, if_pos hf]
     simp only [Option.bind_some, if_true]
     rw [impl_ev hn, ea]
     obtain ⟨k, rfl⟩ : ∃ q, k = q + 1 := ⟨k - 1, by omega⟩
     simp only [Option.bind_some, Bool.not_true, impl_EarliestTimes.j0, Bool.false_eq_true, if_false]
     have := early_impl hn a0 a1 hS m (k - 21 - m) 0 [] rfl (by omega)
     rw [show k - 21 - m + 20 + m + 1 = k by omega, show ((0 : Nat) : Int) = 0 from rfl, List.nil_append] at this
     rw [hS.1, this]
   ·have hf' : feasible m bs [] = false := by simpa using hf
    refine ⟨([], false), max K1 K2 + 1, by simp, fun k hk => ?_⟩
    have i1 := hK1 k (by omega)
    have i2 := hK2 k (by omega)
    obtain ⟨k, rfl⟩ : ∃ q, k = q + 1 := ⟨k - 1, by omega⟩
    constructor
    ·unfold spec_EarliestTimes.f spec_EarliestTimes.fB
     rw [spec_ev hn bs hok, ea]
     simp only [Option.bind_some, if_true]
     rw [i2]
     simp only [Option.bind_some, hf']
     rw [early_bad (h := by omega)]
     rfl
    ·unfold impl_EarliestTimes.f
     rw [i1, if_neg hf]
     simp only [Option.bind_some, Bool.false_eq_true, if_false, impl_EarliestTimes.j0, if_true]
  ·have ea' : evOk m a = false := by simpa using ea
   refine ⟨([], false), max K1 K2 + 1, by simp, fun k hk => ?_⟩
   have i1 := hK1 k (by omega)
   obtain ⟨k, rfl⟩ : ∃ q, k = q + 1 := ⟨k - 1, by omega⟩
   constructor
   ·unfold spec_EarliestTimes.f spec_EarliestTimes.fB
    rw [spec_ev hn bs hok, ea']
    simp only [Option.bind_some, Bool.false_eq_true, if_false]
   ·unfold impl_EarliestTimes.f
    rw [i1]
    by_cases hf : feasible m bs [] = true
    ·rw [if_pos hf]
     simp only [Option.bind_some, if_true]
     rw [impl_ev hn, ea']
     simp only [Option.bind_some, Bool.not_false, impl_EarliestTimes.j0, if_true]
    ·rw [if_neg hf]
     simp only [Option.bind_some, Bool.false_eq_true, if_false, impl_EarliestTimes.j0, if_true]
 ·have hok' : diagramOk n bs = false := by simpa using hok
  refine ⟨([], false), 1, by simp, fun k hk => ?_⟩
  obtain ⟨k, rfl⟩ : ∃ q, k = q + 1 := ⟨k - 1, by omega⟩
  constructor
  ·unfold spec_EarliestTimes.f spec_EarliestTimes.fB
   rw [spec_ev_no hok']
   simp only [Option.bind_some, Bool.false_eq_true, if_false]
  ·unfold impl_EarliestTimes.f
   rw [implTB_no hok']
   simp only [Option.bind_some, Bool.false_eq_true, if_false, impl_EarliestTimes.j0, if_true]
end Go.Proofs.Ytljboamepnhfpaa.Pure
