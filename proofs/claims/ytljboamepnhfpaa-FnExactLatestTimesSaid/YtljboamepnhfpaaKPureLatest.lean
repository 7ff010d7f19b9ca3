-- Written for this claim by a program of this session.
import Derived.Test.YtljboamepnhfpaaCore5
import Derived.Test.YtljboamepnhfpaaKPaxf35
import Derived.Test.YtljboamepnhfpaaKPaxf34
/- LatestTimes: program and reference answer alike. -/
namespace Go.Proofs.Ytljboamepnhfpaa.Pure
open Go.RowKit Go.Proofs.Ytljboamepnhfpaa.Pa Go.Proofs.YtljboamepnhfpaaW.PrintWords Go.Proofs.YtljboamepnhfpaaW.PrintLast Go.Proofs.YtljboamepnhfpaaW.PrintMore
set_option linter.unusedVariables false
set_option linter.unusedSimpArgs false

theorem latest_end (k : Nat) (a : Int) (T : List (List Int)) (o : Bool) (acc : List Int) (j n : Int) (bs : List S45) (h : ¬ j < n) : spec_LatestTimes.l0 (k + 1) a T o acc j n bs = some (acc, true, n) := by
 simp only [spec_LatestTimes.l0]
 rw [if_neg h]
theorem latest_bad (k : Nat) (a : Int) (T : List (List Int)) (acc : List Int) (j n : Int) (bs : List S45) (h : j < n) : spec_LatestTimes.l0 (k + 1) a T false acc j n bs = some ([], false, n) := by
 simp only [spec_LatestTimes.l0]
 rw [if_pos h]
 simp
theorem latest_none (k : Nat) (a : Int) (T : List (List Int)) (acc : List Int) (j n : Int) (bs : List S45) (h : j < n) (a0 : 0 ≤ a) (a1 : a < (T.length : Int)) (j0 : 0 ≤ j) (j1 : j < ((rd_L8 T a).length : Int)) (e : rd (rd_L8 T a) j = 1000000) : spec_LatestTimes.l0 (k + 1) a T true acc j n bs = some ([], false, n) := by
 simp only [spec_LatestTimes.l0]
 rw [if_pos h, if_pos trivial, if_pos a0, if_pos a1, if_pos j0, if_pos j1, if_pos e]
theorem latest_step (k : Nat) (a : Int) (T : List (List Int)) (acc : List Int) (j n : Int) (bs : List S45) (h : j < n) (a0 : 0 ≤ a) (a1 : a < (T.length : Int)) (j0 : 0 ≤ j) (j1 : j < ((rd_L8 T a).length : Int)) (e : ¬ rd (rd_L8 T a) j = 1000000) (hl : acc.length < 17592186044416) (hj : j ≤ 1000) : spec_LatestTimes.l0 (k + 1) a T true acc j n bs = spec_LatestTimes.l0 k a T true (acc ++ [rd (rd_L8 T a) j]) (j + 1) n bs := by
 simp only [spec_LatestTimes.l0]
 rw [if_pos h, if_pos trivial, if_pos a0, if_pos a1, if_pos j0, if_pos j1, if_neg e, if_pos hl, wrap_id (by omega) (by omega)]
theorem latest_loop {m : Nat} (hn : m ≤ 10) (bs : List S45) {a : Int} (a0 : 0 ≤ a) {T : List (List Int)} (a1 : a < (T.length : Int)) (hr : (rd_L8 T a).length = m) (d : Nat) : ∀ (k j : Nat) (acc : List Int), acc = (rd_L8 T a).take j → j + d = m →
  spec_LatestTimes.l0 (k + d + 1) a T true acc (j : Int) (m : Int) bs = some (if ((rd_L8 T a).drop j).contains 1000000 = true then ([], false, (m : Int)) else (rd_L8 T a, true, (m : Int))) := by
 induction d with
 | zero =>
  intro k j acc ha hj
  rw [latest_end (h := by omega), ha, List.take_of_length_le (by omega), List.drop_of_length_le (by omega)]
  rfl
 | succ d ih =>
  intro k j acc ha hj
  have hjl : j < (rd_L8 T a).length := by omega
  have hacc : acc.length = j := by rw [ha, List.length_take]; omega
  rw [List.drop_eq_getElem_cons hjl, List.contains_cons]
  by_cases e : rd (rd_L8 T a) (j : Int) = 1000000
  ·rw [show k + (d + 1) + 1 = (k + d + 1) + 1 from rfl, latest_none (h := by omega) (a0 := a0) (a1 := a1) (j0 := by omega) (j1 := by omega) (e := e)]
   rw [rd_get hjl] at e
   rw [e]
   simp
  ·rw [show k + (d + 1) + 1 = (k + d + 1) + 1 from rfl, latest_step (h := by omega) (a0 := a0) (a1 := a1) (j0 := by omega) (j1 := by omega) (e := e) (hl := by omega) (hj := by omega), ← Int.natCast_succ]
   rw [ih k (j + 1) (acc ++ [rd (rd_L8 T a) (j : Int)]) (by rw [List.take_succ_eq_append_getElem hjl, ← ha, rd_get hjl]) (by omega)]
   rw [rd_get hjl] at e
   have : ((1000000 : Int) == (rd_L8 T a)[j]) = false := by simpa using fun h => e h.symm
   rw [this, Bool.false_or]
theorem latest_tells (n : Int) (bs : List S45) (a : Int) : ∃ A K, A.1.length ≤ 10 ∧ ∀ k, K ≤ k → spec_LatestTimes.f k n bs a = some A ∧ impl_LatestTimes.f k n bs a = some A := by
 by_cases hok : diagramOk n bs = true
 ·obtain ⟨m, rfl, h0, hn, hl, hb⟩ := dia_ok hok
  obtain ⟨K1, hK1⟩ := implTB h0 hn bs hl hb hok
  obtain ⟨K2, hK2⟩ := spec_tight hn bs hl hb [] (by simp)
  by_cases ea : evOk m a = true
  ·obtain ⟨a0, a1⟩ := evOk_in ea
   by_cases hf : feasible m bs [] = true
   ·have hS := tight_Sq hb []
    obtain ⟨t1, t2⟩ := T_row hS a0 a1
    refine ⟨if (rd_L8 (tight m bs []) a).contains 1000000 = true then ([], false) else (rd_L8 (tight m bs []) a, true), max K1 K2 + 100, by split <;> simp; omega, fun k hk => ?_⟩
    have i1 := hK1 k (by omega)
    have i2 := hK2 k (by omega)
    generalize tight m bs [] = T at *
    constructor
    ·unfold spec_LatestTimes.f spec_LatestTimes.fB
     rw [spec_ev hn bs hok, ea]
     simp only [Option.bind_some, if_true]
     rw [i2]
     simp only [Option.bind_some, hf]
     have := latest_loop hn bs a0 (T := T) (by omega) (by omega) m (k - m - 1) 0 [] rfl (by omega)
     rw [show k - m - 1 + m + 1 = k by omega, show ((0 : Nat) : Int) = 0 from rfl, List.drop_zero] at this
     rw [this]
     simp only [Option.bind_some]
     by_cases z : (rd_L8 T a).contains 1000000 = true
     ·rw [if_pos z, if_pos z]
     ·rw [if_neg z, if_neg z]
    ·unfold impl_LatestTimes.f
     rw [i1, if_pos hf]
     simp only [Option.bind_some, if_true]
     rw [impl_ev hn, ea]
     simp only [Option.bind_some, if_true]
     rw [if_pos a0, if_pos (by omega), contains_tells _ (by omega) _ _ (by omega)]
     simp only [Option.bind_some]
     by_cases z : (rd_L8 T a).contains 1000000 = true
     ·rw [if_pos z, if_pos z]
     ·rw [if_neg z, if_neg z]
   ·have hf' : feasible m bs [] = false := by simpa using hf
    refine ⟨([], false), max K1 K2 + 1, by simp, fun k hk => ?_⟩
    have i1 := hK1 k (by omega)
    have i2 := hK2 k (by omega)
    constructor
    ·unfold spec_LatestTimes.f spec_LatestTimes.fB
     rw [spec_ev hn bs hok, ea]
     simp only [Option.bind_some, if_true]
     rw [i2]
     simp only [Option.bind_some, hf']
     obtain ⟨k, rfl⟩ : ∃ q, k = q + 1 := ⟨k - 1, by omega⟩
     rw [latest_bad (h := by omega)]
     rfl
    ·unfold impl_LatestTimes.f
     rw [i1, if_neg hf]
     simp only [Option.bind_some, Bool.false_eq_true, if_false]
  ·have ea' : evOk m a = false := by simpa using ea
   refine ⟨([], false), max K1 K2 + 1, by simp, fun k hk => ?_⟩
   have i1 := hK1 k (by omega)
   constructor
   ·unfold spec_LatestTimes.f spec_LatestTimes.fB
    rw [spec_ev hn bs hok, ea']
    simp only [Option.bind_some, Bool.false_eq_true, if_false]
   ·unfold impl_LatestTimes.f
    rw [i1]
    by_cases hf : feasible m bs [] = true
    ·rw [if_pos hf]
     simp only [Option.bind_some, if_true]
     rw [impl_ev hn, ea']
     simp only [Option.bind_some, Bool.false_eq_true, if_false]
    ·rw [if_neg hf]
     simp only [Option.bind_some, Bool.false_eq_true, if_false]
 ·have hok' : diagramOk n bs = false := by simpa using hok
  refine ⟨([], false), 1, by simp, fun k hk => ?_⟩
  constructor
  ·unfold spec_LatestTimes.f spec_LatestTimes.fB
   rw [spec_ev_no hok']
   simp only [Option.bind_some, Bool.false_eq_true, if_false]
  ·unfold impl_LatestTimes.f
   rw [implTB_no hok']
   simp only [Option.bind_some, Bool.false_eq_true, if_false]
end Go.Proofs.Ytljboamepnhfpaa.Pure
