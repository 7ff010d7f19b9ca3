-- Written for this claim by a program of this session.
import Derived.Test.YtljboamepnhfpaaCore5
import Derived.Test.YtljboamepnhfpaaKPaxf33
import Derived.Test.YtljboamepnhfpaaKPaxf32
/- RoomOf: program and reference answer alike. -/
namespace Go.Proofs.Ytljboamepnhfpaa.Pure
open Go.RowKit Go.Proofs.Ytljboamepnhfpaa.Pa Go.Proofs.YtljboamepnhfpaaW.PrintWords Go.Proofs.YtljboamepnhfpaaW.PrintLast Go.Proofs.YtljboamepnhfpaaW.PrintMore
set_option linter.unusedVariables false
set_option linter.unusedSimpArgs false

theorem room_tells (n : Int) (bs : List S45) (a : Int) : ∃ A K, ∀ k, K ≤ k → spec_RoomOf.f k n bs a = some A ∧ impl_RoomOf.f k n bs a = some A := by
 by_cases hok : diagramOk n bs = true
 ·obtain ⟨m, rfl, h0, hn, hl, hb⟩ := dia_ok hok
  obtain ⟨K1, hK1⟩ := implTB h0 hn bs hl hb hok
  obtain ⟨K2, hK2⟩ := spec_tight hn bs hl hb [] (by simp)
  have win : impl_within.f a 0 (wrap64 ((bs.length : Int) - 1)) = some (decide (0 ≤ a ∧ a < (bs.length : Int))) ∧ spec_l00In.f a 0 (wrap64 ((bs.length : Int) - 1)) = some (decide (0 ≤ a ∧ a < (bs.length : Int))) := by
   unfold impl_within.f spec_l00In.f
   rw [wrap_id (by omega) (by omega)]
   by_cases h : a ≥ 0
   ·rw [if_pos h]
    have e : decide (a ≤ (bs.length : Int) - 1) = decide (0 ≤ a ∧ a < (bs.length : Int)) := decide_eq_decide.mpr (by omega)
    rw [e]
    exact ⟨rfl, rfl⟩
   ·rw [if_neg h]
    have e : decide (0 ≤ a ∧ a < (bs.length : Int)) = false := decide_eq_false (by omega)
    rw [e]
    exact ⟨rfl, rfl⟩
  by_cases ha : 0 ≤ a ∧ a < (bs.length : Int)
  ·rw [decide_eq_true ha] at win
   obtain ⟨a0, a1⟩ := ha
   have hlt : a.toNat < bs.length := by omega
   have hr : rd_T45 bs a = bs[a.toNat] := by
    have := rdB_get hlt
    rwa [show ((a.toNat : Nat) : Int) = a by omega] at this
   obtain ⟨c0, c1, c2, c3, _⟩ := hb _ (List.getElem_mem hlt)
   rw [← hr] at c0 c1 c2 c3
   by_cases hf : feasible m bs [] = true
   ·obtain ⟨t1, t2⟩ := T_row (tight_Sq hb []) c2 c3
    refine ⟨if rd (rd_L8 (tight m bs []) (rd_T45 bs a).f1) (rd_T45 bs a).f0 = 1000000 then (1000000, true) else (wrap64 ((rd_T45 bs a).f2 + rd (rd_L8 (tight m bs []) (rd_T45 bs a).f1) (rd_T45 bs a).f0), true), max K1 K2 + 1, fun k hk => ?_⟩
    obtain ⟨k, rfl⟩ : ∃ q, k = q + 1 := ⟨k - 1, by omega⟩
    have i1 := hK1 (k + 1) (by omega)
    have i2 := hK2 k (by omega)
    generalize tight m bs [] = T at *
    constructor
    ·unfold spec_RoomOf.f spec_RoomOf.fB spec_l04Is.f
     simp only [Option.bind_some, okS]
     rw [if_pos hok, win.2]
     simp only [Option.bind_some, Bool.not_true, spec_RoomOf.j0, Bool.false_eq_true, if_false]
     rw [i2]
     simp only [Option.bind_some, hf, if_true]
     rw [if_pos a0, if_pos a1, if_pos c2, if_pos (by omega), if_pos c0, if_pos (by omega)]
     by_cases z1 : rd (rd_L8 T (rd_T45 bs a).f1) (rd_T45 bs a).f0 = 1000000
     ·rw [if_pos z1, if_pos z1]; rfl
     ·rw [if_neg z1, if_neg z1]; rfl
    ·unfold impl_RoomOf.f
     rw [i1, if_pos hf]
     simp only [Option.bind_some, if_true]
     rw [win.1]
     simp only [Option.bind_some, Bool.not_true, impl_RoomOf.j0, Bool.false_eq_true, if_false]
     rw [if_pos a0, if_pos a1, if_pos c2, if_pos (by omega), if_pos c0, if_pos (by omega)]
     by_cases z1 : rd (rd_L8 T (rd_T45 bs a).f1) (rd_T45 bs a).f0 = 1000000
     ·rw [if_pos z1, if_pos z1]
     ·rw [if_neg z1, if_neg z1]
   ·have hf' : feasible m bs [] = false := by simpa using hf
    refine ⟨(0, false), max K1 K2 + 1, fun k hk => ?_⟩
    obtain ⟨k, rfl⟩ : ∃ q, k = q + 1 := ⟨k - 1, by omega⟩
    have i1 := hK1 (k + 1) (by omega)
    have i2 := hK2 k (by omega)
    constructor
    ·unfold spec_RoomOf.f spec_RoomOf.fB spec_l04Is.f
     simp only [Option.bind_some, okS]
     rw [if_pos hok, win.2]
     simp only [Option.bind_some, Bool.not_true, spec_RoomOf.j0, Bool.false_eq_true, if_false]
     rw [i2]
     simp only [Option.bind_some, hf', Bool.false_eq_true, if_false]
    ·unfold impl_RoomOf.f
     rw [i1, if_neg hf]
     simp only [Option.bind_some, Bool.false_eq_true, if_false, impl_RoomOf.j0, if_true]
  ·rw [decide_eq_false ha] at win
   refine ⟨(0, false), max K1 K2 + 1, fun k hk => ?_⟩
   obtain ⟨k, rfl⟩ : ∃ q, k = q + 1 := ⟨k - 1, by omega⟩
   have i1 := hK1 (k + 1) (by omega)
   constructor
   ·unfold spec_RoomOf.f spec_RoomOf.fB spec_l04Is.f
    simp only [Option.bind_some, okS]
    rw [if_pos hok, win.2]
    simp only [Option.bind_some, Bool.not_false, spec_RoomOf.j0, if_true]
   ·unfold impl_RoomOf.f
    rw [i1]
    by_cases hf : feasible m bs [] = true
    ·rw [if_pos hf]
     simp only [Option.bind_some, if_true]
     rw [win.1]
     simp only [Option.bind_some, Bool.not_false, impl_RoomOf.j0, if_true]
    ·rw [if_neg hf]
     simp only [Option.bind_some, Bool.false_eq_true, if_false, impl_RoomOf.j0, if_true]
 ·have hok' : diagramOk n bs = false := by simpa using hok
  refine ⟨(0, false), 1, fun k hk => ?_⟩
  obtain ⟨k, rfl⟩ : ∃ q, k = q + 1 := ⟨k - 1, by omega⟩
  constructor
  ·unfold spec_RoomOf.f spec_RoomOf.fB spec_l04Is.f
   simp only [Option.bind_some, okS, hok', Bool.false_eq_true, if_false, spec_RoomOf.j0, if_true]
  ·unfold impl_RoomOf.f
   rw [implTB_no hok']
   simp only [Option.bind_some, Bool.false_eq_true, if_false, impl_RoomOf.j0, if_true]
end Go.Proofs.Ytljboamepnhfpaa.Pure
