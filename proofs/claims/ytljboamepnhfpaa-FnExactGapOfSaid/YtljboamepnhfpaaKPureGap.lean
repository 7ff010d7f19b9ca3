-- Written for this claim by a program of this session.
import Derived.Test.YtljboamepnhfpaaCore5
import Derived.Test.YtljboamepnhfpaaKPaxf31
import Derived.Test.YtljboamepnhfpaaKPaxf30
/- GapOf: program and reference answer alike. -/
namespace Go.Proofs.Ytljboamepnhfpaa.Pure
open Go.RowKit Go.Proofs.Ytljboamepnhfpaa.Pa Go.Proofs.YtljboamepnhfpaaW.PrintWords Go.Proofs.YtljboamepnhfpaaW.PrintLast Go.Proofs.YtljboamepnhfpaaW.PrintMore
set_option linter.unusedVariables false
set_option linter.unusedSimpArgs false

theorem gap_tells (n : Int) (bs : List S45) (a c : Int) : ∃ A K, ∀ k, K ≤ k → spec_GapOf.f k n bs a c = some A ∧ impl_GapOf.f k n bs a c = some A := by
 by_cases hok : diagramOk n bs = true
 ·obtain ⟨m, rfl, h0, hn, hl, hb⟩ := dia_ok hok
  obtain ⟨K1, hK1⟩ := implTB h0 hn bs hl hb hok
  obtain ⟨K2, hK2⟩ := spec_tight hn bs hl hb [] (by simp)
  by_cases he : evOk m a = true ∧ evOk m c = true
  ·obtain ⟨ea, ec⟩ := he
   obtain ⟨a0, a1⟩ := evOk_in ea
   obtain ⟨c0, c1⟩ := evOk_in ec
   by_cases hf : feasible m bs [] = true
   ·obtain ⟨t1, t2⟩ := T_row (tight_Sq hb []) a0 a1
    obtain ⟨_, t4⟩ := T_row (tight_Sq hb []) c0 c1
    refine ⟨if rd (rd_L8 (tight m bs []) a) c = 1000000 then (0, 0, false) else if rd (rd_L8 (tight m bs []) c) a = 1000000 then (0, 0, false) else (wrap64 (-(rd (rd_L8 (tight m bs []) c) a)), rd (rd_L8 (tight m bs []) a) c, true), max K1 K2 + 1, fun k hk => ?_⟩
    obtain ⟨k, rfl⟩ : ∃ q, k = q + 1 := ⟨k - 1, by omega⟩
    have i1 := hK1 (k + 1) (by omega)
    have i2 := hK2 k (by omega)
    generalize tight m bs [] = T at *
    constructor
    ·unfold spec_GapOf.f spec_GapOf.fB
     rw [spec_ev hn bs hok, ea]
     simp only [Option.bind_some, if_true]
     rw [spec_ev hn bs hok, ec]
     simp only [Option.bind_some, Bool.not_true, spec_GapOf.j0, Bool.false_eq_true, if_false]
     rw [i2]
     simp only [Option.bind_some, hf, if_true]
     rw [if_pos a0, if_pos (by omega), if_pos c0, if_pos (by omega)]
     by_cases z1 : rd (rd_L8 T a) c = 1000000
     ·rw [if_pos z1, if_pos z1]; rfl
     ·rw [if_neg z1, if_neg z1, if_pos (by omega), if_pos (by omega)]
      by_cases z2 : rd (rd_L8 T c) a = 1000000
      ·rw [if_pos z2, if_pos z2]; rfl
      ·rw [if_neg z2, if_neg z2]; rfl
    ·unfold impl_GapOf.f
     rw [i1, if_pos hf]
     simp only [Option.bind_some, if_true]
     rw [impl_ev hn, ea]
     simp only [Option.bind_some, if_true]
     rw [impl_ev hn, ec]
     simp only [Option.bind_some, if_true]
     rw [if_pos a0, if_pos (by omega), if_pos c0, if_pos (by omega)]
     by_cases z1 : rd (rd_L8 T a) c = 1000000
     ·rw [if_pos z1, if_pos z1]
     ·rw [if_neg z1, if_neg z1, if_pos (by omega), if_pos (by omega)]
      by_cases z2 : rd (rd_L8 T c) a = 1000000
      ·rw [if_pos z2, if_pos z2]
      ·rw [if_neg z2, if_neg z2]
   ·have hf' : feasible m bs [] = false := by simpa using hf
    refine ⟨(0, 0, false), max K1 K2 + 1, fun k hk => ?_⟩
    obtain ⟨k, rfl⟩ : ∃ q, k = q + 1 := ⟨k - 1, by omega⟩
    have i1 := hK1 (k + 1) (by omega)
    have i2 := hK2 k (by omega)
    constructor
    ·unfold spec_GapOf.f spec_GapOf.fB
     rw [spec_ev hn bs hok, ea]
     simp only [Option.bind_some, if_true]
     rw [spec_ev hn bs hok, ec]
     simp only [Option.bind_some, Bool.not_true, spec_GapOf.j0, Bool.false_eq_true, if_false]
     rw [i2]
     simp only [Option.bind_some, hf', Bool.false_eq_true, if_false]
    ·unfold impl_GapOf.f
     rw [i1, if_neg hf]
     simp only [Option.bind_some, Bool.false_eq_true, if_false]
  ·refine ⟨(0, 0, false), max K1 K2 + 1, fun k hk => ?_⟩
   obtain ⟨k, rfl⟩ : ∃ q, k = q + 1 := ⟨k - 1, by omega⟩
   have i1 := hK1 (k + 1) (by omega)
   constructor
   ·unfold spec_GapOf.f spec_GapOf.fB
    rw [spec_ev hn bs hok]
    simp only [Option.bind_some]
    by_cases ea : evOk m a = true
    ·have ec : evOk m c = false := by
      cases h : evOk m c with
      | false => rfl
      | true => exact absurd ⟨ea, h⟩ he
     rw [if_pos ea, spec_ev hn bs hok, ec]
     simp [spec_GapOf.j0]
    ·rw [if_neg ea]
     simp [spec_GapOf.j0]
   ·unfold impl_GapOf.f
    rw [i1]
    by_cases hf : feasible m bs [] = true
    ·rw [if_pos hf]
     simp only [Option.bind_some, if_true]
     rw [impl_ev hn]
     simp only [Option.bind_some]
     by_cases ea : evOk m a = true
     ·have ec : evOk m c = false := by
       cases h : evOk m c with
       | false => rfl
       | true => exact absurd ⟨ea, h⟩ he
      rw [if_pos ea, impl_ev hn, ec]
      simp only [Option.bind_some, Bool.false_eq_true, if_false]
     ·rw [if_neg ea]
    ·rw [if_neg hf]
     simp only [Option.bind_some, Bool.false_eq_true, if_false]
 ·have hok' : diagramOk n bs = false := by simpa using hok
  refine ⟨(0, 0, false), 1, fun k hk => ?_⟩
  obtain ⟨k, rfl⟩ : ∃ q, k = q + 1 := ⟨k - 1, by omega⟩
  constructor
  ·unfold spec_GapOf.f spec_GapOf.fB
   rw [spec_ev_no hok']
   simp [spec_GapOf.j0]
  ·unfold impl_GapOf.f
   rw [implTB_no hok']
   simp only [Option.bind_some, Bool.false_eq_true, if_false]
end Go.Proofs.Ytljboamepnhfpaa.Pure
