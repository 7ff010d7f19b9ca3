-- Written for this claim by a program of this session.
import Derived.Test.YtljboamepnhfpaaCore5
import Derived.Test.YtljboamepnhfpaaKPaxf29
import Derived.Test.YtljboamepnhfpaaKPaxf27
/- FollowsFrom: program and reference answer alike. -/
namespace Go.Proofs.Ytljboamepnhfpaa.Pure
open Go.RowKit Go.Proofs.Ytljboamepnhfpaa.Pa Go.Proofs.YtljboamepnhfpaaW.PrintWords Go.Proofs.YtljboamepnhfpaaW.PrintLast Go.Proofs.YtljboamepnhfpaaW.PrintMore
set_option linter.unusedVariables false
set_option linter.unusedSimpArgs false

theorem follows_tells (n : Int) (bs : List S45) (b0 b1 b2 : Int) : ∃ A K, ∀ k, K ≤ k → spec_FollowsFrom.f k n bs b0 b1 b2 = some A ∧ impl_FollowsFrom.f k n bs b0 b1 b2 = some A := by
 by_cases hok : diagramOk n bs = true
 ·obtain ⟨m, rfl, h0, hn, hl, hb⟩ := dia_ok hok
  obtain ⟨K1, hK1⟩ := implTB h0 hn bs hl hb hok
  obtain ⟨K2, hK2⟩ := spec_tight hn bs hl hb [] (by simp)
  by_cases hB : boundOk (m : Int) ⟨b0, b1, b2⟩ = true
  ·obtain ⟨c0, c1, c2, c3, _⟩ := boundOk_Bd hB
   simp only at c0 c1 c2 c3
   by_cases hf : feasible m bs [] = true
   ·obtain ⟨t1, t2⟩ := T_row (tight_Sq hb []) c0 c1
    refine ⟨decide (rd (rd_L8 (tight m bs []) b0) b1 ≤ b2), max K1 K2, fun k hk => ?_⟩
    have i1 := hK1 k (by omega)
    have i2 := hK2 k (by omega)
    constructor
    ·unfold spec_FollowsFrom.f spec_FollowsFrom.fB spec_l04Is.f spec_l04Follows.f
     simp only [Option.bind_some, okS]
     rw [if_pos hok, l04Bound_tells _ _ _ _ (by omega) (by omega), boundS, hB, i2]
     simp only [Option.bind_some, if_true, hf]
     rw [if_pos c0, if_pos (by omega), if_pos c2, if_pos (by omega)]
     rfl
    ·unfold impl_FollowsFrom.f
     rw [i1, if_pos hf]
     simp only [Option.bind_some, if_true]
     rw [isBound_tells _ _ _ _ (by omega) (by omega), hB]
     simp only [Option.bind_some, if_true]
     rw [if_pos c0, if_pos (by omega), if_pos c2, if_pos (by omega)]
   ·have hf' : feasible m bs [] = false := by simpa using hf
    refine ⟨false, max K1 K2, fun k hk => ?_⟩
    have i1 := hK1 k (by omega)
    have i2 := hK2 k (by omega)
    constructor
    ·unfold spec_FollowsFrom.f spec_FollowsFrom.fB spec_l04Is.f spec_l04Follows.f
     simp only [Option.bind_some, okS]
     rw [if_pos hok, l04Bound_tells _ _ _ _ (by omega) (by omega), boundS, hB, i2]
     simp only [Option.bind_some, if_true, hf', Bool.false_eq_true, if_false]
    ·unfold impl_FollowsFrom.f
     rw [i1, if_neg hf]
     simp only [Option.bind_some, Bool.false_eq_true, if_false]
  ·have hB' : boundOk (m : Int) ⟨b0, b1, b2⟩ = false := by simpa using hB
   refine ⟨false, max K1 K2, fun k hk => ?_⟩
   have i1 := hK1 k (by omega)
   constructor
   ·unfold spec_FollowsFrom.f spec_FollowsFrom.fB spec_l04Is.f
    simp only [Option.bind_some, okS]
    rw [if_pos hok, l04Bound_tells _ _ _ _ (by omega) (by omega), boundS, hB']
    simp only [Option.bind_some, Bool.false_eq_true, if_false]
   ·unfold impl_FollowsFrom.f
    rw [i1]
    by_cases hf : feasible m bs [] = true
    ·rw [if_pos hf]
     simp only [Option.bind_some, if_true]
     rw [isBound_tells _ _ _ _ (by omega) (by omega), hB']
     simp only [Option.bind_some, Bool.false_eq_true, if_false]
    ·rw [if_neg hf]
     simp only [Option.bind_some, Bool.false_eq_true, if_false]
 ·have hok' : diagramOk n bs = false := by simpa using hok
  refine ⟨false, 0, fun k hk => ?_⟩
  constructor
  ·unfold spec_FollowsFrom.f spec_FollowsFrom.fB spec_l04Is.f
   simp only [Option.bind_some, okS, hok', Bool.false_eq_true, if_false]
  ·unfold impl_FollowsFrom.f
   rw [implTB_no hok']
   simp only [Option.bind_some, Bool.false_eq_true, if_false]

end Go.Proofs.Ytljboamepnhfpaa.Pure
