/- TightestBounds answers as the reference does, for all arguments, and its answers share no memory. -/
import Derived.Test.YtljboamepnhfpaaPaxf10
import Derived.Test.YtljboamepnhfpaaCore6
namespace Go.Proofs.Ytljboamepnhfpaa.Pure
open Go.RowKit Go.Proofs.Ytljboamepnhfpaa.Pa Go.Proofs.YtljboamepnhfpaaW.PrintWords Go.Proofs.YtljboamepnhfpaaW.PrintLast
set_option linter.unusedVariables false
set_option linter.unusedSimpArgs false

theorem tb_tells (n : Int) (bs : List S45) : ∃ (A : List (List Int) × Bool) (K : Nat), A.1.length ≤ 10 ∧ (∀ r ∈ A.1, r.length ≤ 10) ∧ ∀ k, K ≤ k → spec_TightestBounds.f k n bs = some A ∧ impl_TightestBounds.f k n bs = some A := by
  by_cases hok : diagramOk n bs = true
  · obtain ⟨m, rfl, h0, hn, hl, hb⟩ := dia_ok hok
    obtain ⟨K1, hK1⟩ := implTB h0 hn bs hl hb hok
    obtain ⟨K2, hK2⟩ := spec_tight hn bs hl hb [] (by simp)
    have hS := tight_Sq hb []
    have hs1 : (tight m bs []).length ≤ 10 := by have := hS.1; omega
    have hs2 : ∀ r ∈ tight m bs [], r.length ≤ 10 := fun r hr => by have := hS.2 r hr; omega
    refine ⟨if feasible m bs [] = true then (tight m bs [], true) else ([], false), max K1 K2, by split <;> simp [hs1], by split <;> simp_all, fun k hk => ⟨?_, hK1 k (by omega)⟩⟩
    have i2 := hK2 k (by omega)
    unfold spec_TightestBounds.f spec_l04Is.f
    rw [okS, hok]
    simp only [Option.bind_some, if_true]
    rw [i2]
    simp only [Option.bind_some]
    split <;> rfl
  · rw [Bool.not_eq_true] at hok
    refine ⟨([], false), 0, by simp, by simp, fun k hk => ⟨?_, implTB_no hok k⟩⟩
    unfold spec_TightestBounds.f spec_l04Is.f
    rw [okS, hok]
    simp
theorem FnExactTightestBounds : laws_FnExactTightestBounds.Pure := by
  intro n l _ hl
  by_cases h : 1048576 < l.length
  · refine ⟨0, ?_⟩
    unfold laws_FnExactTightestBounds.f
    rw [szDia n l hl.1, if_pos h]
    simp only [Option.bind_some]
    rw [if_pos (by omega)]
  · obtain ⟨A, K, hA, hA2, hK⟩ := tb_tells n (l.map convB)
    obtain ⟨q, hq⟩ : ∃ q, max K (l.length + 100) ≤ q := ⟨_, Nat.le_refl _⟩
    refine ⟨q, ?_⟩
    have hm : (l.map convB).length = l.length := by simp
    obtain ⟨s1, i1⟩ := hK q (by omega)
    have t1 := toDia n l (by omega) q (by omega)
    have e1 := eqDia n (l.map convB) (by omega) q (by omega)
    have mb := markB (l.map convB) (by omega) q (by omega)
    unfold laws_FnExactTightestBounds.f
    rw [szDia n l hl.1, if_neg h]
    simp only [Option.bind_some]
    rw [if_neg (by omega), t1]
    simp only [Option.bind_some]
    rw [s1, i1]
    simp only [Option.bind_some]
    rw [if_pos ⟨trivial, by omega, fun r hr => by have := hA2 r hr; omega, e1, by unfold laws_markDiagram.f; rw [mb]; simp; omega⟩]
end Go.Proofs.Ytljboamepnhfpaa.Pure
