/- For every list of dividers and every text the law of DivideChain answers yes. -/
import Derived.Test.YtmipelgjmmgmnaaDoorPureEqV
import Derived.Test.YtmipelgjmmgmnaaDoorPureWave
import Derived.Test.YtmipelgjmmgmnaaDoorPaxf8
namespace Go.Proofs.YtmipelgjmmgmnaaDoor.Pure
open Go.RowKit Go.Proofs.YtmipelgjmmgmnaaDoor.Pa Go.Proofs.YtmipelgjmmgmnaaDoorW.PrintWords Go.Proofs.YtmipelgjmmgmnaaDoorW.PrintLast
set_option linter.unusedVariables false
set_option linter.unusedSimpArgs false
theorem chainS_tells (l : List S32) : ∀ s : ByteArray, chainS s l = if (l.any fun x => !divGood x) = true then ((⟨#[]⟩ : ByteArray), false) else (chainW s l, true) := by
  induction l with
  | nil => intro s; rfl
  | cons x l ih =>
    intro s
    have hd : divOk x.f0 x.f1 = divGood x := rfl
    simp only [chainS, chainW]
    rw [hd, ih, List.any_cons]
    cases divGood x <;> rfl
theorem FnExactDivideChain : laws_FnExactDivideChain.Pure := by
  intro l s hl hs
  refine ⟨s.size + l.length + 2, ?_⟩
  unfold laws_FnExactDivideChain.f
  split
  · rfl
  have hsz : laws_szDividerS.f l 1048576 = some (if 1048576 < l.length then -1 else 1048576 - (l.length : Int)) := by
    unfold laws_szDividerS.f
    rw [wrap_id (by omega) (by omega)]
    by_cases h : 1048576 < l.length
    · rw [if_pos (by omega), if_pos h]
    · rw [if_neg (by omega), if_neg h]
  rw [hsz, Option.bind_some]
  by_cases hlen : 1048576 < l.length
  · rw [if_pos hlen, if_pos (by decide)]
  rw [if_neg hlen, if_neg (by omega)]
  rw [toV l (by omega) _ (by omega)]
  simp only [Option.bind_some]
  obtain ⟨x, hx, hy⟩ : ∃ x, impl_DivideChain.f (l.map convV) s = some x ∧ spec_DivideChain.f (s.size + l.length + 2) (l.map convV) s = some x := by
    generalize l.map convV = q
    unfold impl_DivideChain.f spec_DivideChain.f chainOk
    rw [wave_tells s hs _ (by omega), Option.bind_some]
    by_cases h8 : q.length ≤ 8
    · rw [decide_eq_true h8, if_pos h8, Bool.true_and]
      cases hw : isWaveB s with
      | false => exact ⟨_, rfl, rfl⟩
      | true =>
        have hv : s.size ≤ 400 ∧ (∀ i, i < s.size → bt s (i : Int) = 48 ∨ bt s (i : Int) = 49) := by
          unfold isWaveB at hw
          rw [Bool.and_eq_true, decide_eq_true_eq] at hw
          exact ⟨hw.1, fun i hi => wave_bt hw.2 hi⟩
        rw [if_pos rfl, if_pos hv, chainS_tells]
        cases (q.any fun x => !divGood x) with
        | true => exact ⟨_, rfl, rfl⟩
        | false => exact ⟨_, rfl, rfl⟩
    · rw [decide_eq_false h8, if_neg h8]
      exact ⟨_, rfl, rfl⟩
  rw [hx, hy]
  simp only [Option.bind_some, bne_self_eq_false, if_true]
  simp only [laws_FnExactDivideChain.j0]
  rw [if_neg (by decide), toV l (by omega) _ (by omega), Option.bind_some, eqV _ (by rw [List.length_map]; omega) _ (by rw [List.length_map]; omega), Option.bind_some]
  rfl
end Go.Proofs.YtmipelgjmmgmnaaDoor.Pure
