/- For every number and text the law of ToggleWave answers yes. -/
import Derived.Test.YtmipelgjmmgmnaaDoorPureThree
import Derived.Test.YtmipelgjmmgmnaaDoorPaxf6
namespace Go.Proofs.YtmipelgjmmgmnaaDoor.Pure
open Go.RowKit Go.Proofs.YtmipelgjmmgmnaaDoor.Pa Go.Proofs.YtmipelgjmmgmnaaDoorW.PrintWords Go.Proofs.YtmipelgjmmgmnaaDoorW.PrintLast
set_option linter.unusedVariables false
set_option linter.unusedSimpArgs false
def lev (b : Bool) : Int := if b = true then 49 else 48
theorem toggle_loop (n : Int) (s : ByteArray) (hn : 1 ≤ n) (hs : s.size ≤ 400) (k : Nat) (hk : s.size < k) :
    spec_ToggleWave.l0 k n s [] 48 48 0 0 = some (strOfNums (waveL (togLv n s) s.size), true) := by
  refine run_loop (fun k out i => spec_ToggleWave.l0 k n s out (lev (togSt n s i).2.2) (togSt n s i).1 (togSt n s i).2.1 (i : Int)) s.size 1 _ (fun out => (strOfNums out, true)) (fun k out i hi ho => ?_) (fun k out ho => ?_) k (by omega)
  · have hw : wrap64 ((i : Int) + 1) = ((i + 1 : Nat) : Int) := by rw [wrap_id (by omega) (by omega)]; omega
    show spec_ToggleWave.l0 (k + 1) n s out _ _ _ (i : Int) = spec_ToggleWave.l0 k n s (out ++ [_]) _ _ _ ((i + 1 : Nat) : Int)
    have hlen : out.length < 140737488355328 := by omega
    have hst : togSt n s (i + 1) = if bt s (i : Int) = (togSt n s i).1 then (bt s (i : Int), (togSt n s i).2.1, (togSt n s i).2.2) else (bt s (i : Int), wrap64 ((togSt n s i).2.1 + 1), if Int.tmod (togSt n s i).2.1 n = 0 then !(togSt n s i).2.2 else (togSt n s i).2.2) := rfl
    unfold togLv
    rw [hst]
    simp only [spec_ToggleWave.l0]
    rw [if_pos (by omega), if_pos (by omega)]
    by_cases h1 : bt s (i : Int) = (togSt n s i).1
    · rw [if_pos h1, if_pos h1, if_pos hlen, hw]
      rfl
    · rw [if_neg h1, if_neg h1, if_neg (by omega)]
      by_cases h2 : Int.tmod (togSt n s i).2.1 n = 0
      · rw [if_pos h2, if_pos h2, if_pos hlen, hw]
        have hx : ∀ b : Bool, (97 - lev b) % 256 = lev (!b) := fun b => by cases b <;> rfl
        rw [hx]
        rfl
      · rw [if_neg h2, if_neg h2, if_pos hlen, hw]
        rfl
  · show spec_ToggleWave.l0 (k + 1) n s out _ _ _ (s.size : Int) = _
    simp only [spec_ToggleWave.l0]
    rw [if_neg (by omega)]
theorem FnExactToggleWave : laws_FnExactToggleWave.Pure := by
  intro n s hn hs
  refine ⟨s.size + 2, ?_⟩
  unfold laws_FnExactToggleWave.f
  split
  · rfl
  have hin : spec_l00In.f n 1 64 = some (decide (1 ≤ n) && decide (n ≤ 64)) := by
    unfold spec_l00In.f
    by_cases h : 1 ≤ n <;> simp [h]
  have hsp : spec_ToggleWave.f (s.size + 2) n s = impl_ToggleWave.f n s := by
    unfold spec_ToggleWave.f impl_ToggleWave.f togOk
    rw [hin, Option.bind_some]
    cases hq : (decide (1 ≤ n) && decide (n ≤ 64)) with
    | false =>
      simp only [spec_ToggleWave.j0]
      rfl
    | true =>
      rw [if_pos rfl, wave_tells s hs _ (by omega), Option.bind_some]
      simp only [spec_ToggleWave.j0]
      cases hw : isWaveB s with
      | false => rfl
      | true =>
        simp only [Bool.and_eq_true, decide_eq_true_eq] at hq
        rw [toggle_loop n s hq.1 (isWave_le hw).1 _ (by omega)]
        rfl
  rw [hsp]
  have hi : ∃ x, impl_ToggleWave.f n s = some x := by
    unfold impl_ToggleWave.f
    split
    · exact ⟨_, rfl⟩
    · exact ⟨_, rfl⟩
  obtain ⟨x, hx⟩ := hi
  rw [hx]
  simp
end Go.Proofs.YtmipelgjmmgmnaaDoor.Pure
