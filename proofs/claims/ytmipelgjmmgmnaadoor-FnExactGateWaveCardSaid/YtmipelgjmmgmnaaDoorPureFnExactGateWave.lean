/- For every two texts the law of GateWave answers yes: the gated wave that the program makes tick by tick is the reference's. -/
import Derived.Test.YtmipelgjmmgmnaaDoorPureThree
import Derived.Test.YtmipelgjmmgmnaaDoorPaxf5
namespace Go.Proofs.YtmipelgjmmgmnaaDoor.Pure
open Go.RowKit Go.Proofs.YtmipelgjmmgmnaaDoor.Pa Go.Proofs.YtmipelgjmmgmnaaDoorW.PrintWords Go.Proofs.YtmipelgjmmgmnaaDoorW.PrintLast
set_option linter.unusedVariables false
set_option linter.unusedSimpArgs false
theorem same2 (a b : ByteArray) : allSame [a, b] = (isWaveB a && isWaveB b && isWaveB a && (a.size == b.size) && (b.size == a.size)) := by
  have h0 : allSame [a, b] = !(!(isWaveB a && (a.size == a.size)) || (!(isWaveB b && (b.size == a.size)) || false)) := rfl
  rw [h0, beq_self_eq_true, beq_turn b.size a.size]
  cases isWaveB a <;> cases isWaveB b <;> cases (a.size == b.size) <;> rfl
theorem same2_of {a b : ByteArray} (h : allSame [a, b] = true) : a.size ≤ 400 ∧ b.size = a.size ∧ waveB a.data.toList = true ∧ waveB b.data.toList = true := by
  rw [same2] at h
  simp only [Bool.and_eq_true, beq_iff_eq] at h
  exact ⟨(isWave_le h.1.1.1.1).1, by omega, (isWave_le h.1.1.1.1).2, (isWave_le h.1.1.1.2).2⟩
/-- What the reference keeps of the enabling wave. -/
def gateOn (s e : ByteArray) (i : Nat) : Int := if i = 0 then 48 else bt e (lastAt s i : Int)
theorem gateOn_succ (s e : ByteArray) (i : Nat) : gateOn s e (i + 1) = bt e (lastAt s (i + 1) : Int) := rfl
theorem gate_loop (s e : ByteArray) (hs : s.size ≤ 400) (he : e.size = s.size) (ws : waveB s.data.toList = true) (k : Nat) (hk : s.size < k) :
    spec_GateWave.l0 k s e [] 48 0 = some (strOfNums (waveL (gateLv s e) s.size), true) := by
  refine run_loop (fun k out i => spec_GateWave.l0 k s e out (gateOn s e i) (i : Int)) s.size 1 _ (fun out => (strOfNums out, true)) (fun k out i hi ho => ?_) (fun k out ho => ?_) k (by omega)
  · have hw : wrap64 ((i : Int) + 1) = ((i + 1 : Nat) : Int) := by rw [wrap_id (by omega) (by omega)]; omega
    show spec_GateWave.l0 (k + 1) s e out (gateOn s e i) (i : Int) = spec_GateWave.l0 k s e (out ++ [_]) (gateOn s e (i + 1)) ((i + 1 : Nat) : Int)
    have h1 := wave_bt ws (i := i) hi
    have hl : ∀ b : Bool, spec_l07Level.f b = some (if b = true then 49 else 48) := fun b => by cases b <;> rfl
    simp only [spec_GateWave.l0, hl, Option.bind_some]
    rw [if_pos (by omega), if_pos (by omega), gateOn_succ]
    have hlen : out.length < 140737488355328 := by omega
    have hie : (i : Int) < (e.size : Int) := by omega
    rcases h1 with h1 | h1
    · have h2 : ¬ bt s (i : Int) = 49 := by omega
      have hn : lastAt s (i + 1) = i := if_pos h1
      have hv : gateLv s e i = false := if_pos h1
      rw [if_pos h1, if_pos hie, if_neg h2, if_pos hlen, hw, hn, hv]
    · have h2 : ¬ bt s (i : Int) = 48 := by omega
      have hn : lastAt s (i + 1) = lastAt s i := if_neg h2
      have hv : gateLv s e i = (bt e (lastAt s i : Int) == 49) := if_neg h2
      rw [if_neg h2, if_pos h1, if_pos h1, if_pos hlen, if_pos hlen, hw, hn, hv]
      by_cases h0 : i = 0
      · subst h0
        rw [if_pos (by rfl), if_pos hie]
        rfl
      · rw [if_neg (by omega)]
        have hg : gateOn s e i = bt e (lastAt s i : Int) := if_neg h0
        rw [hg]
  · show spec_GateWave.l0 (k + 1) s e out _ (s.size : Int) = _
    simp only [spec_GateWave.l0]
    rw [if_neg (by omega)]
theorem FnExactGateWave : laws_FnExactGateWave.Pure := by
  intro a b ha hb
  refine ⟨a.size + b.size + 1, ?_⟩
  unfold laws_FnExactGateWave.f
  split
  · rfl
  split
  · rfl
  have hsp : spec_GateWave.f (a.size + b.size + 1) a b = impl_GateWave.f a b := by
    unfold spec_GateWave.f impl_GateWave.f
    rw [three_tells a b a ha hb ha _ (by omega) (by omega) (by omega), ← same2, Option.bind_some]
    cases hs : allSame [a, b] with
    | false => rfl
    | true =>
      obtain ⟨s1, s2, s3, s4⟩ := same2_of hs
      rw [if_pos rfl, if_pos rfl, gate_loop a b s1 s2 s3 _ (by omega)]
  rw [hsp]
  have hi : ∃ x, impl_GateWave.f a b = some x := by
    unfold impl_GateWave.f
    split
    · exact ⟨_, rfl⟩
    · exact ⟨_, rfl⟩
  obtain ⟨x, hx⟩ := hi
  rw [hx]
  simp
end Go.Proofs.YtmipelgjmmgmnaaDoor.Pure
