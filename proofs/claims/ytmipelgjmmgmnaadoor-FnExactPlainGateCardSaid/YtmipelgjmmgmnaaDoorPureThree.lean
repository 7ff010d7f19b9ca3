/- Three waves of as many ticks: the reference's test is the program's. -/
import Derived.Test.YtmipelgjmmgmnaaDoorPureWave
import Derived.Test.YtmipelgjmmgmnaaDoorPaxf51
import Derived.Test.YtmipelgjmmgmnaaDoorPaxasame
namespace Go.Proofs.YtmipelgjmmgmnaaDoor.Pure
open Go.RowKit Go.Proofs.YtmipelgjmmgmnaaDoor.Pa Go.Proofs.YtmipelgjmmgmnaaDoorW.PrintWords Go.Proofs.YtmipelgjmmgmnaaDoorW.PrintLast
set_option linter.unusedVariables false
set_option linter.unusedSimpArgs false
theorem int_beq (m n : Nat) : ((m : Int) == (n : Int)) = (m == n) := by
  rw [Bool.eq_iff_iff, beq_iff_eq, beq_iff_eq]
  omega
theorem beq_turn (m n : Nat) : (m == n) = (n == m) := by
  rw [Bool.eq_iff_iff, beq_iff_eq, beq_iff_eq]
  exact eq_comm
theorem three_tells (a b c : ByteArray) (ha : a.size ≤ 140737488351232) (hb : b.size ≤ 140737488351232) (hc : c.size ≤ 140737488351232) (k : Nat) (ka : a.size < k) (kb : b.size < k) (kc : c.size < k) :
    spec_l07Three.f k a b c = some (isWaveB a && isWaveB b && isWaveB c && (a.size == b.size) && (b.size == c.size)) := by
  unfold spec_l07Three.f
  rw [wave_tells a ha k ka, wave_tells b hb k kb, wave_tells c hc k kc]
  simp only [Option.bind_some]
  rw [int_beq]
  cases isWaveB a <;> cases isWaveB b <;> cases isWaveB c <;> try rfl
  by_cases h1 : a.size = b.size
  · rw [if_pos rfl, if_pos rfl, if_pos rfl, if_pos (by omega), beq_iff_eq.2 h1]
    rfl
  · rw [if_pos rfl, if_pos rfl, if_pos rfl, if_neg (by omega), beq_eq_false_iff_ne.2 h1]
    rfl
theorem same3 (a b c : ByteArray) : allSame [a, b, c] = (isWaveB a && isWaveB b && isWaveB c && (a.size == b.size) && (b.size == c.size)) := by
  have h0 : allSame [a, b, c] = !(!(isWaveB a && (a.size == a.size)) || (!(isWaveB b && (b.size == a.size)) || (!(isWaveB c && (c.size == a.size)) || false))) := rfl
  rw [h0, beq_self_eq_true, beq_turn b.size a.size]
  by_cases e : a.size = b.size
  · rw [e, beq_turn c.size b.size, beq_self_eq_true]
    cases isWaveB a <;> cases isWaveB b <;> cases isWaveB c <;> cases (b.size == c.size) <;> rfl
  · rw [beq_eq_false_iff_ne.2 e]
    cases isWaveB a <;> cases isWaveB b <;> cases isWaveB c <;> cases (b.size == c.size) <;> cases (c.size == a.size) <;> rfl
theorem isWave_le {s : ByteArray} (h : isWaveB s = true) : s.size ≤ 400 ∧ waveB s.data.toList = true := by
  unfold isWaveB at h
  simpa using h
theorem same3_of {a b c : ByteArray} (h : allSame [a, b, c] = true) : a.size ≤ 400 ∧ b.size = a.size ∧ c.size = a.size ∧ waveB a.data.toList = true ∧ waveB b.data.toList = true ∧ waveB c.data.toList = true := by
  rw [same3] at h
  simp only [Bool.and_eq_true, beq_iff_eq] at h
  exact ⟨(isWave_le h.1.1.1.1).1, by omega, by omega, (isWave_le h.1.1.1.1).2, (isWave_le h.1.1.1.2).2, (isWave_le h.1.1.2).2⟩
end Go.Proofs.YtmipelgjmmgmnaaDoor.Pure
