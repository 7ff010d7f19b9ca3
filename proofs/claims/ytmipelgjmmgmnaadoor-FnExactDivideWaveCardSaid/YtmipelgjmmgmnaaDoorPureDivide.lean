/- A divided wave: what the reference lays tick by tick is what the program tells of each tick. -/
import Derived.Test.YtmipelgjmmgmnaaDoorPureWave
import Derived.Test.YtmipelgjmmgmnaaDoorPaxf65
import Derived.Test.YtmipelgjmmgmnaaDoorPaxf66
import Derived.Test.YtmipelgjmmgmnaaDoorPaxf64
import Derived.Test.YtmipelgjmmgmnaaDoorPaxf49
namespace Go.Proofs.YtmipelgjmmgmnaaDoor.Pure
open Go.RowKit Go.Proofs.YtmipelgjmmgmnaaDoor.Pa Go.Proofs.YtmipelgjmmgmnaaDoorW.PrintWords Go.Proofs.YtmipelgjmmgmnaaDoorW.PrintLast
set_option linter.unusedVariables false
set_option linter.unusedSimpArgs false
def lev (b : Bool) : Int := if b = true then 49 else 48
theorem upK_range (s : ByteArray) : ∀ i, i ≤ 400 → -1 ≤ upK s i ∧ upK s i < i
  | 0, _ => ⟨Int.le_refl _, (by decide : (-1 : Int) < 0)⟩
  | i + 1, h => by
    have ih := upK_range s i (by omega)
    have hs : upK s (i + 1) = if isUp s i = true then wrap64 (upK s i + 1) else upK s i := rfl
    rw [hs]
    split
    · rw [wrap_id (by omega) (by omega)]; omega
    · omega
/-- The level behind i ticks. -/
def divAt (n h : Int) (s : ByteArray) (i : Nat) : Bool := decide (0 ≤ upK s i) && decide (Int.tmod (upK s i) n < h)
theorem divLv_at (n h : Int) (s : ByteArray) (i : Nat) : divLv n h s i = divAt n h s (i + 1) := rfl
theorem divide_loop (n h : Int) (s : ByteArray) (hn : n ≠ 0) (hs : s.size ≤ 400) (ws : waveB s.data.toList = true) (k : Nat) (hk : s.size * 2 < k) :
    spec_l03Divide.l0 k s [] 48 0 0 n h = some (strOfNums (waveL (divLv n h s) s.size), n, h) := by
  refine run_loop (fun k out i => spec_l03Divide.l0 k s out (lev (divAt n h s i)) (upK s i + 1) (i : Int) n h) s.size 2 _ (fun out => (strOfNums out, n, h)) (fun k out i hi ho => ?_) (fun k out ho => ?_) k hk
  · have hw : wrap64 ((i : Int) + 1) = ((i + 1 : Nat) : Int) := by rw [wrap_id (by omega) (by omega)]; omega
    have hr := upK_range s i (by omega)
    have hw2 : wrap64 (upK s i + 1 + 1) = upK s i + 1 + 1 := wrap_id (by omega) (by omega)
    have hw3 : wrap64 (upK s i + 1) = upK s i + 1 := wrap_id (by omega) (by omega)
    have hlen : out.length < 140737488355328 := by omega
    have h1 := wave_bt ws (i := i) hi
    have hst : upK s (i + 1) = if isUp s i = true then wrap64 (upK s i + 1) else upK s i := rfl
    show spec_l03Divide.l0 (k + 2) s out _ _ (i : Int) n h = spec_l03Divide.l0 k s (out ++ [_]) _ _ ((i + 1 : Nat) : Int) n h
    rw [divLv_at]
    have key : spec_l03Divide.l0 (k + 2) s out (lev (divAt n h s i)) (upK s i + 1) (i : Int) n h = spec_l03Divide.j1 (k + 1) s out (lev (divAt n h s i)) (upK s i + 1) (i : Int) (isUp s i) n h := by
      simp only [spec_l03Divide.l0]
      rw [if_pos (by omega), if_pos (by omega)]
      unfold isUp prevB
      rcases h1 with h1 | h1
      · rw [if_neg (by omega), h1]
        simp
      · rw [if_pos h1, h1]
        by_cases h0 : i = 0
        · subst h0
          rw [if_pos (by rfl), if_pos rfl]
          rfl
        · have hw4 : wrap64 ((i : Int) - 1) = ((i - 1 : Nat) : Int) := by rw [wrap_id (by omega) (by omega)]; omega
          rw [if_neg (by omega), hw4, if_pos (by omega), if_pos (by omega), if_neg h0]
          have h2 := wave_bt ws (i := i - 1) (by omega)
          rcases h2 with h2 | h2 <;> rw [h2] <;> rfl
    rw [key]
    simp only [spec_l03Divide.j1]
    cases hu : isUp s i with
    | true =>
      rw [hu, if_pos rfl, hw3] at hst
      have hd : divAt n h s (i + 1) = decide (Int.tmod (upK s i + 1) n < h) := by
        unfold divAt
        rw [hst, decide_eq_true (by omega : 0 ≤ upK s i + 1), Bool.true_and]
      rw [if_pos rfl, if_neg hn, hd, hst]
      by_cases hz : Int.tmod (upK s i + 1) n < h
      · rw [if_pos hz, if_pos hlen, hw, hw2, decide_eq_true hz]
        rfl
      · rw [if_neg hz, if_pos hlen, hw, hw2, decide_eq_false hz]
        rfl
    | false =>
      rw [hu, if_neg (by decide)] at hst
      have hd : divAt n h s (i + 1) = divAt n h s i := by unfold divAt; rw [hst]
      rw [if_neg (by decide), if_pos hlen, hw, hd, hst]
      rfl
  · show spec_l03Divide.l0 (k + 1) s out _ _ (s.size : Int) n h = _
    simp only [spec_l03Divide.l0]
    rw [if_neg (by omega)]
theorem divide_tells (n h : Int) (s : ByteArray) (hn : n ≠ 0) (hw : isWaveB s = true) (k : Nat) (hk : 800 < k) :
    spec_l03Divide.f k n h s = some (strOfNums (waveL (divLv n h s) s.size), n, h) := by
  unfold isWaveB at hw
  rw [Bool.and_eq_true, decide_eq_true_eq] at hw
  exact divide_loop n h s hn hw.1 hw.2 k (by omega)
/-- What a divider must be. -/
def dividerOk (n h : Int) : Bool := decide (1 ≤ n) && decide (n ≤ 64) && (decide (0 ≤ h) && decide (h ≤ n))
theorem in_tells (x l u : Int) : spec_l00In.f x l u = some (decide (l ≤ x) && decide (x ≤ u)) := by
  unfold spec_l00In.f
  by_cases h : l ≤ x <;> simp [h]
theorem is_tells (n h : Int) : spec_l03Is.f n h = some (dividerOk n h, n, h) := by
  unfold spec_l03Is.f dividerOk
  rw [in_tells, in_tells, Option.bind_some]
  cases (decide (1 ≤ n) && decide (n ≤ 64)) <;> rfl
theorem valid_tells (n h : Int) : impl_ValidDivider.f n h = some (dividerOk n h) := by
  have hin : ∀ x l u : Int, impl_within.f x l u = some (decide (l ≤ x) && decide (x ≤ u)) := in_tells
  unfold impl_ValidDivider.f dividerOk
  rw [hin, hin, Option.bind_some]
  cases (decide (1 ≤ n) && decide (n ≤ 64)) <;> rfl
theorem dividerOk_ne {n h : Int} (hd : dividerOk n h = true) : n ≠ 0 := by
  unfold dividerOk at hd
  simp only [Bool.and_eq_true, decide_eq_true_eq] at hd
  omega
end Go.Proofs.YtmipelgjmmgmnaaDoor.Pure
