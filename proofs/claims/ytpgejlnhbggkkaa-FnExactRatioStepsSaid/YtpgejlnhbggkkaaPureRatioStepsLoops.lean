/- The greatest common divisor and the steps of a ratio: program and reference go the same way. -/
import Derived.Test.YtpgejlnhbggkkaaPaxf33
import Derived.Test.YtpgejlnhbggkkaaPaxf31
import Derived.Test.YtpgejlnhbggkkaaPureBase
namespace Go.Proofs.Ytpgejlnhbggkkaa.Pure
open Go.RowKit Go.Proofs.Ytpgejlnhbggkkaa.Pa Go.Proofs.YtpgejlnhbggkkaaW.PrintWords Go.Proofs.YtpgejlnhbggkkaaW.PrintLast

theorem gcd_impl (n : Nat) : ∀ (k : Nat) (x y : Int), y.natAbs ≤ n → n < k → x.natAbs ≤ 9223372036854775807 → y.natAbs ≤ 9223372036854775807 → impl_gcd.l0 k x y = some ((Nat.gcd x.natAbs y.natAbs : Nat) : Int) := by
  induction n with
  | zero =>
    intro k x y hy hk hx hy2
    obtain ⟨k, rfl⟩ : ∃ m, k = m + 1 := ⟨k - 1, by omega⟩
    obtain rfl : y = 0 := by omega
    simp only [impl_gcd.l0, if_true]
    rw [wrap_id (by omega) (by omega)]
    simp only [Int.natAbs_zero, Nat.gcd_zero_right]
    unfold mx
    congr 1
    split <;> omega
  | succ n ih =>
    intro k x y hy hk hx hy2
    obtain ⟨k, rfl⟩ : ∃ m, k = m + 1 := ⟨k - 1, by omega⟩
    by_cases h0 : y = 0
    · subst h0
      simp only [impl_gcd.l0, if_true]
      rw [wrap_id (by omega) (by omega)]
      simp only [Int.natAbs_zero, Nat.gcd_zero_right]
      unfold mx
      congr 1
      split <;> omega
    · simp only [impl_gcd.l0]
      rw [if_neg h0]
      have hm : (Int.tmod x y).natAbs = x.natAbs % y.natAbs := Int.natAbs_tmod x y
      have hlt : x.natAbs % y.natAbs < y.natAbs := Nat.mod_lt _ (by omega)
      rw [ih k y (Int.tmod x y) (by omega) (by omega) hy2 (by omega), hm]
      congr 2
      rw [Nat.gcd_comm x.natAbs, Nat.gcd_rec y.natAbs x.natAbs, Nat.gcd_comm]
theorem gcd_spec (n : Nat) : ∀ (k : Nat) (x y : Int), 0 ≤ x → 0 ≤ y → y.natAbs ≤ n → n < k → spec_l01Gcd.l0 k x y = some ((Nat.gcd x.natAbs y.natAbs : Nat) : Int) := by
  induction n with
  | zero =>
    intro k x y hx h0 hy hk
    obtain ⟨k, rfl⟩ : ∃ m, k = m + 1 := ⟨k - 1, by omega⟩
    obtain rfl : y = 0 := by omega
    simp only [spec_l01Gcd.l0]
    rw [if_neg (by omega)]
    simp only [Int.natAbs_zero, Nat.gcd_zero_right]
    congr 1
    omega
  | succ n ih =>
    intro k x y hx h0 hy hk
    obtain ⟨k, rfl⟩ : ∃ m, k = m + 1 := ⟨k - 1, by omega⟩
    by_cases hz : y = 0
    · subst hz
      simp only [spec_l01Gcd.l0]
      rw [if_neg (by omega)]
      simp only [Int.natAbs_zero, Nat.gcd_zero_right]
      congr 1
      omega
    · simp only [spec_l01Gcd.l0]
      rw [if_pos (by omega), if_neg hz]
      have hm : (Int.tmod x y).natAbs = x.natAbs % y.natAbs := Int.natAbs_tmod x y
      have hlt : x.natAbs % y.natAbs < y.natAbs := Nat.mod_lt _ (by omega)
      rw [ih k y (Int.tmod x y) h0 (Int.tmod_nonneg _ hx) (by omega) (by omega), hm]
      congr 2
      rw [Nat.gcd_comm x.natAbs, Nat.gcd_rec y.natAbs x.natAbs, Nat.gcd_comm]
/-- Whether a fraction is in lowest terms and within its bounds. -/
def validF (n d : Int) : Bool := decide (1 ≤ d) && decide (d ≤ 1000000000000000000) && (decide (-1000000000000000000 ≤ n) && decide (n ≤ 1000000000000000000)) && ((Nat.gcd n.natAbs d.natAbs : Nat) : Int) == 1
theorem valid_impl (n d : Int) : ∀ k, 1000000000000000001 < k → impl_ValidFraction.f k n d = some (validF n d) := by
  intro k hk
  unfold impl_ValidFraction.f impl_within.f validF impl_gcd.f
  by_cases h1 : d ≥ 1
  · by_cases h2 : d ≤ 1000000000000000000
    · by_cases h3 : n ≥ -1000000000000000000
      · by_cases h4 : n ≤ 1000000000000000000
        · rw [gcd_impl 1000000000000000000 k n d (by omega) (by omega) (by omega) (by omega)]
          simp [h1, h2, h3, h4]
        · simp [h1, h2, h3, h4]
      · simp [h1, h2, h3]
    · simp [h1, h2]
  · simp [h1]
theorem valid_spec (n d : Int) : ∀ k, 1000000000000000001 < k → spec_l01FIs.f k n d = some (validF n d) := by
  intro k hk
  unfold spec_l01FIs.f spec_l00In.f validF spec_l01Gcd.f spec_l00Max.f
  by_cases h1 : d ≥ 1
  · by_cases h2 : d ≤ 1000000000000000000
    · by_cases h3 : n ≥ -1000000000000000000
      · by_cases h4 : n ≤ 1000000000000000000
        · rw [wrap_id (by omega) (by omega)]
          by_cases h5 : n > -n
          · have := gcd_spec 1000000000000000000 k n d (by omega) (by omega) (by omega) (by omega)
            simp [h1, h2, h3, h4, h5, this]
          · have := gcd_spec 1000000000000000000 k (-n) d (by omega) (by omega) (by omega) (by omega)
            simp [h1, h2, h3, h4, h5, this]
        · simp [h1, h2, h3, h4]
      · simp [h1, h2, h3]
    · simp [h1, h2]
  · simp [h1]
def goalF (n d : Int) : Bool := validF n d && decide (d ≤ 1000000) && decide (0 ≤ n) && decide (n ≤ 1000 * d)
theorem validF_den {n d : Int} (h : validF n d = true) : 1 ≤ d ∧ d ≤ 1000000000000000000 := by
  unfold validF at h
  simp only [Bool.and_eq_true, decide_eq_true_eq] at h
  exact h.1.1
theorem goal_impl (n d : Int) : ∀ k, 1000000000000000001 < k → impl_isGoal.f k n d = some (goalF n d) := by
  intro k hk
  unfold impl_isGoal.f goalF
  rw [valid_impl n d k hk]
  cases hv : validF n d with
  | false => simp
  | true =>
    obtain ⟨h0, h1⟩ := validF_den hv
    simp only [Option.bind_some, if_true]
    by_cases h2 : d ≤ 1000000
    · rw [wrap_id (by omega) (by omega)]
      by_cases h3 : n ≥ 0 <;> simp [h2, h3]
    · simp [h2]
theorem goal_spec (n d : Int) : ∀ k, 1000000000000000001 < k → spec_l03Goal.f k n d = some (goalF n d) := by
  intro k hk
  unfold spec_l03Goal.f goalF
  rw [valid_spec n d k hk]
  cases hv : validF n d with
  | false => simp
  | true =>
    obtain ⟨h0, h1⟩ := validF_den hv
    simp only [Option.bind_some, if_true]
    by_cases h2 : d ≤ 1000000
    · rw [wrap_id (by omega) (by omega)]
      by_cases h3 : n ≥ 0 <;> simp [h2, h3]
    · simp [h2]
theorem steps_same (k : Nat) : ∀ l a b, impl_RatioSteps.l0 k l a b = spec_RatioSteps.l0 k l a b := by
  induction k with
  | zero => intro l a b; rfl
  | succ k ih =>
    intro l a b
    simp only [impl_RatioSteps.l0, spec_RatioSteps.l0, ih]
theorem steps_end (n : Nat) : ∀ (l : List Int) (a b : Int), 0 ≤ a → 0 ≤ b → b.natAbs ≤ n → l.length + n ≤ 8796093022208 → ∃ r : List Int, r.length ≤ l.length + n ∧ ∀ k, n < k → spec_RatioSteps.l0 k l a b = some (r, true) := by
  induction n with
  | zero =>
    intro l a b ha hb hn hl
    refine ⟨l, by omega, fun k hk => ?_⟩
    obtain ⟨k, rfl⟩ : ∃ m, k = m + 1 := ⟨k - 1, by omega⟩
    simp only [spec_RatioSteps.l0]
    rw [if_neg (by omega)]
  | succ n ih =>
    intro l a b ha hb hn hl
    by_cases hz : b = 0
    · refine ⟨l, by omega, fun k hk => ?_⟩
      obtain ⟨k, rfl⟩ : ∃ m, k = m + 1 := ⟨k - 1, by omega⟩
      simp only [spec_RatioSteps.l0]
      rw [if_neg (by omega)]
    · have hm : (Int.tmod a b).natAbs = a.natAbs % b.natAbs := Int.natAbs_tmod a b
      have hlt : a.natAbs % b.natAbs < b.natAbs := Nat.mod_lt _ (by omega)
      obtain ⟨r, hr, h⟩ := ih (l ++ [wrap64 (Int.tdiv a b)]) b (Int.tmod a b) hb (Int.tmod_nonneg _ ha) (by omega) (by simp; omega)
      refine ⟨r, by simp at hr; omega, fun k hk => ?_⟩
      obtain ⟨k, rfl⟩ : ∃ m, k = m + 1 := ⟨k - 1, by omega⟩
      simp only [spec_RatioSteps.l0]
      rw [if_pos (by omega), if_neg hz, if_pos (by omega)]
      exact h k (by omega)
/-- Both answer the same list, of less than 2^40 numbers. -/
theorem steps_both (n d : Int) : ∃ (r : List Int) (b : Bool), r.length ≤ 1099511627776 ∧ (∀ k, 1000000000000000001 < k → spec_RatioSteps.f k n d = some (r, b)) ∧ ∀ k, 1000000000000000001 < k → impl_RatioSteps.f k n d = some (r, b) := by
  cases hg : goalF n d with
  | false =>
    refine ⟨[], false, by simp, fun k hk => ?_, fun k hk => ?_⟩
    · unfold spec_RatioSteps.f
      rw [goal_spec n d k hk, hg]
      simp
    · unfold impl_RatioSteps.f
      rw [goal_impl n d k hk, hg]
      simp
  | true =>
    have hg' := hg
    unfold goalF at hg'
    simp only [Bool.and_eq_true, decide_eq_true_eq] at hg'
    have hv := validF_den hg'.1.1.1
    obtain ⟨r, hr, h⟩ := steps_end 1000000 [] n d (by omega) (by omega) (by omega) (by simp)
    refine ⟨r, true, by simp at hr; omega, fun k hk => ?_, fun k hk => ?_⟩
    · unfold spec_RatioSteps.f
      rw [goal_spec n d k hk, hg]
      simp only [Option.bind_some, if_true]
      exact h k (by omega)
    · unfold impl_RatioSteps.f
      rw [goal_impl n d k hk, hg]
      simp only [Option.bind_some, if_true, steps_same]
      exact h k (by omega)
end Go.Proofs.Ytpgejlnhbggkkaa.Pure
