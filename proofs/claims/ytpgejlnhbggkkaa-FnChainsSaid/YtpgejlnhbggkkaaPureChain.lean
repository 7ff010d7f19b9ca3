/- Chains of factors: what the reference's and the program's searches find. -/
import Derived.Test.YtpgejlnhbggkkaaPaxf22
import Derived.Test.YtpgejlnhbggkkaaPaxf21
import Derived.Test.YtpgejlnhbggkkaaPureBase
namespace Go.Proofs.Ytpgejlnhbggkkaa.Pure
open Go.RowKit Go.Proofs.Ytpgejlnhbggkkaa.Pa Go.Proofs.YtpgejlnhbggkkaaW.PrintWords Go.Proofs.YtpgejlnhbggkkaaW.PrintLast
set_option linter.unusedVariables false
set_option linter.unusedSimpArgs false

def loopF (most b : Int) (rec : Int → Int → List Int × Bool) : Nat → Int → List Int × Bool
  | 0, _ => ([], false)
  | d + 1, n => if n ≤ most ∧ n ≤ b then (if Int.tmod b n = 0 then (if (rec (Int.tdiv b n) n).2 = true then (n :: (rec (Int.tdiv b n) n).1, true) else loopF most b rec d (n + 1)) else loopF most b rec d (n + 1)) else ([], false)
def facL (most : Int) : Nat → Int → Int → List Int × Bool
  | 0, b, _ => if b = 1 then ([], true) else ([], false)
  | m + 1, b, least => loopF most b (facL most m) (most + 1 - least).toNat least

theorem loopF_length (most b : Int) (rec : Int → Int → List Int × Bool) (m : Nat) (h : ∀ x y, (rec x y).1.length ≤ m) (d : Nat) : ∀ n, (loopF most b rec d n).1.length ≤ m + 1 := by
  induction d with
  | zero => intro n; simp [loopF]
  | succ d ih =>
    intro n
    simp only [loopF]
    split
    · split
      · split
        · have := h (Int.tdiv b n) n
          simp
          omega
        · exact ih _
      · exact ih _
    · simp
theorem facL_length (most : Int) (m : Nat) : ∀ b least, (facL most m b least).1.length ≤ m := by
  induction m with
  | zero => intro b least; simp only [facL]; split <;> simp
  | succ m ih => intro b least; exact loopF_length most b _ m ih _ _
theorem tdiv_range {b n : Int} (h0 : 1 ≤ n) (h1 : n ≤ b) : 1 ≤ Int.tdiv b n ∧ Int.tdiv b n ≤ b := by
  have e : Int.tdiv b n = b / n := Int.tdiv_eq_ediv_of_nonneg (by omega)
  rw [e]
  constructor
  · exact Int.le_ediv_of_mul_le (by omega) (by omega)
  · exact Int.ediv_le_self _ (by omega)
theorem same_fac (k : Nat) : (∀ a b c d, impl_chainFor.f k a b c d = spec_l03Factors.f k a b c d) ∧ (∀ a b c d, impl_chainFor.l0 k a b c d = spec_l03Factors.l0 k a b c d) ∧ (∀ a b c d e, impl_chainFor.j1 k a b c d e = spec_l03Factors.j1 k a b c d e) := by
  induction k with
  | zero => exact ⟨fun _ _ _ _ => by simp [impl_chainFor.f, spec_l03Factors.f], fun _ _ _ _ => by simp [impl_chainFor.l0, spec_l03Factors.l0], fun _ _ _ _ _ => by simp [impl_chainFor.j1, spec_l03Factors.j1]⟩
  | succ k ih =>
    obtain ⟨h1, h2, h3⟩ := ih
    refine ⟨fun a b c d => ?_, fun a b c d => ?_, fun a b c d e => ?_⟩
    · simp only [impl_chainFor.f, spec_l03Factors.f, h2]
      by_cases hd : d = 0
      · rw [if_pos hd, if_pos hd]
        by_cases ha : a = 1
        · simp [ha]
        · have : (a == 1) = false := by simpa using ha
          rw [if_neg ha, this]
      · rw [if_neg hd, if_neg hd]
    · simp only [impl_chainFor.l0, spec_l03Factors.l0, h3]
    · simp only [impl_chainFor.j1, spec_l03Factors.j1, h1, h2]
theorem fac_tells (most : Int) (hm : most ≤ 64) (m : Nat) (hm10 : m ≤ 10) : ∀ b least, 1 ≤ b → b ≤ 1000 → 1 ≤ least → least ≤ 64 → ∃ K, ∀ k, K ≤ k → spec_l03Factors.f k b least most (m : Int) = some (facL most m b least) := by
  induction m with
  | zero =>
    intro b least h0 h1 h2 h3
    refine ⟨1, fun k hk => ?_⟩
    obtain ⟨k, rfl⟩ : ∃ q, k = q + 1 := ⟨k - 1, by omega⟩
    simp only [spec_l03Factors.f, facL]
    rw [if_pos (by omega)]
    by_cases hb : b = 1
    · simp [hb]
    · have : (b == 1) = false := by simpa using hb
      rw [if_neg hb, this]
  | succ m ih =>
    intro b least h0 h1 h2 h3
    have key : ∀ (d : Nat) (n : Int), 1 ≤ n → (most + 1 - n).toNat = d → n ≤ 1000 → ∃ K, ∀ k, K ≤ k → spec_l03Factors.l0 k b most ((m + 1 : Nat) : Int) n = some (loopF most b (facL most m) d n) := by
      intro d
      induction d with
      | zero =>
        intro n hn hd hn2
        refine ⟨2, fun k hk => ?_⟩
        obtain ⟨k, rfl⟩ : ∃ q, k = q + 2 := ⟨k - 2, by omega⟩
        simp only [spec_l03Factors.l0, loopF]
        rw [if_neg (by omega)]
        simp [spec_l03Factors.j1]
      | succ d ihd =>
        intro n hn hd hn2
        by_cases hnb : n ≤ b
        · obtain ⟨hq1, hq2⟩ := tdiv_range hn hnb
          obtain ⟨K1, hK1⟩ := ih (by omega) (Int.tdiv b n) n hq1 (by omega) hn (by omega)
          obtain ⟨K2, hK2⟩ := ihd (n + 1) (by omega) (by omega) (by omega)
          refine ⟨max K1 K2 + 2, fun k hk => ?_⟩
          obtain ⟨k, rfl⟩ : ∃ q, k = q + 2 := ⟨k - 2, by omega⟩
          have hk1 := hK1 k (by omega)
          have hk2 := hK2 k (by omega)
          simp only [spec_l03Factors.l0, loopF]
          rw [if_pos (by omega), if_pos ⟨by omega, hnb⟩]
          simp only [spec_l03Factors.j1]
          rw [decide_eq_true hnb, if_pos rfl, if_neg (by omega), wrap_id (x := n + 1) (by omega) (by omega), hk2]
          by_cases hmod : Int.tmod b n = 0
          · rw [if_pos hmod, if_pos hmod, wrap_id (x := Int.tdiv b n) (by omega) (by omega), wrap_id (x := ((m + 1 : Nat) : Int) - 1) (by omega) (by omega), show ((m + 1 : Nat) : Int) - 1 = (m : Int) from by omega, hk1]
            simp only [Option.bind_some]
            have hl := facL_length most m (Int.tdiv b n) n
            by_cases hr : (facL most m (Int.tdiv b n) n).2 = true
            · rw [if_pos hr, if_pos hr, if_pos (by simp; omega)]
              simp
            · rw [if_neg hr, if_neg hr]
          · rw [if_neg hmod, if_neg hmod]
        · refine ⟨2, fun k hk => ?_⟩
          obtain ⟨k, rfl⟩ : ∃ q, k = q + 2 := ⟨k - 2, by omega⟩
          simp only [spec_l03Factors.l0, loopF]
          rw [if_pos (by omega), if_neg (by omega)]
          simp only [spec_l03Factors.j1]
          rw [decide_eq_false hnb, if_neg (by simp)]
    obtain ⟨K, hK⟩ := key _ least h2 rfl (by omega)
    refine ⟨K + 1, fun k hk => ?_⟩
    obtain ⟨k, rfl⟩ : ∃ q, k = q + 1 := ⟨k - 1, by omega⟩
    simp only [spec_l03Factors.f, facL]
    rw [if_neg (by omega)]
    exact hK k (by omega)
/-- The first number of factors for which there is a chain. -/
def chainL (most b : Int) : Nat → Nat → List Int × Bool
  | 0, _ => ([], false)
  | d + 1, m => if (facL most m b 2).2 = true then ((facL most m b 2).1, true) else chainL most b d (m + 1)
def chainS (b most : Int) : List Int × Bool := if (1 ≤ b ∧ b ≤ 1000) ∧ 2 ≤ most ∧ most ≤ 64 then chainL most b 11 0 else ([], false)
theorem chainL_length (most b : Int) (d : Nat) : ∀ m, (chainL most b d m).1.length ≤ m + d := by
  induction d with
  | zero => intro m; simp [chainL]
  | succ d ih =>
    intro m
    simp only [chainL]
    split
    · have := facL_length most m b 2
      simp
      omega
    · have := ih (m + 1)
      omega
theorem chain_loop (b most : Int) (h0 : 1 ≤ b) (h1 : b ≤ 1000) (h2 : 2 ≤ most) (h3 : most ≤ 64) (d : Nat) : ∀ m, m + d = 11 → ∃ K, ∀ k, K ≤ k → spec_ChainFor.l0 k b most (m : Int) = some (chainL most b d m) ∧ impl_ChainFor.l0 k b most (m : Int) = some (chainL most b d m) := by
  induction d with
  | zero =>
    intro m hm
    refine ⟨1, fun k hk => ?_⟩
    obtain ⟨k, rfl⟩ : ∃ q, k = q + 1 := ⟨k - 1, by omega⟩
    simp only [spec_ChainFor.l0, impl_ChainFor.l0, chainL]
    rw [if_neg (show ¬ (m : Int) ≤ 10 by omega), if_neg (show ¬ (m : Int) < 11 by omega)]
    exact ⟨rfl, rfl⟩
  | succ d ih =>
    intro m hm
    obtain ⟨K1, hK1⟩ := fac_tells most h3 m (by omega) b 2 h0 h1 (by omega) (by omega)
    obtain ⟨K2, hK2⟩ := ih (m + 1) (by omega)
    refine ⟨max K1 K2 + 1, fun k hk => ?_⟩
    obtain ⟨k, rfl⟩ : ∃ q, k = q + 1 := ⟨k - 1, by omega⟩
    have hk1 := hK1 k (by omega)
    obtain ⟨hk2, hk3⟩ := hK2 k (by omega)
    push_cast at hk2 hk3
    have hi : impl_chainFor.f k b 2 most (m : Int) = some (facL most m b 2) := by rw [(same_fac k).1, hk1]
    simp only [spec_ChainFor.l0, impl_ChainFor.l0, chainL]
    rw [if_pos (show (m : Int) ≤ 10 by omega), if_pos (show (m : Int) < 11 by omega), hk1, hi, wrap_id (by omega) (by omega), hk2, hk3]
    simp only [Option.bind_some]
    by_cases hr : (facL most m b 2).2 = true
    · simp [hr]
    · simp [hr]
theorem chain_tells (b most : Int) : ∃ K, ∀ k, K ≤ k → spec_ChainFor.f k b most = some (chainS b most) ∧ impl_ChainFor.f k b most = some (chainS b most) := by
  by_cases h : (1 ≤ b ∧ b ≤ 1000) ∧ 2 ≤ most ∧ most ≤ 64
  · obtain ⟨⟨h0, h1⟩, h2, h3⟩ := h
    obtain ⟨K, hK⟩ := chain_loop b most h0 h1 h2 h3 11 0 rfl
    refine ⟨K + 1, fun k hk => ?_⟩
    obtain ⟨k, rfl⟩ : ∃ q, k = q + 1 := ⟨k - 1, by omega⟩
    obtain ⟨hk1, hk2⟩ := hK k (by omega)
    have e1 : chainS b most = chainL most b 11 0 := by unfold chainS; rw [if_pos ⟨⟨h0, h1⟩, h2, h3⟩]
    have hin : ∀ x l u : Int, spec_l00In.f x l u = some (decide (l ≤ x) && decide (x ≤ u)) := by
      intro x l u
      unfold spec_l00In.f
      by_cases h : l ≤ x <;> simp [h]
    have hwi : ∀ x l u : Int, impl_within.f x l u = some (decide (l ≤ x) && decide (x ≤ u)) := by
      intro x l u
      unfold impl_within.f
      by_cases h : l ≤ x <;> simp [h]
    unfold spec_ChainFor.f impl_ChainFor.f
    simp only [hin, hwi, h0, h1, h2, h3, decide_true, Bool.and_self, Option.bind_some, if_true, Bool.not_true, e1]
    simp only [spec_ChainFor.j0, impl_ChainFor.j0, Bool.false_eq_true, if_false]
    exact ⟨hk1, hk2⟩
  · refine ⟨1, fun k hk => ?_⟩
    obtain ⟨k, rfl⟩ : ∃ q, k = q + 1 := ⟨k - 1, by omega⟩
    have hin : ∀ x l u : Int, spec_l00In.f x l u = some (decide (l ≤ x ∧ x ≤ u)) := by
      intro x l u
      unfold spec_l00In.f
      by_cases h : l ≤ x <;> simp [h]
    have hwi : ∀ x l u : Int, impl_within.f x l u = some (decide (l ≤ x ∧ x ≤ u)) := by
      intro x l u
      unfold impl_within.f
      by_cases h : l ≤ x <;> simp [h]
    have e1 : chainS b most = ([], false) := by unfold chainS; rw [if_neg h]
    unfold spec_ChainFor.f impl_ChainFor.f
    simp only [hin, hwi, Option.bind_some, e1]
    by_cases hb : 1 ≤ b ∧ b ≤ 1000
    · have hmm : ¬ (2 ≤ most ∧ most ≤ 64) := fun hmm => h ⟨hb, hmm⟩
      simp [hb, hmm, spec_ChainFor.j0, impl_ChainFor.j0]
    · simp [hb, spec_ChainFor.j0, impl_ChainFor.j0]
theorem chainS_length (b most : Int) : (chainS b most).1.length ≤ 11 := by
  unfold chainS
  split
  · exact chainL_length most b 11 0
  · simp
end Go.Proofs.Ytpgejlnhbggkkaa.Pure
