/- What a law draws from its bytes lies in its bounds. -/
import Derived.Test.YtpgejlnhbggkkaaPaxf20
import Derived.Test.YtpgejlnhbggkkaaPureBase
namespace Go.Proofs.Ytpgejlnhbggkkaa.Pure
open Go.RowKit Go.Proofs.Ytpgejlnhbggkkaa.Pa Go.Proofs.YtpgejlnhbggkkaaW.PrintWords Go.Proofs.YtpgejlnhbggkkaaW.PrintLast
set_option linter.unusedVariables false
set_option linter.unusedSimpArgs false

theorem wf8 {x : Int} (h : (Lit.int .u8 x).wf = true) : 0 ≤ x ∧ x ≤ 255 := by
  simp only [Lit.wf, IntKind.min, IntKind.max, IntKind.signed, IntKind.bits, Bool.and_eq_true, decide_eq_true_eq, if_true] at h
  simp at h
  omega
theorem b10At_in (l : List Int) (hl : ∀ x ∈ l, (Lit.int .u8 x).wf = true) (i n : Int) (hi : 0 ≤ i) (hi2 : i ≤ 1000000) (hn : 2 ≤ n) : ∃ t, laws_b10At.f l i n = some t ∧ 0 ≤ t ∧ t < n := by
  unfold laws_b10At.f
  rw [if_neg (by omega)]
  by_cases h : i < (l.length : Int)
  · rw [if_pos h, if_pos hi, if_neg (by omega)]
    obtain ⟨j, rfl⟩ : ∃ j : Nat, i = j := ⟨i.toNat, by omega⟩
    have hj : j < l.length := by omega
    rw [rd_get hj]
    have := wf8 (hl l[j] (List.getElem_mem hj))
    rw [wrap_id (by omega) (by omega)]
    exact ⟨_, rfl, Int.tmod_nonneg _ (by omega), Int.tmod_lt_of_pos _ (by omega)⟩
  · rw [if_neg h, if_neg (by omega), wrap_id (x := i * 37) (by omega) (by omega), wrap_id (by omega) (by omega)]
    exact ⟨_, rfl, Int.tmod_nonneg _ (by omega), Int.tmod_lt_of_pos _ (by omega)⟩
end Go.Proofs.Ytpgejlnhbggkkaa.Pure
