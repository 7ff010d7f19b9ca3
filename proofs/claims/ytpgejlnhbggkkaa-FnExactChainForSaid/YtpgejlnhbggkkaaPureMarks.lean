/- Lists of whole numbers that are compared, marked and looked at again by a law. -/
import Derived.Test.YtpgejlnhbggkkaaPureBase
import Derived.Test.YtpgejlnhbggkkaaPaxf28
import Derived.Test.YtpgejlnhbggkkaaPaxf29
import Derived.Test.YtpgejlnhbggkkaaPaxf30
namespace Go.Proofs.Ytpgejlnhbggkkaa.Pure
open Go.RowKit Go.Proofs.Ytpgejlnhbggkkaa.Pa Go.Proofs.YtpgejlnhbggkkaaW.PrintWords Go.Proofs.YtpgejlnhbggkkaaW.PrintLast

theorem eqI_loop (l : List Int) (hl : l.length ≤ 4611686018427387904) (d : Nat) : ∀ (k i : Nat), i + d = l.length → d < k → laws_eqInt64S.l0 k l l (i : Int) = some true := by
  induction d with
  | zero =>
    intro k i h hk
    obtain ⟨k, rfl⟩ : ∃ m, k = m + 1 := ⟨k - 1, by omega⟩
    simp only [laws_eqInt64S.l0]
    rw [if_neg (by omega)]
  | succ d ih =>
    intro k i h hk
    obtain ⟨k, rfl⟩ : ∃ m, k = m + 1 := ⟨k - 1, by omega⟩
    simp only [laws_eqInt64S.l0]
    rw [if_pos (by omega), if_pos (by omega), if_pos (by omega), if_pos trivial, wrap_id (by omega) (by omega)]
    exact ih k (i + 1) (by omega) (by omega)
theorem eqI (l : List Int) (hl : l.length ≤ 4611686018427387904) : ∀ k, l.length < k → laws_eqInt64S.f k l l = some true := by
  intro k hk
  unfold laws_eqInt64S.f
  rw [if_pos rfl]
  exact eqI_loop l hl l.length k 0 (by omega) hk
theorem markI_loop (d : Nat) : ∀ (k : Nat) (l : List Int) (a : Int) (i : Nat), i + d = l.length → d < k → 0 ≤ a → a + d ≤ 4611686018427387904 → l.length ≤ 4611686018427387904 →
    laws_markInt64S.l0 k l a (i : Int) = some (a + d, l.take i ++ numsFrom a d) := by
  induction d with
  | zero =>
    intro k l a i h hk h0 ha hl
    obtain ⟨k, rfl⟩ : ∃ m, k = m + 1 := ⟨k - 1, by omega⟩
    simp only [laws_markInt64S.l0]
    rw [if_neg (by omega), List.take_of_length_le (by omega)]
    simp [numsFrom]
  | succ d ih =>
    intro k l a i h hk h0 ha hl
    obtain ⟨k, rfl⟩ : ∃ m, k = m + 1 := ⟨k - 1, by omega⟩
    simp only [laws_markInt64S.l0]
    rw [if_pos (by omega), if_pos (by omega), wrap_id (by omega) (by omega), wrap_id (by omega) (by omega)]
    have := ih k (l.set i a) (a + 1) (i + 1) (by simp; omega) (by omega) (by omega) (by omega) (by simpa using hl)
    rw [Int.toNat_natCast]
    push_cast at this
    rw [this]
    have ht : (l.set i a).take (i + 1) = l.take i ++ [a] := by
      rw [List.take_succ_eq_append_getElem (by simp; omega), List.take_set_of_le (by omega)]
      simp
    rw [ht]
    simp only [Option.some.injEq, Prod.mk.injEq]
    exact ⟨by omega, by simp [numsFrom]⟩
theorem markI (l : List Int) (hl : l.length ≤ 4611686018427387) : ∀ k, l.length < k → laws_markInt64S.f k l 1 = some (1 + (l.length : Int), numsFrom 1 l.length) := by
  intro k hk
  unfold laws_markInt64S.f
  have := markI_loop l.length k l 1 0 (by omega) hk (by omega) (by omega) (by omega)
  simpa using this
theorem heldI_loop (d : Nat) : ∀ (k : Nat) (l : List Int) (a : Int) (i : Nat), i + d = l.length → d < k → 0 ≤ a → a + d ≤ 4611686018427387904 → l.length ≤ 4611686018427387904 →
    l.drop i = numsFrom a d → laws_heldInt64S.l0 k l a (i : Int) = some (a + d) := by
  induction d with
  | zero =>
    intro k l a i h hk h0 ha hl hd
    obtain ⟨k, rfl⟩ : ∃ m, k = m + 1 := ⟨k - 1, by omega⟩
    simp only [laws_heldInt64S.l0]
    rw [if_neg (by omega)]
    simp
  | succ d ih =>
    intro k l a i h hk h0 ha hl hd
    obtain ⟨k, rfl⟩ : ∃ m, k = m + 1 := ⟨k - 1, by omega⟩
    rw [List.drop_eq_getElem_cons (by omega), numsFrom, List.cons.injEq] at hd
    simp only [laws_heldInt64S.l0]
    rw [if_pos (by omega), if_pos (by omega), if_pos (by rw [rd_get (by omega)]; exact hd.1), wrap_id (by omega) (by omega), wrap_id (by omega) (by omega)]
    have := ih k l (a + 1) (i + 1) (by omega) (by omega) (by omega) (by omega) hl hd.2
    push_cast at this
    rw [this]
    simp only [Option.some.injEq]
    omega
theorem heldI (n : Nat) (hl : n ≤ 4611686018427387) : ∀ k, n < k → laws_heldInt64S.f k (numsFrom 1 n) 1 = some (1 + (n : Int)) := by
  intro k hk
  unfold laws_heldInt64S.f
  have := heldI_loop n k (numsFrom 1 n) 1 0 (by simp [numsFrom_length]) hk (by omega) (by omega) (by simp [numsFrom_length]; omega) (by simp)
  simpa using this
end Go.Proofs.Ytpgejlnhbggkkaa.Pure
