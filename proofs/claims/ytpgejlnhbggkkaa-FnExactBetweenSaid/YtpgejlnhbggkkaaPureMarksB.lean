/- Lists of bounds that are compared, marked and looked at again by a law. -/
import Derived.Test.YtpgejlnhbggkkaaPureBase
import Derived.Test.YtpgejlnhbggkkaaPaxf25
import Derived.Test.YtpgejlnhbggkkaaPaxf26
import Derived.Test.YtpgejlnhbggkkaaPaxf27
namespace Go.Proofs.Ytpgejlnhbggkkaa.Pure
open Go.RowKit Go.Proofs.Ytpgejlnhbggkkaa.Pa Go.Proofs.YtpgejlnhbggkkaaW.PrintWords Go.Proofs.YtpgejlnhbggkkaaW.PrintLast

theorem rdB_get {l : List S71} {i : Nat} (h : i < l.length) : rd_T71 l (i : Int) = l[i] := by
  unfold rd_T71
  rw [List.getD_eq_getElem?_getD, Int.toNat_natCast, List.getElem?_eq_getElem h]
  rfl
theorem rdB_set {l : List S71} {i : Nat} (h : i < l.length) (x : S71) : rd_T71 (l.set i x) (i : Int) = x := by
  rw [rdB_get (by simpa using h)]
  simp
theorem eqB_loop (l : List S71) (hl : l.length ≤ 4611686018427387904) (d : Nat) : ∀ (k i : Nat), i + d = l.length → d < k → laws_eqBoundS.l0 k l l (i : Int) = some true := by
  induction d with
  | zero =>
    intro k i h hk
    obtain ⟨k, rfl⟩ : ∃ m, k = m + 1 := ⟨k - 1, by omega⟩
    simp only [laws_eqBoundS.l0]
    rw [if_neg (by omega)]
  | succ d ih =>
    intro k i h hk
    obtain ⟨k, rfl⟩ : ∃ m, k = m + 1 := ⟨k - 1, by omega⟩
    simp only [laws_eqBoundS.l0, laws_eqBound.f, if_true, Option.bind_some]
    rw [if_pos (by omega), if_pos (by omega), if_pos (by omega), wrap_id (by omega) (by omega)]
    exact ih k (i + 1) (by omega) (by omega)
theorem eqB (l : List S71) (hl : l.length ≤ 4611686018427387904) : ∀ k, l.length < k → laws_eqBoundS.f k l l = some true := by
  intro k hk
  unfold laws_eqBoundS.f
  rw [if_pos rfl]
  exact eqB_loop l hl l.length k 0 (by omega) hk
/-- Bounds that hold the numbers a, a + 1, .. -/
def boundsFrom (a : Int) : Nat → List S71
  | 0 => []
  | n + 1 => ⟨a, a + 1, a + 2⟩ :: boundsFrom (a + 3) n
theorem boundsFrom_length (a : Int) (n : Nat) : (boundsFrom a n).length = n := by
  induction n generalizing a with
  | zero => rfl
  | succ n ih => simp [boundsFrom, ih]
theorem markB_loop (d : Nat) : ∀ (k : Nat) (l : List S71) (a : Int) (i : Nat), i + d = l.length → d < k → 0 ≤ a → a + 3 * d ≤ 4611686018427387904 → l.length ≤ 4611686018427387904 →
    laws_markBoundS.l0 k l a (i : Int) = some (a + 3 * d, l.take i ++ boundsFrom a d) := by
  induction d with
  | zero =>
    intro k l a i h hk h0 ha hl
    obtain ⟨k, rfl⟩ : ∃ m, k = m + 1 := ⟨k - 1, by omega⟩
    simp only [laws_markBoundS.l0]
    rw [if_neg (by omega), List.take_of_length_le (by omega)]
    simp [boundsFrom]
  | succ d ih =>
    intro k l a i h hk h0 ha hl
    obtain ⟨k, rfl⟩ : ∃ m, k = m + 1 := ⟨k - 1, by omega⟩
    simp only [laws_markBoundS.l0]
    rw [if_pos (by omega), if_pos (by omega), wrap_id (x := a + 1) (by omega) (by omega), wrap_id (x := a + 1 + 1) (by omega) (by omega), wrap_id (x := a + 1 + 1 + 1) (by omega) (by omega), wrap_id (x := (i : Int) + 1) (by omega) (by omega)]
    have hi : i < l.length := by omega
    simp only [Option.bind_some, Int.toNat_natCast]
    simp only [rdB_set hi, List.set_set]
    have := ih k (l.set i ⟨a, a + 1, a + 2⟩) (a + 3) (i + 1) (by simp; omega) (by omega) (by omega) (by omega) (by simpa using hl)
    push_cast at this
    rw [show a + 1 + 1 + 1 = a + 3 from by omega, show a + 1 + 1 = a + 2 from by omega, this]
    have ht : (l.set i (⟨a, a + 1, a + 2⟩ : S71)).take (i + 1) = l.take i ++ [⟨a, a + 1, a + 2⟩] := by
      rw [List.take_succ_eq_append_getElem (by simp; omega), List.take_set_of_le (by omega)]
      simp
    rw [ht]
    simp only [Option.some.injEq, Prod.mk.injEq]
    exact ⟨by omega, by simp [boundsFrom]⟩
theorem markB (l : List S71) (hl : l.length ≤ 4611686018427387) : ∀ k, l.length < k → laws_markBoundS.f k l 1 = some (1 + 3 * (l.length : Int), boundsFrom 1 l.length) := by
  intro k hk
  unfold laws_markBoundS.f
  have := markB_loop l.length k l 1 0 (by omega) hk (by omega) (by omega) (by omega)
  simpa using this
theorem heldB_loop (d : Nat) : ∀ (k : Nat) (l : List S71) (a : Int) (i : Nat), i + d = l.length → d < k → 0 ≤ a → a + 3 * d ≤ 4611686018427387904 → l.length ≤ 4611686018427387904 →
    l.drop i = boundsFrom a d → laws_heldBoundS.l0 k l a (i : Int) = some (a + 3 * d) := by
  induction d with
  | zero =>
    intro k l a i h hk h0 ha hl hd
    obtain ⟨k, rfl⟩ : ∃ m, k = m + 1 := ⟨k - 1, by omega⟩
    simp only [laws_heldBoundS.l0]
    rw [if_neg (by omega)]
    simp
  | succ d ih =>
    intro k l a i h hk h0 ha hl hd
    obtain ⟨k, rfl⟩ : ∃ m, k = m + 1 := ⟨k - 1, by omega⟩
    rw [List.drop_eq_getElem_cons (by omega), boundsFrom, List.cons.injEq] at hd
    simp only [laws_heldBoundS.l0]
    rw [wrap_id (x := a + 1) (by omega) (by omega), wrap_id (x := a + 1 + 1) (by omega) (by omega), wrap_id (x := a + 1 + 1 + 1) (by omega) (by omega), wrap_id (x := (i : Int) + 1) (by omega) (by omega), rdB_get (by omega), hd.1]
    rw [if_pos (by omega), if_pos (by omega), if_pos rfl, if_pos rfl, if_pos (by show a + 2 = _; omega)]
    have := ih k l (a + 3) (i + 1) (by omega) (by omega) (by omega) (by omega) hl hd.2
    push_cast at this
    rw [show a + 1 + 1 + 1 = a + 3 from by omega, this]
    simp only [Option.some.injEq]
    omega
theorem heldB (n : Nat) (hl : n ≤ 4611686018427387) : ∀ k, n < k → laws_heldBoundS.f k (boundsFrom 1 n) 1 = some (1 + 3 * (n : Int)) := by
  intro k hk
  unfold laws_heldBoundS.f
  have := heldB_loop n k (boundsFrom 1 n) 1 0 (by simp [boundsFrom_length]) hk (by omega) (by omega) (by simp [boundsFrom_length]; omega) (by simp)
  simpa using this
end Go.Proofs.Ytpgejlnhbggkkaa.Pure
