/- The reference's decimal text of a small number is the library's. -/
import Derived.Test.YtljboamepnhfpaaDoorPureBase
import Derived.Test.YtljboamepnhfpaaDoorPaxf18
import Derived.Test.YtljboamepnhfpaaDoorPaxf14
import Derived.Lib.ItoaNum
import Derived.Lib.ItoaLen
namespace Go.Proofs.YtljboamepnhfpaaDoor.Pure
open Go.RowKit Go.Proofs.YtljboamepnhfpaaDoor.Pa Go.Proofs.YtljboamepnhfpaaDoorW.PrintWords Go.Proofs.YtljboamepnhfpaaDoorW.PrintLast Go.Proofs.YtljboamepnhfpaaDoorW.PrintMore
set_option linter.unusedVariables false
set_option linter.unusedSimpArgs false

/-- The digits, the last one first. -/
def revI (u : Nat) : List Int := ((Lib.decDigits u).map fun b => (b.toNat : Int)).reverse
theorem dig_toNat (d : Nat) (h : d < 10) : ((UInt8.ofNat (48 + d)).toNat : Int) = 48 + (d : Int) := by
  have : (UInt8.ofNat (48 + d)).toNat = 48 + d := by
    rw [UInt8.toNat_ofNat']
    exact Nat.mod_eq_of_lt (by omega)
  rw [this]
  omega
theorem revI_small (u : Nat) (h : u < 10) : revI u = [48 + (u : Int)] := by
  unfold revI
  rw [Lib.decDigits, dif_pos h]
  simp only [List.map_cons, List.map_nil, List.reverse_cons, List.reverse_nil, List.nil_append]
  rw [dig_toNat u h]
theorem revI_step (u : Nat) (h : ¬ u < 10) : revI u = (48 + ((u % 10 : Nat) : Int)) :: revI (u / 10) := by
  unfold revI
  rw [Lib.decDigits, dif_neg h]
  simp only [List.map_append, List.map_cons, List.map_nil, List.reverse_append, List.reverse_cons, List.reverse_nil, List.nil_append, List.singleton_append]
  rw [dig_toNat (u % 10) (by omega)]
theorem tdiv_pos (u : Nat) : Int.tdiv (u : Int) 10 = ((u / 10 : Nat) : Int) := by
  rw [Int.tdiv_eq_ediv_of_nonneg (by omega)]; omega
theorem tdiv_neg (u : Nat) : Int.tdiv (-(u : Int)) 10 = -((u / 10 : Nat) : Int) := by
  rw [Int.neg_tdiv, tdiv_pos]
theorem tmod_pos (u : Nat) : Int.tmod (u : Int) 10 = ((u % 10 : Nat) : Int) := by
  rw [Int.tmod_eq_emod_of_nonneg (by omega)]; omega
theorem tmod_neg (u : Nat) : Int.tmod (-(u : Int)) 10 = -((u % 10 : Nat) : Int) := by
  rw [Int.neg_tmod, tmod_pos]
/-- One digit is laid. -/
theorem dec_one (x0 : Int) (neg : Bool) (u : Nat) (hu : 0 < u) (hu2 : u ≤ 1000) (acc : List Int) (ha : acc.length ≤ 5000) (k : Nat) :
    spec_l01Dec.l0 (k + 1) x0 acc (if neg = true then -(u : Int) else (u : Int)) = spec_l01Dec.l0 k x0 (acc ++ [48 + ((u % 10 : Nat) : Int)]) (if neg = true then -((u / 10 : Nat) : Int) else ((u / 10 : Nat) : Int)) := by
  have h10 : u % 10 < 10 := Nat.mod_lt _ (by omega)
  simp only [spec_l01Dec.l0]
  cases neg with
  | false =>
    simp only [Bool.false_eq_true, if_false]
    rw [if_neg (by omega), tmod_pos, tdiv_pos, if_neg (by omega), if_pos (by omega), wrap_id (by omega) (by omega), wrap_id (by omega) (by omega)]
    rw [show (48 + ((u % 10 : Nat) : Int)) % 256 = 48 + ((u % 10 : Nat) : Int) by omega]
  | true =>
    simp only [if_true]
    rw [if_neg (by omega), tmod_neg, tdiv_neg, Int.neg_neg, wrap_id (x := ((u % 10 : Nat) : Int)) (by omega) (by omega), if_pos (show acc.length < 140737488355328 by omega), wrap_id (x := 48 + ((u % 10 : Nat) : Int)) (by omega) (by omega), wrap_id (x := -((u / 10 : Nat) : Int)) (by omega) (by omega)]
    rw [show (48 + ((u % 10 : Nat) : Int)) % 256 = 48 + ((u % 10 : Nat) : Int) by omega]
    by_cases hz : -((u % 10 : Nat) : Int) < 0
    · rw [if_pos hz]
    · have h0 : ((u % 10 : Nat) : Int) = 0 := by omega
      rw [if_neg hz, h0, show (-(0 : Int)) = 0 from rfl, Int.add_zero, show wrap64 48 = 48 from wrap_id (by omega) (by omega), if_pos (show acc.length < 140737488355328 by omega)]
      rfl
theorem dec_loop (x0 : Int) (neg : Bool) : ∀ (n u : Nat), u ≤ n → 0 < u → u ≤ 1000 → ∀ (acc : List Int) (k : Nat), acc.length + u ≤ 3000 → n < k →
    ∃ k', k ≤ k' + n ∧ spec_l01Dec.l0 k x0 acc (if neg = true then -(u : Int) else (u : Int)) = spec_l01Dec.l0 k' x0 (acc ++ revI u) 0
  | 0, u, h, h0, _, _, _, _, _ => absurd h (by omega)
  | n + 1, u, h, h0, h1, acc, k, ha, hk => by
    obtain ⟨k, rfl⟩ : ∃ q, k = q + 1 := ⟨k - 1, by omega⟩
    rw [dec_one x0 neg u h0 h1 acc (by omega) k]
    by_cases hs : u < 10
    · refine ⟨k, by omega, ?_⟩
      rw [revI_small u hs, show u % 10 = u by omega, show u / 10 = 0 by omega]
      cases neg <;> rfl
    · obtain ⟨k', hk', he⟩ := dec_loop x0 neg n (u / 10) (by omega) (by omega) (by omega) (acc ++ [48 + ((u % 10 : Nat) : Int)]) k (by rw [List.length_append, List.length_singleton]; omega) (by omega)
      refine ⟨k', by omega, ?_⟩
      rw [he, revI_step u hs, List.append_assoc, List.singleton_append]
theorem rev_loop (L : List Int) (hL : L.length ≤ 5000) : ∀ (i : Nat) (k : Nat), i ≤ L.length → i < k → spec_l01Dec.l1 k L (L.drop i).reverse ((i : Int) - 1) = some (strOfNums L.reverse)
  | 0, k, hi, hk => by
    obtain ⟨k, rfl⟩ : ∃ q, k = q + 1 := ⟨k - 1, by omega⟩
    simp only [spec_l01Dec.l1]
    rw [if_neg (by omega), List.drop_zero]
  | i + 1, k, hi, hk => by
    obtain ⟨k, rfl⟩ : ∃ q, k = q + 1 := ⟨k - 1, by omega⟩
    have hl : i < L.length := by omega
    have e : ((i + 1 : Nat) : Int) - 1 = (i : Int) := by omega
    rw [e]
    simp only [spec_l01Dec.l1]
    rw [if_pos (by omega), if_pos (by omega), if_pos (by omega), if_pos (by rw [List.length_reverse, List.length_drop]; omega), wrap_id (by omega) (by omega), rd_get hl]
    have := rev_loop L hL i k (by omega) (by omega)
    rw [List.drop_eq_getElem_cons hl, List.reverse_cons] at this
    exact this
theorem rev_tells (L : List Int) (hL : L.length ≤ 5000) (k : Nat) (hk : L.length + 1 < k) : spec_l01Dec.j1 k L = some (strOfNums L.reverse) := by
  obtain ⟨k, rfl⟩ : ∃ q, k = q + 1 := ⟨k - 1, by omega⟩
  simp only [spec_l01Dec.j1]
  rw [wrap_id (by omega) (by omega)]
  have := rev_loop L hL L.length k (by omega) (by omega)
  rw [List.drop_of_length_le (Nat.le_refl _)] at this
  exact this
theorem strOf_bytes (l : List UInt8) : strOfNums (l.map fun b => (b.toNat : Int)) = ⟨l.toArray⟩ := by
  unfold strOfNums
  congr 2
  rw [List.map_map]
  conv => rhs; rw [← List.map_id l]
  refine List.map_congr_left fun b _ => ?_
  simp
theorem revI_length (u : Nat) (hu : u ≤ 1000) : (revI u).length ≤ 21 := by
  unfold revI
  rw [List.length_reverse, List.length_map]
  have := Lib.itoa_length_le (u : Int) (by omega) (by omega)
  unfold Lib.itoa at this
  rw [if_neg (by omega), Int.toNat_natCast] at this
  exact this
theorem dec_tells (n : Int) (h0 : -1000 ≤ n) (h1 : n ≤ 1000) (k : Nat) (hk : 1100 < k) : spec_l01Dec.f k n = some (decB n) := by
  unfold spec_l01Dec.f
  by_cases hz : n = 0
  · subst hz
    rw [if_pos rfl]
    unfold decB Lib.itoa
    rw [if_neg (by omega), show (0 : Int).toNat = 0 from rfl, Lib.decDigits, dif_pos (by omega)]
    rfl
  · rw [if_neg hz]
    by_cases hn : n < 0
    · obtain ⟨u, rfl⟩ : ∃ u : Nat, n = -(u : Int) := ⟨n.natAbs, by omega⟩
      obtain ⟨k', hk', he⟩ := dec_loop (-(u : Int)) true u u (Nat.le_refl _) (by omega) (by omega) [] k (by simp; omega) (by omega)
      rw [if_pos rfl] at he
      have hl := revI_length u (by omega)
      obtain ⟨q, rfl⟩ : ∃ q, k' = q + 1 := ⟨k' - 1, by omega⟩
      rw [he, List.nil_append]
      simp only [spec_l01Dec.l0, if_true]
      rw [if_pos hn, if_pos (by omega), rev_tells _ (by rw [List.length_append, List.length_singleton]; omega) q (by rw [List.length_append, List.length_singleton]; omega)]
      congr 1
      unfold decB Lib.itoa revI
      rw [if_pos hn, List.reverse_append, List.reverse_reverse, Int.natAbs_neg, Int.natAbs_natCast]
      have := strOf_bytes (45 :: Lib.decDigits u)
      rw [← this]
      rfl
    · obtain ⟨u, rfl⟩ : ∃ u : Nat, n = (u : Int) := ⟨n.toNat, by omega⟩
      obtain ⟨k', hk', he⟩ := dec_loop (u : Int) false u u (Nat.le_refl _) (by omega) (by omega) [] k (by simp; omega) (by omega)
      rw [if_neg (by decide)] at he
      have hl := revI_length u (by omega)
      obtain ⟨q, rfl⟩ : ∃ q, k' = q + 1 := ⟨k' - 1, by omega⟩
      rw [he, List.nil_append]
      simp only [spec_l01Dec.l0, if_true]
      rw [if_neg hn, rev_tells _ (by omega) q (by omega)]
      congr 1
      unfold decB Lib.itoa revI
      rw [if_neg hn, List.reverse_reverse, Int.toNat_natCast, strOf_bytes]
theorem dec_prog (n : Int) (h0 : -1000 ≤ n) (h1 : n ≤ 1000) : impl_Decimal.f n = some (decB n) := by
  unfold impl_Decimal.f
  rw [if_pos ⟨by omega, by omega⟩]
theorem decB_size (n : Int) (h0 : -1000 ≤ n) (h1 : n ≤ 1000) : (decB n).size ≤ 21 := by
  have := Lib.itoa_length_le n (by omega) (by omega)
  have e : (decB n).size = (Lib.itoa n).length := by
    unfold decB
    simp [ByteArray.size]
  rw [e]
  exact this
end Go.Proofs.YtljboamepnhfpaaDoor.Pure
