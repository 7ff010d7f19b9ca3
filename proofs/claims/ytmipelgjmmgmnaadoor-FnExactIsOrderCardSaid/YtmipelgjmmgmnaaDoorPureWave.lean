/- What waves are to the reference: small laws of texts of levels, and of loops that lay a list letter by letter. -/
import Derived.Test.YtmipelgjmmgmnaaDoorPureBase
import Derived.Test.YtmipelgjmmgmnaaDoorPaxf60
import Derived.Test.YtmipelgjmmgmnaaDoorPaxf62
import Derived.Test.YtmipelgjmmgmnaaDoorPaxaside
namespace Go.Proofs.YtmipelgjmmgmnaaDoor.Pure
open Go.RowKit Go.Proofs.YtmipelgjmmgmnaaDoor.Pa Go.Proofs.YtmipelgjmmgmnaaDoorW.PrintWords Go.Proofs.YtmipelgjmmgmnaaDoorW.PrintLast
set_option linter.unusedVariables false
set_option linter.unusedSimpArgs false
/-- A loop that lays one number a round. -/
theorem run_from {β : Type} (L : Nat → List Int → Nat → Option β) (n c : Nat) (o : Nat → Int) (res : List Int → β)
    (hstep : ∀ k out i, i < n → out.length = i → L (k + c) out i = L k (out ++ [o i]) (i + 1))
    (hend : ∀ k out, out.length = n → L (k + 1) out n = some (res out)) :
    ∀ d i out k, n - i = d → i ≤ n → out.length = i → d * c < k → L k out i = some (res (out ++ (List.range' i d).map o))
  | 0, i, out, k, hd, hi, ho, hk => by
    obtain rfl : i = n := by omega
    obtain ⟨k, rfl⟩ : ∃ m, k = m + 1 := ⟨k - 1, by omega⟩
    rw [hend k out ho]
    simp
  | d + 1, i, out, k, hd, hi, ho, hk => by
    have hc : (d + 1) * c = d * c + c := Nat.succ_mul d c
    obtain ⟨k, rfl⟩ : ∃ m, k = m + c := ⟨k - c, by omega⟩
    rw [hstep k out i (by omega) ho, run_from L n c o res hstep hend d (i + 1) (out ++ [o i]) k (by omega) (by omega) (by simp [ho]) (by omega)]
    rw [List.range'_succ, List.map_cons, List.append_assoc]
    rfl
theorem run_loop {β : Type} (L : Nat → List Int → Nat → Option β) (n c : Nat) (o : Nat → Int) (res : List Int → β)
    (hstep : ∀ k out i, i < n → out.length = i → L (k + c) out i = L k (out ++ [o i]) (i + 1))
    (hend : ∀ k out, out.length = n → L (k + 1) out n = some (res out)) (k : Nat) (hk : n * c < k) : L k [] 0 = some (res ((List.range n).map o)) := by
  rw [run_from L n c o res hstep hend n 0 [] k (by omega) (by omega) rfl hk, List.nil_append, List.range_eq_range']
theorem bt_get (s : ByteArray) (i : Nat) (h : i < s.data.toList.length) : bt s (i : Int) = ((s.data.toList[i]).toNat : Int) := by
  have h' : i < s.size := by simpa using h
  unfold bt
  rw [Int.toNat_natCast, dif_pos h']
  simp [ByteArray.getElem_eq_getElem_data]
theorem size_list (s : ByteArray) : s.size = s.data.toList.length := by simp
theorem in_levels (b : UInt8) : [(48 : UInt8), 49].contains b = ((b.toNat : Int) == 48 || (b.toNat : Int) == 49) := by
  have h48 : (b == 48) = ((b.toNat : Int) == 48) := by
    rw [Bool.eq_iff_iff, beq_iff_eq, beq_iff_eq, ← UInt8.toNat_inj]
    simp
    omega
  have h49 : (b == 49) = ((b.toNat : Int) == 49) := by
    rw [Bool.eq_iff_iff, beq_iff_eq, beq_iff_eq, ← UInt8.toNat_inj]
    simp
    omega
  simp only [List.contains, List.elem, h48, h49]
  cases ((b.toNat : Int) == 48) <;> cases ((b.toNat : Int) == 49) <;> rfl
/-- Each letter of a wave is a level. -/
theorem wave_bt {s : ByteArray} (h : waveB s.data.toList = true) {i : Nat} (hi : i < s.size) : bt s (i : Int) = 48 ∨ bt s (i : Int) = 49 := by
  have hl : i < s.data.toList.length := by rw [← size_list]; exact hi
  rw [bt_get s i hl]
  have := List.all_eq_true.1 h _ (List.getElem_mem hl)
  rw [in_levels] at this
  simpa using this
theorem wave_loop (s : ByteArray) (hs : s.size ≤ 140737488351232) : ∀ d i k, s.size - i = d → i ≤ s.size → d < k →
    spec_l01Wave.l0 k s (i : Int) = some ((s.data.toList.drop i).all (fun b => [(48 : UInt8), 49].contains b) && decide (s.size ≤ 400))
  | 0, i, k, hd, hi, hk => by
    obtain rfl : i = s.size := by omega
    obtain ⟨k, rfl⟩ : ∃ m, k = m + 1 := ⟨k - 1, by omega⟩
    simp only [spec_l01Wave.l0]
    rw [if_neg (by omega), List.drop_of_length_le (by rw [← size_list]; exact Nat.le_refl _)]
    simp
    omega
  | d + 1, i, k, hd, hi, hk => by
    obtain ⟨k, rfl⟩ : ∃ m, k = m + 1 := ⟨k - 1, by omega⟩
    have hl : i < s.data.toList.length := by rw [← size_list]; omega
    have hw : wrap64 ((i : Int) + 1) = ((i + 1 : Nat) : Int) := by rw [wrap_id (by omega) (by omega)]; omega
    simp only [spec_l01Wave.l0]
    rw [if_pos (by omega), if_pos (by omega), hw, wave_loop s hs d (i + 1) k (by omega) (by omega) (by omega), List.drop_eq_getElem_cons hl, List.all_cons, in_levels, bt_get s i hl]
    by_cases h1 : ((s.data.toList[i].toNat : Int)) = 48
    · rw [if_pos h1, h1]; rfl
    · rw [if_neg h1]
      by_cases h2 : ((s.data.toList[i].toNat : Int)) = 49
      · rw [if_pos h2, h2]; rfl
      · rw [if_neg h2, beq_eq_false_iff_ne.2 h1, beq_eq_false_iff_ne.2 h2]; rfl
/-- The reference's test of a wave, and the program's. -/
theorem wave_tells (s : ByteArray) (hs : s.size ≤ 140737488351232) (k : Nat) (hk : s.size < k) : spec_l01Wave.f k s = some (isWaveB s) := by
  have h := wave_loop s hs s.size 0 k (by omega) (by omega) hk
  rw [List.drop_zero] at h
  refine Eq.trans h ?_
  unfold isWaveB waveB
  rw [Bool.and_comm]
end Go.Proofs.YtmipelgjmmgmnaaDoor.Pure
