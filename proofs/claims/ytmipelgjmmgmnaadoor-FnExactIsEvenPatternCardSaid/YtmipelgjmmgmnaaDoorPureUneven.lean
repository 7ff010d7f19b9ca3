/- The marks of the parts of a pattern: the reference's greatest difference is the program's. -/
import Derived.Test.YtmipelgjmmgmnaaDoorPureWave
import Derived.Test.YtmipelgjmmgmnaaDoorPaxf74
import Derived.Test.YtmipelgjmmgmnaaDoorPaxf73
import Derived.Test.YtmipelgjmmgmnaaDoorPaxf70
import Derived.Test.YtmipelgjmmgmnaaDoorPaxf72
namespace Go.Proofs.YtmipelgjmmgmnaaDoor.Pure
open Go.RowKit Go.Proofs.YtmipelgjmmgmnaaDoor.Pa Go.Proofs.YtmipelgjmmgmnaaDoorW.PrintWords Go.Proofs.YtmipelgjmmgmnaaDoorW.PrintLast
set_option linter.unusedVariables false
set_option linter.unusedSimpArgs false
theorem toNat_lev {b : UInt8} (h : [(48 : UInt8), 49].contains b = true) : b = 48 ∨ b = 49 := by
  simp only [List.contains, List.elem, beq_iff_eq] at h
  revert h
  cases h1 : (b == 48) with
  | true => intro _; exact .inl (beq_iff_eq.1 h1)
  | false =>
    cases h2 : (b == 49) with
    | true => intro _; exact .inr (beq_iff_eq.1 h2)
    | false => intro h; simp at h
theorem ones_loop (b : ByteArray) (hb : b.size ≤ 1000) (hw : waveB b.data.toList = true) : ∀ d i acc k, b.size - i = d → i ≤ b.size → 0 ≤ acc → acc ≤ (i : Int) → d < k →
    spec_l01Ones.l0 k b acc (i : Int) = some (acc + ((b.data.toList.drop i).count 49 : Int))
  | 0, i, acc, k, hd, hi, h0, h1, hk => by
    obtain rfl : i = b.size := by omega
    obtain ⟨k, rfl⟩ : ∃ m, k = m + 1 := ⟨k - 1, by omega⟩
    simp only [spec_l01Ones.l0]
    rw [if_neg (by omega), List.drop_of_length_le (by rw [← size_list]; exact Nat.le_refl _)]
    simp
  | d + 1, i, acc, k, hd, hi, h0, h1, hk => by
    obtain ⟨k, rfl⟩ : ∃ m, k = m + 1 := ⟨k - 1, by omega⟩
    have hl : i < b.data.toList.length := by rw [← size_list]; omega
    have hwr : wrap64 ((i : Int) + 1) = ((i + 1 : Nat) : Int) := by rw [wrap_id (by omega) (by omega)]; omega
    have hlev := toNat_lev (List.all_eq_true.1 hw _ (List.getElem_mem hl))
    simp only [spec_l01Ones.l0]
    rw [if_pos (by omega), if_pos (by omega), hwr, bt_get b i hl, List.drop_eq_getElem_cons hl, List.count_cons]
    rcases hlev with h | h
    · rw [h]
      have : wrap64 (acc + (((48 : UInt8).toNat : Int) - 48) % 256) = acc := by rw [show (((48 : UInt8).toNat : Int) - 48) % 256 = 0 from rfl, wrap_id (by omega) (by omega)]; omega
      rw [this, ones_loop b hb hw d (i + 1) acc k (by omega) (by omega) h0 (by omega) (by omega)]
      simp
    · rw [h]
      have : wrap64 (acc + (((49 : UInt8).toNat : Int) - 48) % 256) = acc + 1 := by rw [show (((49 : UInt8).toNat : Int) - 48) % 256 = 1 from rfl, wrap_id (by omega) (by omega)]
      rw [this, ones_loop b hb hw d (i + 1) (acc + 1) k (by omega) (by omega) (by omega) (by omega) (by omega)]
      congr 1
      simp
      omega
theorem ones_tell (b : ByteArray) (hb : b.size ≤ 1000) (hw : waveB b.data.toList = true) (k : Nat) (hk : b.size < k) : spec_l01Ones.f k b = some (Lib.countByte b.data.toList 49 : Int) := by
  have := ones_loop b hb hw b.size 0 0 k (by omega) (by omega) (by omega) (by omega) hk
  rw [List.drop_zero] at this
  unfold spec_l01Ones.f
  refine this.trans ?_
  unfold Lib.countByte
  simp
theorem part_list (b : ByteArray) (x y : Nat) : (b.extract x y).data.toList = (b.data.toList.drop x).take (y - x) := by
  simp
theorem twice_list (s : ByteArray) : (s ++ s).data.toList = s.data.toList ++ s.data.toList := by simp
theorem part_wave {s : ByteArray} (hw : waveB s.data.toList = true) (x y : Nat) : waveB ((s ++ s).extract x y).data.toList = true := by
  unfold waveB at hw ⊢
  rw [List.all_eq_true] at hw ⊢
  intro b hb
  rw [part_list, twice_list] at hb
  have h1 := List.mem_of_mem_drop (List.mem_of_mem_take hb)
  rcases List.mem_append.1 h1 with h | h <;> exact hw b h
theorem min_tells (a b : Int) : spec_l00Min.f a b = some (if b < a then b else a) := by
  unfold spec_l00Min.f
  split
  · rw [if_neg (by omega)]
  · split
    · rfl
    · rw [show a = b from by omega]
theorem max_tells (a b : Int) : spec_l00Max.f a b = some (if a < b then b else a) := by
  unfold spec_l00Max.f
  split
  · rw [if_neg (by omega)]
  · split
    · rfl
    · rw [show a = b from by omega]
theorem inner_loop (s : ByteArray) (hs : s.size ≤ 64) (hw : waveB s.data.toList = true) (most : Int) (z : Nat) (hz0 : 1 ≤ z) (hz : z ≤ s.size) : ∀ d x k, s.size - x = d → x ≤ s.size → 200 < k →
    spec_l03Uneven.l1 (k + d + 1) most (s.size : Int) (s ++ s) (z : Int) (loA (s ++ s) (s.size : Int) z x) (hiA (s ++ s) z x) (x : Int) = spec_l03Uneven.l0 (k + d - d) (if most < hiA (s ++ s) z s.size - loA (s ++ s) (s.size : Int) z s.size then hiA (s ++ s) z s.size - loA (s ++ s) (s.size : Int) z s.size else most) (s.size : Int) (s ++ s) ((z + 1 : Nat) : Int)
  | 0, x, k, hd, hx, hk => by
    obtain rfl : x = s.size := by omega
    have hl := loA_in (s ++ s) (s.size : Int) z (by omega) (by omega) (by omega) s.size
    have hh := hiA_in (s ++ s) z (by omega) (by omega) s.size
    have hw1 : wrap64 ((z : Int) + 1) = ((z + 1 : Nat) : Int) := by rw [wrap_id (by omega) (by omega)]; omega
    simp only [Nat.add_zero, Nat.sub_zero, spec_l03Uneven.l1]
    rw [if_neg (by omega), wrap_id (x := hiA (s ++ s) z s.size - loA (s ++ s) (s.size : Int) z s.size) (by omega) (by omega), max_tells, Option.bind_some, hw1]
  | d + 1, x, k, hd, hx, hk => by
    have hwz : wrap64 ((x : Int) + (z : Int)) = ((x + z : Nat) : Int) := by rw [wrap_id (by omega) (by omega)]; omega
    have hw1 : wrap64 ((x : Int) + 1) = ((x + 1 : Nat) : Int) := by rw [wrap_id (by omega) (by omega)]; omega
    have hsz : (s ++ s).size = s.size + s.size := ByteArray.size_append
    have hp : ((s ++ s).extract ((x : Int)).toNat (((x + z : Nat) : Int)).toNat).size ≤ 128 := by rw [ByteArray.size_extract]; omega
    have hc : (Lib.countByte ((s ++ s).extract ((x : Int)).toNat (((x + z : Nat) : Int)).toNat).data.toList 49 : Int) = cntW (s ++ s) (x : Int) (z : Int) := by
      unfold cntW
      rw [show ((x : Int) + (z : Int)) = ((x + z : Nat) : Int) from by omega]
    have ih := inner_loop s hs hw most z hz0 hz d (x + 1) k (by omega) (by omega) hk
    have hq : k + (d + 1) + 1 = (k + d + 1) + 1 := rfl
    have hq2 : k + (d + 1) - (d + 1) = k := by omega
    rw [hq2]
    have hq3 : k + d - d = k := by omega
    rw [hq3] at ih
    rw [hq]
    generalize hK : k + d + 1 = K at ih ⊢
    simp only [spec_l03Uneven.l1]
    rw [if_pos (by omega), if_pos (by omega), hwz, if_pos (by omega), if_pos (by omega), ones_tell _ (by omega) (part_wave hw _ _) K (by omega), hc, Option.bind_some, min_tells, Option.bind_some, max_tells, Option.bind_some, hw1, ← ih, loA_succ, hiA_succ]
theorem lo_same (b : ByteArray) (n z : Int) (h0 : 0 ≤ z) (hz : z ≤ n) : ∀ i, loA b n z (i + 1) = loA b z z (i + 1)
  | 0 => by
    have := cntW_in b ((0 : Nat) : Int) z (by omega) h0
    rw [loA_succ, loA_succ]
    show (if cntW b ((0 : Nat) : Int) z < n then cntW b ((0 : Nat) : Int) z else n) = (if cntW b ((0 : Nat) : Int) z < z then cntW b ((0 : Nat) : Int) z else z)
    split <;> split <;> omega
  | i + 1 => by rw [loA_succ, loA_succ b z z (i + 1), lo_same b n z h0 hz i]
theorem outer_loop (s : ByteArray) (hs : s.size ≤ 64) (hs0 : 1 ≤ s.size) (hw : waveB s.data.toList = true) : ∀ d z k, s.size - z = d → 1 ≤ z → z ≤ s.size → 200 < k →
    spec_l03Uneven.l0 (k + d * (s.size + 2) + 1) (mostI (s ++ s) s.size (z - 1)) (s.size : Int) (s ++ s) (z : Int) = some (mostI (s ++ s) s.size (s.size - 1))
  | 0, z, k, hd, h1, hz, hk => by
    obtain rfl : z = s.size := by omega
    rw [Nat.zero_mul]
    simp only [spec_l03Uneven.l0]
    rw [if_neg (by omega)]
  | d + 1, z, k, hd, h1, hz, hk => by
    have ih := outer_loop s hs hs0 hw d (z + 1) k (by omega) (by omega) (by omega) hk
    have hin := inner_loop s hs hw (mostI (s ++ s) s.size (z - 1)) z h1 hz s.size 0 (k + d * (s.size + 2) + 1) (by omega) (by omega) (by omega)
    have hmul : (d + 1) * (s.size + 2) = d * (s.size + 2) + (s.size + 2) := Nat.succ_mul d (s.size + 2)
    rw [hmul, show k + (d * (s.size + 2) + (s.size + 2)) + 1 = (k + d * (s.size + 2) + 1 + s.size + 1) + 1 from by omega]
    rw [show k + d * (s.size + 2) + 1 + s.size - s.size = k + d * (s.size + 2) + 1 from by omega] at hin
    generalize k + d * (s.size + 2) + 1 = K at ih hin ⊢
    simp only [spec_l03Uneven.l0]
    rw [if_pos (by omega)]
    refine Eq.trans ?_ (hin.trans ?_)
    · rfl
    · rw [← ih]
      congr 1
      obtain ⟨m, rfl⟩ : ∃ m, z = m + 1 := ⟨z - 1, by omega⟩
      obtain ⟨q, hq⟩ : ∃ q, s.size = q + 1 := ⟨s.size - 1, by omega⟩
      have hlo : loA (s ++ s) (s.size : Int) ((m + 1 : Nat) : Int) s.size = loA (s ++ s) ((m + 1 : Nat) : Int) ((m + 1 : Nat) : Int) s.size := by
        rw [hq]
        exact lo_same _ _ _ (by omega) (by omega) q
      rw [hlo, show m + 1 + 1 - 1 = m + 1 from rfl, show m + 1 - 1 = m from rfl, mostI_succ]
theorem cnt_round (s : ByteArray) (x : Nat) (hx : x ≤ s.size) : cntW (s ++ s) (x : Int) (s.size : Int) = (s.data.toList.count 49 : Int) := by
  unfold cntW Lib.countByte
  rw [part_list, twice_list, Int.toNat_natCast, show ((x : Int) + (s.size : Int)).toNat - x = s.size from by omega]
  have hl := size_list s
  rw [List.drop_append_of_le_length (by omega), List.take_append, List.take_of_length_le (by rw [List.length_drop]; omega), List.length_drop, show s.size - (s.data.toList.length - x) = x from by omega, List.count_append]
  have := congrArg (List.count (49 : UInt8)) (List.take_append_drop x s.data.toList)
  rw [List.count_append] at this
  omega
theorem even_round (s : ByteArray) : ∀ i, i < s.size → loA (s ++ s) (s.size : Int) (s.size : Int) (i + 1) = (s.data.toList.count 49 : Int) ∧ hiA (s ++ s) (s.size : Int) (i + 1) = (s.data.toList.count 49 : Int)
  | 0, h => by
    have hc := cnt_round s 0 (by omega)
    have hi := cntW_in (s ++ s) ((0 : Nat) : Int) (s.size : Int) (by omega) (by omega)
    rw [loA_succ, hiA_succ, hc]
    rw [hc] at hi
    show (if _ < (s.size : Int) then _ else (s.size : Int)) = _ ∧ (if (0 : Int) < _ then _ else (0 : Int)) = _
    constructor <;> split <;> omega
  | i + 1, h => by
    obtain ⟨h1, h2⟩ := even_round s i (by omega)
    rw [loA_succ, hiA_succ, h1, h2, cnt_round s (i + 1) (by omega)]
    simp
theorem mostI_nonneg (b : ByteArray) (n : Nat) : ∀ z, 0 ≤ mostI b n z
  | 0 => Int.le_refl _
  | z + 1 => by
    have := mostI_nonneg b n z
    rw [mostI_succ]
    split <;> omega
theorem uneven_tells (s : ByteArray) (hs : s.size ≤ 64) (hs0 : 1 ≤ s.size) (hw : waveB s.data.toList = true) (k : Nat) (hk : 4500 < k) : spec_l03Uneven.f k s = some (mostI (s ++ s) s.size s.size) := by
  unfold spec_l03Uneven.f
  rw [if_pos (by omega)]
  have hb : (s.size - 1) * (s.size + 2) ≤ 63 * 66 := Nat.mul_le_mul (by omega) (by omega)
  have h := outer_loop s hs hs0 hw (s.size - 1) 1 (k - 1 - (s.size - 1) * (s.size + 2)) (by omega) (by omega) (by omega) (by omega)
  rw [show k - 1 - (s.size - 1) * (s.size + 2) + (s.size - 1) * (s.size + 2) + 1 = k from by omega] at h
  refine h.trans ?_
  congr 1
  obtain ⟨q, hq⟩ : ∃ q, s.size = q + 1 := ⟨s.size - 1, by omega⟩
  obtain ⟨h1, h2⟩ := even_round s q (by omega)
  have hn := mostI_nonneg (s ++ s) s.size q
  rw [← hq] at h1 h2
  have : mostI (s ++ s) s.size (q + 1) = mostI (s ++ s) s.size q := by
    rw [mostI_succ, ← hq, h1, h2]
    split <;> omega
  rw [show s.size - 1 = q from by omega, ← this, ← hq]
theorem pattern_tells (s : ByteArray) (hs : s.size ≤ 140737488351232) (k : Nat) (hk : s.size < k) : spec_l03Pattern.f k s = some (isWaveB s && (decide (1 ≤ (s.size : Int)) && decide ((s.size : Int) ≤ 64))) ∧ impl_isPattern.f s = some (isWaveB s && (decide (1 ≤ (s.size : Int)) && decide ((s.size : Int) ≤ 64))) := by
  have hin : ∀ x l u : Int, spec_l00In.f x l u = some (decide (l ≤ x) && decide (x ≤ u)) := by
    intro x l u
    unfold spec_l00In.f
    by_cases h : l ≤ x <;> simp [h]
  have hin2 : ∀ x l u : Int, impl_within.f x l u = some (decide (l ≤ x) && decide (x ≤ u)) := hin
  have hi : impl_IsWave.f s = some (isWaveB s) := rfl
  unfold spec_l03Pattern.f impl_isPattern.f
  rw [wave_tells s hs k hk, hi, hin, hin2]
  cases isWaveB s <;> exact ⟨rfl, rfl⟩
end Go.Proofs.YtmipelgjmmgmnaaDoor.Pure
