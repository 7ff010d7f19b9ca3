/- For every text and number the law of IsOrder answers yes. -/
import Derived.Test.YtmipelgjmmgmnaaDoorPureWave
import Derived.Test.YtmipelgjmmgmnaaDoorPaxf11
import Derived.Lib.IndexMore
namespace Go.Proofs.YtmipelgjmmgmnaaDoor.Pure
open Go.RowKit Go.Proofs.YtmipelgjmmgmnaaDoor.Pa Go.Proofs.YtmipelgjmmgmnaaDoorW.PrintWords Go.Proofs.YtmipelgjmmgmnaaDoorW.PrintLast
set_option linter.unusedVariables false
set_option linter.unusedSimpArgs false

theorem in_letters (b : UInt8) : [(114 : UInt8), 115].contains b = ((b.toNat : Int) == 115 || (b.toNat : Int) == 114) := by
  have h48 : (b == 114) = ((b.toNat : Int) == 114) := by
    rw [Bool.eq_iff_iff, beq_iff_eq, beq_iff_eq, ← UInt8.toNat_inj]
    simp
    omega
  have h49 : (b == 115) = ((b.toNat : Int) == 115) := by
    rw [Bool.eq_iff_iff, beq_iff_eq, beq_iff_eq, ← UInt8.toNat_inj]
    simp
    omega
  simp only [List.contains, List.elem, h48, h49]
  cases ((b.toNat : Int) == 114) <;> cases ((b.toNat : Int) == 115) <;> rfl
theorem order_bt {s : ByteArray} (h : orderB s.data.toList = true) {i : Nat} (hi : i < s.size) : bt s (i : Int) = 115 ∨ bt s (i : Int) = 114 := by
  have hl : i < s.data.toList.length := by rw [← size_list]; exact hi
  rw [bt_get s i hl]
  have := List.all_eq_true.1 h _ (List.getElem_mem hl)
  rw [in_letters] at this
  simpa using this
theorem steps_loop (s : ByteArray) (hs : s.size ≤ 140737488351232) : ∀ d i k, s.size - i = d → i ≤ s.size → d < k →
    spec_l05Steps.l0 k s (i : Int) = some ((s.data.toList.drop i).all (fun b => [(114 : UInt8), 115].contains b) && decide (s.size ≤ 300))
  | 0, i, k, hd, hi, hk => by
    obtain rfl : i = s.size := by omega
    obtain ⟨k, rfl⟩ : ∃ m, k = m + 1 := ⟨k - 1, by omega⟩
    simp only [spec_l05Steps.l0]
    rw [if_neg (by omega), List.drop_of_length_le (by rw [← size_list]; exact Nat.le_refl _)]
    simp
    omega
  | d + 1, i, k, hd, hi, hk => by
    obtain ⟨k, rfl⟩ : ∃ m, k = m + 1 := ⟨k - 1, by omega⟩
    have hl : i < s.data.toList.length := by rw [← size_list]; omega
    have hw : wrap64 ((i : Int) + 1) = ((i + 1 : Nat) : Int) := by rw [wrap_id (by omega) (by omega)]; omega
    simp only [spec_l05Steps.l0]
    rw [if_pos (by omega), if_pos (by omega), hw, steps_loop s hs d (i + 1) k (by omega) (by omega) (by omega), List.drop_eq_getElem_cons hl, List.all_cons, in_letters, bt_get s i hl]
    by_cases h1 : ((s.data.toList[i].toNat : Int)) = 115
    · rw [if_pos h1, h1]; rfl
    · rw [if_neg h1]
      by_cases h2 : ((s.data.toList[i].toNat : Int)) = 114
      · rw [if_pos h2, h2]; rfl
      · rw [if_neg h2, beq_eq_false_iff_ne.2 h1, beq_eq_false_iff_ne.2 h2]; rfl
theorem steps_tells (s : ByteArray) (hs : s.size ≤ 140737488351232) (k : Nat) (hk : s.size < k) : spec_l05Steps.f k s = some (isOrderB s) := by
  have h := steps_loop s hs s.size 0 k (by omega) (by omega) hk
  rw [List.drop_zero] at h
  refine Eq.trans h ?_
  unfold isOrderB orderB
  rw [Bool.and_comm]
theorem lratio_tells (n : Int) : spec_l05Ratio.f n = some (ratioB n) := by
  have hin : spec_l00In.f n 1 4 = some (ratioB n) := by
    unfold spec_l00In.f ratioB
    by_cases h : (1 : Int) ≤ n <;> simp [h]
  unfold spec_l05Ratio.f
  rw [hin]
  rfl
/-- How many of the letters before place i, the last one among them, are alike. -/
def runK (s : ByteArray) : Nat → Nat
  | 0 => 0
  | i + 1 => if 0 < i ∧ bt s (i : Int) ≠ bt s ((i - 1 : Nat) : Int) then 1 else runK s i + 1
theorem runK_succ (s : ByteArray) (i : Nat) : runK s (i + 1) = if 0 < i ∧ bt s (i : Int) ≠ bt s ((i - 1 : Nat) : Int) then 1 else runK s i + 1 := rfl
theorem runK_le (s : ByteArray) : ∀ i, runK s i ≤ i
  | 0 => Nat.le_refl _
  | i + 1 => by
    have := runK_le s i
    rw [runK_succ]
    split <;> omega
/-- The letters of a run are alike. -/
theorem runK_same (s : ByteArray) : ∀ i t, t < runK s (i + 1) → bt s ((i - t : Nat) : Int) = bt s (i : Int)
  | 0, t, h => by
    have : runK s (0 + 1) ≤ 0 + 1 := runK_le s (0 + 1)
    obtain rfl : t = 0 := by omega
    rfl
  | i + 1, t, h => by
    rw [runK_succ] at h
    split at h
    · obtain rfl : t = 0 := by omega
      rfl
    · rename_i hq
      cases t with
      | zero => rfl
      | succ t =>
        have := runK_same s i t (by omega)
        have he : bt s ((i + 1 : Nat) : Int) = bt s (i : Int) := by
          by_cases hx : bt s ((i + 1 : Nat) : Int) = bt s (i : Int)
          · exact hx
          · exact absurd ⟨Nat.succ_pos _, by simpa using hx⟩ hq
        rw [show i + 1 - (t + 1) = i - t by omega, this, he]
/-- A row of like letters is in a run. -/
theorem runK_ge (s : ByteArray) (j m : Nat) (h : ∀ t, t < m → bt s ((j + t : Nat) : Int) = bt s (j : Int)) : ∀ t, t ≤ m → t ≤ runK s (j + t)
  | 0, _ => Nat.zero_le _
  | t + 1, ht => by
    have ih := runK_ge s j m h t (by omega)
    rw [← Nat.add_assoc, runK_succ]
    split
    · rename_i hq
      cases t with
      | zero => exact Nat.le_refl _
      | succ t =>
        have h1 := h (t + 1) (by omega)
        have h2 := h t (by omega)
        exact absurd (by rw [h1, show j + (t + 1) - 1 = j + t by omega, h2]) hq.2
    · omega
open Classical in
theorem order_loop (s : ByteArray) (n : Int) (hs : s.size ≤ 300) (hn : 1 ≤ n) : ∀ d i k, s.size - i = d → i ≤ s.size → d * 2 < k →
    spec_IsOrder.l0 k s n (runK s i : Int) (i : Int) = some (decide (∀ j, i ≤ j → j < s.size → (runK s (j + 1) : Int) ≤ n))
  | 0, i, k, hd, hi, hk => by
    obtain rfl : i = s.size := by omega
    obtain ⟨k, rfl⟩ : ∃ q, k = q + 1 := ⟨k - 1, by omega⟩
    simp only [spec_IsOrder.l0]
    rw [if_neg (by omega), decide_eq_true]
    intro j h1 h2
    omega
  | d + 1, i, k, hd, hi, hk => by
    obtain ⟨k, rfl⟩ : ∃ q, k = q + 1 + 1 := ⟨k - 2, by omega⟩
    have ih := order_loop s n hs hn d (i + 1) k (by omega) (by omega) (by omega)
    have hr := runK_le s i
    have hw : wrap64 ((i : Int) + 1) = ((i + 1 : Nat) : Int) := by rw [wrap_id (by omega) (by omega)]; omega
    have hw2 : wrap64 ((runK s i : Int) + 1) = ((runK s i + 1 : Nat) : Int) := by rw [wrap_id (by omega) (by omega)]; omega
    have fin : ∀ x : Nat, runK s (i + 1) = x → (if (x : Int) > n then some false else spec_IsOrder.l0 k s n (x : Int) ((i + 1 : Nat) : Int)) = some (decide (∀ j, i ≤ j → j < s.size → (runK s (j + 1) : Int) ≤ n)) := by
      intro x hx
      by_cases hq : (x : Int) > n
      · rw [if_pos hq, decide_eq_false]
        intro hall
        have := hall i (Nat.le_refl _) (by omega)
        rw [hx] at this
        omega
      · rw [if_neg hq, ← hx, ih]
        congr 1
        rw [decide_eq_decide]
        constructor
        · intro h j h1 h2
          by_cases hj : j = i
          · rw [hj, hx]; omega
          · exact h j (by omega) h2
        · intro h j h1 h2
          exact h j (by omega) h2
    have hst := runK_succ s i
    simp only [spec_IsOrder.l0]
    rw [if_pos (by omega)]
    by_cases h0 : i = 0
    · subst h0
      rw [if_neg (by omega)]
      simp only [spec_IsOrder.j2, Bool.false_eq_true, if_false]
      rw [hw, hw2]
      refine fin _ ?_
      rw [hst, if_neg (by omega)]
    · have hw4 : wrap64 ((i : Int) - 1) = ((i - 1 : Nat) : Int) := by rw [wrap_id (by omega) (by omega)]; omega
      rw [if_pos (by omega), if_pos (by omega), hw4, if_pos (by omega), if_pos (by omega)]
      by_cases hq : bt s (i : Int) = bt s ((i - 1 : Nat) : Int)
      · rw [bne_eq_false_iff_eq.2 hq]
        simp only [spec_IsOrder.j2, Bool.false_eq_true, if_false]
        rw [hw, hw2]
        refine fin _ ?_
        rw [hst, if_neg (fun hh => hh.2 hq)]
      · rw [bne_iff_ne.2 hq]
        simp only [spec_IsOrder.j2, if_true]
        rw [hw, show (0 + 1 : Int) = ((1 : Nat) : Int) from rfl]
        refine fin _ ?_
        rw [hst, if_pos ⟨by omega, hq⟩]
/- Rows of one letter. -/
theorem prefix_rep (c : UInt8) : ∀ (m : Nat) (l : List UInt8), (Lib.repeatL [c] m).isPrefixOf l = true ↔ ∀ t, t < m → l[t]? = some c
  | 0, l => by simp [Lib.repeatL]
  | m + 1, [] => by
    have : Lib.repeatL [c] (m + 1) = c :: Lib.repeatL [c] m := rfl
    rw [this]
    simp only [List.isPrefixOf, Bool.false_eq_true, false_iff]
    intro h
    have := h 0 (by omega)
    simp at this
  | m + 1, x :: l => by
    have : Lib.repeatL [c] (m + 1) = c :: Lib.repeatL [c] m := rfl
    rw [this]
    simp only [List.isPrefixOf, Bool.and_eq_true, beq_iff_eq]
    rw [prefix_rep c m l]
    constructor
    · rintro ⟨h1, h2⟩ t ht
      cases t with
      | zero => simp [h1]
      | succ t => simpa using h2 t (by omega)
    · intro h
      refine ⟨?_, fun t ht => ?_⟩
      · have := h 0 (by omega)
        simp at this
        exact this.symm
      · have := h (t + 1) (by omega)
        simpa using this
theorem hasRun_iff (s : ByteArray) (c : UInt8) (m : Nat) (hm : 1 ≤ m) : hasRun s c m = true ↔ ∃ j, j + m ≤ s.size ∧ ∀ t, t < m → bt s ((j + t : Nat) : Int) = (c.toNat : Int) := by
  have key : hasRun s c m = true ↔ ∃ j, j ≤ s.data.toList.length ∧ Lib.occAt s.data.toList (Lib.repeatL [c] m) j = true := by
    unfold hasRun Lib.contains
    rw [decide_eq_true_eq]
    rcases Lib.index_spec s.data.toList (Lib.repeatL [c] m) with ⟨h1, h2⟩ | ⟨i, h1, h2, h3, _⟩
    · rw [h1]
      constructor
      · intro h; omega
      · rintro ⟨j, hj, ho⟩
        rw [h2 j hj] at ho
        cases ho
    · rw [h1]
      exact ⟨fun _ => ⟨i, h2, h3⟩, fun _ => by omega⟩
  have one : ∀ j t, (s.data.toList.drop j)[t]? = some c ↔ j + t < s.size ∧ bt s ((j + t : Nat) : Int) = (c.toNat : Int) := by
    intro j t
    rw [List.getElem?_drop]
    by_cases hl : j + t < s.data.toList.length
    · rw [List.getElem?_eq_getElem hl, bt_get s (j + t) hl, size_list]
      constructor
      · intro h
        rw [Option.some.inj h]
        exact ⟨hl, rfl⟩
      · intro h
        congr 1
        rw [← UInt8.toNat_inj]
        have := h.2
        omega
    · rw [List.getElem?_eq_none (by omega), size_list]
      constructor
      · intro h; cases h
      · intro h; exact absurd h.1 hl
  rw [key]
  constructor
  · rintro ⟨j, hj, ho⟩
    unfold Lib.occAt at ho
    rw [prefix_rep] at ho
    have hlast := (one j (m - 1)).1 (ho (m - 1) (by omega))
    exact ⟨j, by omega, fun t ht => ((one j t).1 (ho t ht)).2⟩
  · rintro ⟨j, hj, ho⟩
    refine ⟨j, by rw [← size_list]; omega, ?_⟩
    unfold Lib.occAt
    rw [prefix_rep]
    exact fun t ht => (one j t).2 ⟨by omega, ho t ht⟩
open Classical in
theorem order_runs (s : ByteArray) (n : Nat) (hn : 1 ≤ n) (ws : orderB s.data.toList = true) :
    decide (∀ j, 0 ≤ j → j < s.size → (runK s (j + 1) : Int) ≤ (n : Int)) = (!hasRun s 115 (n + 1) && !hasRun s 114 (n + 1)) := by
  have key : (∀ j, 0 ≤ j → j < s.size → (runK s (j + 1) : Int) ≤ (n : Int)) ↔ ¬ (hasRun s 115 (n + 1) = true ∨ hasRun s 114 (n + 1) = true) := by
    constructor
    · intro h hq
      have go : ∀ c : UInt8, hasRun s c (n + 1) = true → False := by
        intro c hc
        obtain ⟨j, h1, h2⟩ := (hasRun_iff s c (n + 1) (by omega)).1 hc
        have h0 := h2 0 (by omega)
        have hg := runK_ge s j (n + 1) (fun t ht => by rw [h2 t ht]; exact h0.symm) (n + 1) (Nat.le_refl _)
        have := h (j + n) (by omega) (by omega)
        rw [show j + n + 1 = j + (n + 1) by omega] at this
        omega
      rcases hq with hq | hq
      · exact go _ hq
      · exact go _ hq
    · intro hq j _ hj
      have hle := runK_le s (j + 1)
      by_cases hh : (runK s (j + 1) : Int) ≤ (n : Int)
      · exact hh
      · exfalso
        apply hq
        have hall : ∀ t, t < n + 1 → bt s ((j - n + t : Nat) : Int) = bt s (j : Int) := by
          intro t ht
          have := runK_same s j (n - t) (by omega)
          rw [show j - (n - t) = j - n + t by omega] at this
          exact this
        rcases order_bt ws hj with hb | hb
        · left
          refine (hasRun_iff s 115 (n + 1) (by omega)).2 ⟨j - n, by omega, fun t ht => ?_⟩
          rw [hall t ht, hb]
          rfl
        · right
          refine (hasRun_iff s 114 (n + 1) (by omega)).2 ⟨j - n, by omega, fun t ht => ?_⟩
          rw [hall t ht, hb]
          rfl
  rw [Bool.eq_iff_iff, decide_eq_true_eq, key]
  cases hasRun s 115 (n + 1) <;> cases hasRun s 114 (n + 1) <;> simp
theorem FnExactIsOrder : laws_FnExactIsOrder.Pure := by
  intro s n hs wn
  obtain ⟨K, hK⟩ : ∃ K : Nat, s.size * 2 + 700 < K := ⟨s.size * 2 + 701, by omega⟩
  refine ⟨K + 1, ?_⟩
  unfold laws_FnExactIsOrder.f
  split
  · rfl
  have hsp : spec_IsOrder.f (K + 1) s n = impl_IsOrder.f s n := by
    unfold spec_IsOrder.f impl_IsOrder.f
    rw [steps_tells s hs _ (by omega), Option.bind_some, lratio_tells]
    cases ho : isOrderB s with
    | false =>
      rw [if_neg (by decide)]
      simp only [spec_IsOrder.j0, if_true]
      rfl
    | true =>
      rw [if_pos rfl, Option.bind_some]
      cases hr : ratioB n with
      | false =>
        simp only [spec_IsOrder.j0, Bool.not_false, if_true]
        rfl
      | true =>
        simp only [spec_IsOrder.j0, Bool.not_true, Bool.false_eq_true, if_false]
        unfold isOrderB at ho
        rw [Bool.and_eq_true, decide_eq_true_eq] at ho
        unfold ratioB at hr
        rw [Bool.and_eq_true, decide_eq_true_eq, decide_eq_true_eq] at hr
        have h := order_loop s n ho.1 hr.1 s.size 0 K (by omega) (by omega) (by omega)
        refine Eq.trans h ?_
        obtain ⟨q, rfl⟩ : ∃ q : Nat, n = q := ⟨n.toNat, by omega⟩
        rw [order_runs s q (by omega) ho.2, show ((q : Int) + 1).toNat = q + 1 by omega]
        rfl
  rw [hsp]
  unfold impl_IsOrder.f
  simp
end Go.Proofs.YtmipelgjmmgmnaaDoor.Pure
