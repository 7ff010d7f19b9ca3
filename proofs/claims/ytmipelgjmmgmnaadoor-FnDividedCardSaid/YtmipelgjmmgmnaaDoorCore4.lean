-- Written for this claim by a program of this session.
import Derived.Test.YtmipelgjmmgmnaaDoorCore1
import Derived.Test.YtmipelgjmmgmnaaDoorCore3
/- One tick of the law of divided waves, and what is drawn for it. -/
namespace Go.Proofs.YtmipelgjmmgmnaaDoor.Pure
open Go.RowKit Go.Proofs.YtmipelgjmmgmnaaDoor.Pa Go.Proofs.YtmipelgjmmgmnaaDoorW.PrintWords Go.Proofs.YtmipelgjmmgmnaaDoorW.PrintLast Go.Proofs.YtmipelgjmmgmnaaDoorW.PrintMore
set_option linter.unusedVariables false
set_option linter.unusedSimpArgs false

theorem strOf_at (l : List Int) (i : Nat) (hi : i < l.length) (h : l[i] = 48 ∨ l[i] = 49) : bt (strOfNums l) (i : Int) = l[i] := by
 have hs : (strOfNums l).size = l.length := by
  show (l.map _).toArray.size = l.length
  simp
 unfold bt
 rw [Int.toNat_natCast, dif_pos (by rw [hs]; exact hi)]
 have he : ((strOfNums l)[i]'(by rw [hs]; exact hi)) = UInt8.ofNat (l[i]).toNat := by
  rw [ByteArray.getElem_eq_getElem_data]
  simp [strOfNums]
 rw [he]
 rcases h with h | h
 ·rw [h]; rfl
 ·rw [h]; rfl
theorem str_size (l : List Int) : (strOfNums l).size = l.length := by
 show (l.map _).toArray.size = l.length
 simp
theorem wave_at (lv : Nat → Bool) (n i : Nat) (hi : i < n) : bt (strOfNums (waveL lv n)) (i : Int) = lev (lv i) := by
 have hl : i < (waveL lv n).length := by rw [waveL_length]; exact hi
 have he : (waveL lv n)[i] = lev (lv i) := by
  have h2 : (waveL lv n)[i]? = some (lev (lv i)) := by
   unfold waveL lev
   rw [List.getElem?_map, List.getElem?_range hi]
   rfl
  rw [List.getElem?_eq_getElem hl] at h2
  exact Option.some.inj h2
 rw [strOf_at _ i hl (by rw [he]; unfold lev; split <;> simp), he]
theorem isWave_of {s : ByteArray} (hs : s.size ≤ 400) (h : ∀ i, i < s.size → bt s (i : Int) = 48 ∨ bt s (i : Int) = 49) : isWaveB s = true := by
 unfold isWaveB waveB
 rw [Bool.and_eq_true, decide_eq_true_eq]
 refine ⟨hs, List.all_eq_true.2 fun x hx => ?_⟩
 obtain ⟨i, hi, rfl⟩ := List.getElem_of_mem hx
 have h1 := h i (by rw [size_list]; exact hi)
 rw [bt_get s i hi] at h1
 rw [in_levels]
 rcases h1 with h1 | h1 <;> rw [h1] <;> rfl
theorem isWave_wave (lv : Nat → Bool) (n : Nat) (hn : n ≤ 400) : isWaveB (strOfNums (waveL lv n)) = true := by
 have hs : (strOfNums (waveL lv n)).size = n := by rw [str_size, waveL_length]
 refine isWave_of (by rw [hs]; exact hn) (fun i hi => ?_)
 rw [wave_at lv n i (by rw [← hs]; exact hi)]
 unfold lev
 split <;> simp
/-- How often a wave went up. -/
theorem ups_tells (s : ByteArray) (hs : s.size ≤ 400) (ws : waveB s.data.toList = true) (m : Nat) (hm : m ≤ s.size) : ∀ d i k, m - i = d → i ≤ m → d * 2 + 1 < k →
  laws_b10Ups.l0 k s (m : Int) (upK s i + 1) (i : Int) = some (upK s m + 1)
 | 0, i, k, hd, hi, hk => by
  obtain rfl : i = m := by omega
  obtain ⟨k, rfl⟩ : ∃ q, k = q + 1 + 1 := ⟨k - 2, by omega⟩
  simp only [laws_b10Ups.l0]
  rw [if_neg (by omega)]
  simp [laws_b10Ups.j1]
 | d + 1, i, k, hd, hi, hk => by
  obtain ⟨k, rfl⟩ : ∃ q, k = q + 1 + 1 := ⟨k - 2, by omega⟩
  have ih := ups_tells s hs ws m hm d (i + 1) k (by omega) (by omega) (by omega)
  have hr := upK_range s i (by omega)
  have hw : wrap64 ((i : Int) + 1) = ((i + 1 : Nat) : Int) := by rw [wrap_id (by omega) (by omega)]; omega
  have hw3 : wrap64 (upK s i + 1) = upK s i + 1 := wrap_id (by omega) (by omega)
  have hw2 : wrap64 (upK s i + 1 + 1) = upK s i + 1 + 1 := wrap_id (by omega) (by omega)
  have hst : upK s (i + 1) = if isUp s i = true then wrap64 (upK s i + 1) else upK s i := rfl
  rw [hw3] at hst
  have h1 := wave_bt ws (i := i) (by omega)
  simp only [laws_b10Ups.l0]
  rw [if_pos (by omega), decide_eq_true (by omega : (i : Int) < (s.size : Int))]
  simp only [laws_b10Ups.j1, if_true]
  rw [if_pos (by omega), if_pos (by omega), hw, hw2]
  unfold isUp prevB at hst
  rcases h1 with h1 | h1
  ·rw [h1] at hst ⊢
   rw [if_neg (by omega)]
   have : (((48 : Int) == 49)) = false := rfl
   rw [this, Bool.and_false, if_neg (by decide)] at hst
   rw [← hst]; exact ih
  ·rw [h1] at hst ⊢
   rw [if_pos rfl]
   by_cases h0 : i = 0
   ·subst h0
    rw [if_pos rfl] at hst
    rw [if_pos (show ((0 : Nat) : Int) = 0 from rfl), ← ih, hst]
    rfl
   ·have hw4 : wrap64 ((i : Int) - 1) = ((i - 1 : Nat) : Int) := by rw [wrap_id (by omega) (by omega)]; omega
    rw [if_neg (by omega), hw4, if_pos (by omega), if_pos (by omega)]
    rw [if_neg h0] at hst
    have h2 := wave_bt ws (i := i - 1) (by omega)
    rcases h2 with h2 | h2
    ·rw [h2] at hst ⊢
     rw [if_pos rfl, ← ih, hst]
     rfl
    ·rw [h2] at hst ⊢
     rw [if_neg (by omega), ← ih, hst]
     rfl
theorem upsOf (s : ByteArray) (hs : s.size ≤ 400) (ws : waveB s.data.toList = true) (m : Nat) (hm : m ≤ s.size) (k : Nat) (hk : m * 2 + 1 < k) : laws_b10Ups.f k s (m : Int) = some (upK s m + 1) :=
 ups_tells s hs ws m hm m 0 k (by omega) (by omega) hk
theorem tog_prev (e : Int) (s : ByteArray) : ∀ i, (togSt e s i).1 = prevB s i
 | 0 => rfl
 | i + 1 => by
  have hst : togSt e s (i + 1) = if bt s (i : Int) = (togSt e s i).1 then (bt s (i : Int), (togSt e s i).2.1, (togSt e s i).2.2) else (bt s (i : Int), wrap64 ((togSt e s i).2.1 + 1), if Int.tmod (togSt e s i).2.1 e = 0 then !(togSt e s i).2.2 else (togSt e s i).2.2) := rfl
  have : (togSt e s (i + 1)).1 = bt s (i : Int) := by
   rw [hst]
   split <;> rfl
  rw [this]
  unfold prevB
  rw [if_neg (by omega)]
  rfl
theorem tog_range (e : Int) (s : ByteArray) : ∀ i, i ≤ 400 → 0 ≤ (togSt e s i).2.1 ∧ (togSt e s i).2.1 ≤ i
 | 0, _ => ⟨Int.le_refl _, Int.le_refl _⟩
 | i + 1, h => by
  have ih := tog_range e s i (by omega)
  have hst : togSt e s (i + 1) = if bt s (i : Int) = (togSt e s i).1 then (bt s (i : Int), (togSt e s i).2.1, (togSt e s i).2.2) else (bt s (i : Int), wrap64 ((togSt e s i).2.1 + 1), if Int.tmod (togSt e s i).2.1 e = 0 then !(togSt e s i).2.2 else (togSt e s i).2.2) := rfl
  rw [hst]
  split
  ·constructor
   ·exact ih.1
   ·show (togSt e s i).2.1 ≤ _; omega
  ·show 0 ≤ wrap64 _ ∧ wrap64 _ ≤ _
   rw [wrap_id (by omega) (by omega)]
   omega
theorem lev_eq (a b : Bool) : lev a = lev b ↔ a = b := by cases a <;> cases b <;> decide
/-- The toggled wave's test of one tick. -/
theorem dv_j4 (k : Nat) (s d tg : ByteArray) (n h e : Int) (E C : Int) (L : Nat → Bool) (hL : L 0 = false) (hs : s.size ≤ 400) (htz : tg.size = s.size) (ht : ∀ i, i < s.size → bt tg (i : Int) = lev (L (i + 1))) (i : Nat) (hi : i < s.size) (g : Bool) :
  laws_FnDivided.j4 (k + 1) s n h d e tg E C (i : Int) g = laws_FnDivided.l0 k s n h d e tg (if g = true then wrap64 (E + 1) else E) (if L (i + 1) = L i then C else wrap64 (C + 1)) ((i + 1 : Nat) : Int) := by
 have hw : wrap64 ((i : Int) + 1) = ((i + 1 : Nat) : Int) := by rw [wrap_id (by omega) (by omega)]; omega
 have hti := ht i hi
 by_cases h0 : i = 0
 ·subst h0
  rw [hL]
  simp only [Nat.zero_add] at *
  cases hl : L 1 with
  | true =>
   rw [hl, show lev true = 49 from rfl] at hti
   cases g
   ·simp only [laws_FnDivided.j4, Bool.false_eq_true, if_false]
    rw [hw, hti, if_pos (show ((0 : Nat) : Int) = 0 from rfl), if_pos (by omega), if_pos (by omega), if_pos rfl]
    try rfl
   ·simp only [laws_FnDivided.j4, if_true]
    rw [hw, hti, if_pos (show ((0 : Nat) : Int) = 0 from rfl), if_pos (by omega), if_pos (by omega), if_pos rfl]
    try rfl
  | false =>
   rw [hl, show lev false = 48 from rfl] at hti
   cases g
   ·simp only [laws_FnDivided.j4, Bool.false_eq_true, if_false]
    rw [hw, hti, if_pos (show ((0 : Nat) : Int) = 0 from rfl), if_pos (by omega), if_pos (by omega), if_neg (by omega), if_neg (by omega)]
    try rfl
   ·simp only [laws_FnDivided.j4, if_true]
    rw [hw, hti, if_pos (show ((0 : Nat) : Int) = 0 from rfl), if_pos (by omega), if_pos (by omega), if_neg (by omega), if_neg (by omega)]
    try rfl
 ·have hw4 : wrap64 ((i : Int) - 1) = ((i - 1 : Nat) : Int) := by rw [wrap_id (by omega) (by omega)]; omega
  have htp := ht (i - 1) (by omega)
  rw [show i - 1 + 1 = i by omega] at htp
  cases g
  ·simp only [laws_FnDivided.j4, Bool.false_eq_true, if_false]
   rw [hw, if_neg (by omega), hw4, hti, htp, if_pos (by omega), if_pos (by omega), if_pos (by omega), if_pos (by omega), if_pos (by omega)]
   by_cases hq : L (i + 1) = L i
   ·rw [if_pos ((lev_eq _ _).2 hq), if_pos hq]
   ·rw [if_neg (fun hh => hq ((lev_eq _ _).1 hh)), if_neg hq]
  ·simp only [laws_FnDivided.j4, if_true]
   rw [hw, if_neg (by omega), hw4, hti, htp, if_pos (by omega), if_pos (by omega), if_pos (by omega), if_pos (by omega), if_pos (by omega)]
   by_cases hq : L (i + 1) = L i
   ·rw [if_pos ((lev_eq _ _).2 hq), if_pos hq]
   ·rw [if_neg (fun hh => hq ((lev_eq _ _).1 hh)), if_neg hq]
theorem dv_j3 (k : Nat) (s d tg : ByteArray) (n h e : Int) (E C : Int) (v : Int) (hs : s.size ≤ 400) (hdz : d.size = s.size) (i : Nat) (hi : i < s.size) (hv : bt d (i : Int) = v) (ws : waveB s.data.toList = true) :
  laws_FnDivided.j3 (k + 1) s n h d e tg E C (i : Int) v = laws_FnDivided.j4 k s n h d e tg E C (i : Int) (!(bt s (i : Int) == prevB s i)) := by
 simp only [laws_FnDivided.j3]
 rw [if_pos (by omega), if_pos (by omega), if_pos hv]
 have h1 := wave_bt ws (i := i) hi
 unfold prevB
 by_cases h0 : i = 0
 ·subst h0
  rw [if_pos (show ((0 : Nat) : Int) = 0 from rfl), if_pos (by omega), if_pos rfl]
  rcases h1 with h1 | h1
  ·rw [h1, if_neg (by omega), if_neg (by omega)]; rfl
  ·rw [h1, if_pos rfl]; rfl
 ·have hw4 : wrap64 ((i : Int) - 1) = ((i - 1 : Nat) : Int) := by rw [wrap_id (by omega) (by omega)]; omega
  rw [if_neg (by omega), hw4, if_pos (by omega), if_pos (by omega), if_pos (by omega), if_pos (by omega), if_neg h0]
  rfl
theorem dv_count (e E : Int) (he : 1 ≤ e) (he2 : e ≤ 5) (hE : 0 ≤ E) (hE2 : E ≤ 400) : Int.tdiv (E + 1 + e - 1) e = if Int.tmod E e = 0 then Int.tdiv (E + e - 1) e + 1 else Int.tdiv (E + e - 1) e := by
 rw [Int.tdiv_eq_ediv_of_nonneg (by omega), Int.tdiv_eq_ediv_of_nonneg (by omega), Int.tmod_eq_emod_of_nonneg hE]
 obtain rfl | rfl | rfl | rfl | rfl : e = 1 ∨ e = 2 ∨ e = 3 ∨ e = 4 ∨ e = 5 := by omega
 all_goals
  split <;> omega
theorem dv_cle (e E : Int) (he : 1 ≤ e) (he2 : e ≤ 5) (hE : 0 ≤ E) (hE2 : E ≤ 400) : 0 ≤ Int.tdiv (E + e - 1) e ∧ Int.tdiv (E + e - 1) e ≤ 1000 := by
 rw [Int.tdiv_eq_ediv_of_nonneg (by omega)]
 obtain rfl | rfl | rfl | rfl | rfl : e = 1 ∨ e = 2 ∨ e = 3 ∨ e = 4 ∨ e = 5 := by omega
 all_goals omega
/- What is drawn. -/
def Byt (l : List Int) : Prop := ∀ x ∈ l, 0 ≤ x ∧ x ≤ 255
theorem u64_in (n : Int) : 0 ≤ IntKind.u64.wrap n ∧ IntKind.u64.wrap n < 18446744073709551616 := by
 have : IntKind.u64.wrap n = n % 18446744073709551616 := by simp [IntKind.wrap, IntKind.bits, IntKind.signed]
 rw [this]
 omega
theorem hash_in (y : Int) (h0 : 0 ≤ y) (h1 : y < 18446744073709551616) : 0 ≤ wrap64 (Go.bits .and .u64 (y / 1099511627776) 255) ∧ wrap64 (Go.bits .and .u64 (y / 1099511627776) 255) ≤ 255 := by
 have hq0 : 0 ≤ y / 1099511627776 := by omega
 have hq1 : y / 1099511627776 < 2 ^ 24 := by omega
 have := bits_mask .u64 24 (by decide) (fun n h0 h1 => by
  have e : IntKind.u64.wrap n = n % 18446744073709551616 := by simp [IntKind.wrap, IntKind.bits, IntKind.signed]
  rw [e]; omega) 8 (by decide) (y / 1099511627776) hq0 hq1
 rw [show (255 : Int) = 2 ^ 8 - 1 by decide, this]
 unfold wrap64
 omega
theorem next_in (l : List Int) (hl : Byt l) (hlen : l.length ≤ 2000000) (p h : Int) (hp : 0 ≤ p) (hp2 : p ≤ 1000000) : ∃ v h', spec_l00Src_next.f l p h = some (v, p + 1, h') ∧ 0 ≤ v ∧ v ≤ 255 := by
 unfold spec_l00Src_next.f
 have hw : wrap64 (p + 1) = p + 1 := wrap_id (by omega) (by omega)
 rw [hw]
 by_cases c : p < (l.length : Int)
 ·obtain ⟨i, rfl⟩ : ∃ i : Nat, p = i := ⟨p.toNat, by omega⟩
  have hi : i < l.length := by omega
  have hb := hl l[i] (List.getElem_mem hi)
  have hr : wrap64 (rd l (i : Int)) = l[i] := by rw [rd_get hi]; exact wrap_id (by omega) (by omega)
  rw [if_pos c, if_pos hp, if_pos (by omega)]
  exact ⟨_, _, rfl, by rw [hr]; exact hb.1, by rw [hr]; exact hb.2⟩
 ·rw [if_neg c, if_neg (by omega)]
  have := u64_in (IntKind.u64.wrap (IntKind.u64.wrap (h * 6364136223846793005) + 0) + 1442695040888963407)
  have := hash_in _ this.1 this.2
  exact ⟨_, _, rfl, this.1, this.2⟩
theorem pick_in (l : List Int) (hl : Byt l) (hlen : l.length ≤ 2000000) (p h a : Int) (hp : 0 ≤ p) (hp2 : p ≤ 1000000) (ha : a ≤ 200) : ∃ v p' h', spec_l00Src_pick.f l p h a = some (v, p', h') ∧ 0 ≤ v ∧ (2 ≤ a → v < a) ∧ (a ≤ 1 → v = 0) ∧ p ≤ p' ∧ p' ≤ p + 1 := by
 unfold spec_l00Src_pick.f
 by_cases c : a ≤ 1
 ·rw [if_pos c]
  exact ⟨_, _, _, rfl, by omega, by omega, fun _ => rfl, by omega, by omega⟩
 ·obtain ⟨v, h', e, v0, v1⟩ := next_in l hl hlen p h hp hp2
  rw [if_neg c, e]
  simp only [Option.bind_some]
  rw [if_neg (by omega), if_neg (by omega)]
  exact ⟨_, _, _, rfl, Int.tmod_nonneg _ v0, fun _ => Int.tmod_lt_of_pos _ (by omega), fun h => absurd h c, by omega, by omega⟩
theorem one_in (l : List Int) (hl : Byt l) (hlen : l.length ≤ 2000000) (p h a : Int) (hp : 0 ≤ p) (hp2 : p ≤ 1000000) (ha : a ≤ 200) : ∃ v p' h', spec_l00Src_one.f l p h a = some (v, p', h') ∧ p ≤ p' ∧ p' ≤ p + 1 := by
 obtain ⟨v, p', h', e, _, _, _, q0, q1⟩ := pick_in l hl hlen p h a hp hp2 ha
 unfold spec_l00Src_one.f
 rw [e]
 exact ⟨_, _, _, rfl, q0, q1⟩
theorem good_loop (l : List Int) (hl : Byt l) (hlen : l.length ≤ 2000000) (y : Int) (hy : y ≤ 200) : ∀ (c : Nat) (k : Nat) (out : List Int) (v p h : Int), c < k → out.length + c ≤ 400 → 0 ≤ p → p + 2 * (c : Int) ≤ 900 → (v = 48 ∨ v = 49) → (∀ x ∈ out, x = 48 ∨ x = 49) →
  ∃ (o : List Int) (p' h' : Int), spec_l01DrawGood.l0 k out v y (c : Int) l p h = some (strOfNums o, p', h') ∧ o.length ≤ 400 ∧ ∀ x ∈ o, x = 48 ∨ x = 49
 | 0, k, out, v, p, h, hk, ho, hp, hp2, hv, hx => by
  obtain ⟨k, rfl⟩ : ∃ q, k = q + 1 := ⟨k - 1, by omega⟩
  simp only [spec_l01DrawGood.l0]
  rw [if_neg (by omega)]
  exact ⟨out, p, h, rfl, by omega, hx⟩
 | c + 1, k, out, v, p, h, hk, ho, hp, hp2, hv, hx => by
  obtain ⟨k, rfl⟩ : ∃ q, k = q + 1 := ⟨k - 1, by omega⟩
  push_cast at hp2
  have hc : wrap64 (((c + 1 : Nat) : Int) - 1) = (c : Int) := by rw [wrap_id (by omega) (by omega)]; omega
  obtain ⟨o, p1, g1, e1, q1, q2⟩ := one_in l hl hlen p h y hp (by omega) hy
  have hlen2 : out.length < 140737488355328 := by omega
  simp only [spec_l01DrawGood.l0]
  rw [if_pos (by omega), e1, hc]
  simp only [Option.bind_some]
  cases o with
  | true =>
   obtain ⟨b, p2, g2, e2, b0, b1, _, q3, q4⟩ := pick_in l hl hlen p1 g1 2 (by omega) (by omega) (by omega)
   have b2 := b1 (by omega)
   have hb : wrap64 (48 + b) % 256 = 48 ∨ wrap64 (48 + b) % 256 = 49 := by
    rw [wrap_id (by omega) (by omega)]; omega
   rw [if_pos rfl, e2]
   simp only [Option.bind_some]
   rw [if_pos hlen2]
   refine good_loop l hl hlen y hy c k _ _ p2 g2 (by omega) (by rw [List.length_append, List.length_singleton]; omega) (by omega) (by omega) hb ?_
   intro x hm
   rcases List.mem_append.1 hm with hm | hm
   ·exact hx x hm
   ·rw [List.mem_singleton.1 hm]; exact hb
  | false =>
   rw [if_neg (by decide), if_pos hlen2]
   refine good_loop l hl hlen y hy c k _ _ p1 g1 (by omega) (by rw [List.length_append, List.length_singleton]; omega) (by omega) (by omega) hv ?_
   intro x hm
   rcases List.mem_append.1 hm with hm | hm
   ·exact hx x hm
   ·rw [List.mem_singleton.1 hm]; exact hv
/-- A drawn wave is one. -/
theorem wave10_tells (l : List Int) (hl : Byt l) (hlen : l.length ≤ 2000000) (k : Nat) (hk : 41 < k) : ∃ s, spec_B10Wave.f k l = some s ∧ isWaveB s = true := by
 obtain ⟨a, p1, g1, e1, a0, a1, _, q1, q2⟩ := pick_in l hl hlen 0 0 2 (by omega) (by omega) (by omega)
 obtain ⟨b, p2, g2, e2, b0, b1, _, q3, q4⟩ := pick_in l hl hlen p1 g1 5 (by omega) (by omega) (by omega)
 obtain ⟨c, p3, g3, e3, c0, c1, _, q5, q6⟩ := pick_in l hl hlen p2 g2 41 (by omega) (by omega) (by omega)
 have a2 := a1 (by omega)
 have b2 := b1 (by omega)
 have c2 := c1 (by omega)
 have ha : wrap64 (48 + a) % 256 = 48 ∨ wrap64 (48 + a) % 256 = 49 := by
  rw [wrap_id (by omega) (by omega)]; omega
 have hb : wrap64 (1 + b) ≤ 200 := by rw [wrap_id (by omega) (by omega)]; omega
 obtain ⟨o, p', h', e4, o1, o2⟩ := good_loop l hl hlen (wrap64 (1 + b)) hb c.toNat k [] (wrap64 (48 + a) % 256) p3 g3 (by omega) (by simp; omega) (by omega) (by omega) ha (by simp)
 rw [show ((c.toNat : Nat) : Int) = c by omega] at e4
 refine ⟨strOfNums o, ?_, ?_⟩
 ·unfold spec_B10Wave.f spec_l00From.f
  simp only [Option.bind_some]
  unfold spec_l01DrawGood.f
  rw [e1]
  simp only [Option.bind_some]
  rw [e2]
  simp only [Option.bind_some]
  rw [show wrap64 (40 + 1) = 41 from wrap_id (by omega) (by omega), e3]
  simp only [Option.bind_some]
  rw [e4]
  rfl
 ·refine isWave_of (by rw [str_size]; exact o1) (fun i hi => ?_)
  rw [str_size] at hi
  rw [strOf_at o i hi (o2 _ (List.getElem_mem hi))]
  exact o2 _ (List.getElem_mem hi)
theorem dw_tells (n h : Int) (s : ByteArray) (hd : dividerOk n h = true) (hw : isWaveB s = true) : impl_DivideWave.f n h s = some (strOfNums (waveL (divLv n h s) s.size), true) := by
 have hl : s.size ≤ 400 := by
  unfold isWaveB at hw
  rw [Bool.and_eq_true, decide_eq_true_eq] at hw
  exact hw.1
 unfold impl_DivideWave.f
 have hi : impl_IsWave.f s = some (isWaveB s) := rfl
 rw [valid_tells, hd, hi, hw]
 simp only [Option.bind_some, if_true]
 unfold impl_divideWave.f
 rw [if_pos ⟨hl, dividerOk_ne hd⟩]
 rfl
end Go.Proofs.YtmipelgjmmgmnaaDoor.Pure

