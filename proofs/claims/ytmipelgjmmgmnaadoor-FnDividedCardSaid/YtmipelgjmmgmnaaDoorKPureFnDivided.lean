-- Written for this claim by a program of this session.
import Derived.Test.YtmipelgjmmgmnaaDoorCore4
/- For every drawn wave the law of divided waves answers yes. -/
namespace Go.Proofs.YtmipelgjmmgmnaaDoor.Pure
open Go.RowKit Go.Proofs.YtmipelgjmmgmnaaDoor.Pa Go.Proofs.YtmipelgjmmgmnaaDoorW.PrintWords Go.Proofs.YtmipelgjmmgmnaaDoorW.PrintLast Go.Proofs.YtmipelgjmmgmnaaDoorW.PrintMore
set_option linter.unusedVariables false
set_option linter.unusedSimpArgs false

theorem dv_step (s d tg : ByteArray) (n h e : Int) (L : Nat → Bool) (hL : L 0 = false) (hn : 1 ≤ n) (hs : s.size ≤ 400) (ws : waveB s.data.toList = true) (hdz : d.size = s.size) (htz : tg.size = s.size)
  (hd : ∀ i, i < s.size → bt d (i : Int) = lev (divLv n h s i)) (ht : ∀ i, i < s.size → bt tg (i : Int) = lev (L (i + 1))) (i : Nat) (hi : i < s.size) (E C : Int) (k : Nat) (hk : 900 < k) :
  laws_FnDivided.l0 (k + 1 + 1 + 1 + 1) s n h d e tg E C (i : Int) = laws_FnDivided.l0 k s n h d e tg (if (!(bt s (i : Int) == prevB s i)) = true then wrap64 (E + 1) else E) (if L (i + 1) = L i then C else wrap64 (C + 1)) ((i + 1 : Nat) : Int) := by
 have hu := upK_range s (i + 1) (by omega)
 have hw : wrap64 ((i : Int) + 1) = ((i + 1 : Nat) : Int) := by rw [wrap_id (by omega) (by omega)]; omega
 have h3 : laws_FnDivided.j3 (k + 1 + 1) s n h d e tg E C (i : Int) (lev (divLv n h s i)) = laws_FnDivided.l0 k s n h d e tg (if (!(bt s (i : Int) == prevB s i)) = true then wrap64 (E + 1) else E) (if L (i + 1) = L i then C else wrap64 (C + 1)) ((i + 1 : Nat) : Int) := by
  rw [dv_j3 (k + 1) s d tg n h e E C (lev (divLv n h s i)) hs hdz i hi (hd i hi) ws, dv_j4 k s d tg n h e E C L hL hs htz ht i hi]
 rw [← h3]
 clear h3
 have h2 : ∀ v, laws_FnDivided.j2 (k + 1 + 1 + 1) s n h d e tg E C (i : Int) 48 v = laws_FnDivided.j3 (k + 1 + 1) s n h d e tg E C (i : Int) (lev v) := by
  intro v
  generalize k + 1 + 1 = q
  cases v <;> (simp only [laws_FnDivided.j2]; rfl)
 rw [← h2]
 clear h2
 have hups := upsOf s hs ws (i + 1) (by omega) (k + 1 + 1 + 1) (by omega)
 generalize k + 1 + 1 + 1 = q at *
 have hw5 : wrap64 (upK s (i + 1) + 1 - 1) = upK s (i + 1) := by rw [wrap_id (by omega) (by omega)]; omega
 simp only [laws_FnDivided.l0]
 rw [if_pos (by omega), hw, hups, Option.bind_some, hw5]
 by_cases hz : upK s (i + 1) + 1 > 0
 ·rw [if_pos hz, if_neg (by omega)]
  have : divLv n h s i = decide (Int.tmod (upK s (i + 1)) n < h) := by
   unfold divLv
   rw [decide_eq_true (by omega : 0 ≤ upK s (i + 1)), Bool.true_and]
  rw [this]
 ·rw [if_neg hz]
  have : divLv n h s i = false := by
   unfold divLv
   rw [decide_eq_false (by omega : ¬ 0 ≤ upK s (i + 1)), Bool.false_and]
  rw [this]
theorem dv_end (s d tg : ByteArray) (n h e : Int) (E : Int) (he : 1 ≤ e) (he2 : e ≤ 5) (hE : 0 ≤ E) (hE2 : E ≤ 400) (k : Nat) :
  laws_FnDivided.l0 (k + 1) s n h d e tg E (Int.tdiv (E + e - 1) e) (s.size : Int) = some true := by
 simp only [laws_FnDivided.l0]
 rw [if_neg (by omega), if_neg (by omega), wrap_id (x := E + e) (by omega) (by omega), wrap_id (x := E + e - 1) (by omega) (by omega)]
 have := dv_cle e E he he2 hE hE2
 rw [wrap_id (by omega) (by omega), beq_self_eq_true]
theorem tog_next (e : Int) (s : ByteArray) (i : Nat) : togSt e s (i + 1) = if bt s (i : Int) = prevB s i then (bt s (i : Int), (togSt e s i).2.1, (togSt e s i).2.2) else (bt s (i : Int), wrap64 ((togSt e s i).2.1 + 1), if Int.tmod (togSt e s i).2.1 e = 0 then !(togSt e s i).2.2 else (togSt e s i).2.2) := by
 rw [← tog_prev e s i]
 rfl
theorem dv_loop (s d tg : ByteArray) (n h e : Int) (hn : 1 ≤ n) (he : 1 ≤ e) (he2 : e ≤ 5) (hs : s.size ≤ 400) (ws : waveB s.data.toList = true)
  (hdz : d.size = s.size) (htz : tg.size = s.size) (hd : ∀ i, i < s.size → bt d (i : Int) = lev (divLv n h s i)) (ht : ∀ i, i < s.size → bt tg (i : Int) = lev (togSt e s (i + 1)).2.2) (c : Nat) : ∀ i k, s.size - i = c → i ≤ s.size → c * 4 + 905 < k →
  laws_FnDivided.l0 k s n h d e tg (togSt e s i).2.1 (Int.tdiv ((togSt e s i).2.1 + e - 1) e) (i : Int) = some true := by
 induction c with
 | zero =>
  intro i k hc hi hk
  obtain rfl : i = s.size := by omega
  obtain ⟨k, rfl⟩ : ∃ q, k = q + 1 := ⟨k - 1, by omega⟩
  have hr := tog_range e s s.size hs
  exact dv_end s d tg n h e _ he he2 hr.1 (by omega) k
 | succ c ih0 =>
  intro i k hc hi hk
  obtain ⟨k, rfl⟩ : ∃ q, k = q + 1 + 1 + 1 + 1 := ⟨k - 4, by omega⟩
  have ih := ih0 (i + 1) k (by omega) (by omega) (by omega)
  clear ih0
  have hr := tog_range e s i (by omega)
  rw [dv_step s d tg n h e (fun j => (togSt e s j).2.2) rfl hn hs ws hdz htz hd ht i (by omega) _ _ k (by omega)]
  have hst := tog_next e s i
  have hcl := dv_cle e (togSt e s i).2.1 he he2 hr.1 (by omega)
  have hcn := dv_count e (togSt e s i).2.1 he he2 hr.1 (by omega)
  generalize togSt e s (i + 1) = x at *
  generalize togSt e s i = y at *
  by_cases hq : bt s (i : Int) = prevB s i
  ·rw [if_pos hq] at hst
   rw [beq_iff_eq.2 hq, if_neg (by decide), if_pos (by rw [hst])]
   rw [hst] at ih
   exact ih
  ·rw [if_neg hq] at hst
   rw [beq_eq_false_iff_ne.2 hq, if_pos (by decide), wrap_id (x := y.2.1 + 1) (by omega) (by omega), wrap_id (x := Int.tdiv (y.2.1 + e - 1) e + 1) (by omega) (by omega)]
   rw [wrap_id (x := y.2.1 + 1) (by omega) (by omega)] at hst
   rw [hst] at ih ⊢
   dsimp only at ih ⊢
   rw [hcn] at ih
   by_cases hm : Int.tmod y.2.1 e = 0
   ·rw [if_pos hm] at ih
    rw [if_pos hm, if_neg (by cases y.2.2 <;> decide)]
    exact ih
   ·rw [if_neg hm] at ih
    rw [if_neg hm, if_pos rfl]
    exact ih
theorem FnDivided : laws_FnDivided.Pure := by
 intro l0 l1 _ _ w0 _ _ w1
 obtain ⟨K, hK⟩ : ∃ K : Nat, 3000 ≤ K := ⟨3000, Nat.le_refl _⟩
 refine ⟨K + 1, ?_⟩
 unfold laws_FnDivided.f laws_b10Long.f
 by_cases c0 : (l0.length : Int) > 1048576
 ·rw [if_pos c0]; rfl
 rw [if_neg c0]
 by_cases c1 : (l1.length : Int) > 1048576
 ·rw [decide_eq_true c1]; rfl
 rw [decide_eq_false c1]
 simp only [Option.bind_some]
 rw [if_neg (by decide)]
 obtain ⟨s, hs, hw⟩ := wave10_tells l0 (fun x hx => wf8 (w0 x hx)) (by omega) (K + 1) (by omega)
 obtain ⟨a, ha, a0, a1⟩ := b10At_in l1 w1 0 6 (by omega) (by omega) (by omega)
 have x1 : wrap64 (1 + a) = 1 + a := wrap_id (by omega) (by omega)
 have x2 : wrap64 (1 + a + 1) = 1 + a + 1 := wrap_id (by omega) (by omega)
 obtain ⟨b, hb, b0, b1⟩ := b10At_in l1 w1 1 (1 + a + 1) (by omega) (by omega) (by omega)
 obtain ⟨c, hc, c0', c1'⟩ := b10At_in l1 w1 2 4 (by omega) (by omega) (by omega)
 obtain ⟨e, he, e0, e1⟩ := b10At_in l1 w1 3 5 (by omega) (by omega) (by omega)
 have x3 : wrap64 (1 + c) = 1 + c := wrap_id (by omega) (by omega)
 have x4 : wrap64 (1 + e) = 1 + e := wrap_id (by omega) (by omega)
 rw [hs]
 simp only [Option.bind_some]
 rw [ha]
 simp only [Option.bind_some]
 rw [x1, x2, hb]
 simp only [Option.bind_some]
 rw [hc]
 simp only [Option.bind_some]
 rw [x3]
 have d1 : dividerOk (1 + a) b = true := by
  unfold dividerOk
  simp only [Bool.and_eq_true, decide_eq_true_eq]
  omega
 have d2 : dividerOk (1 + c) 1 = true := by
  unfold dividerOk
  simp only [Bool.and_eq_true, decide_eq_true_eq]
  omega
 have hsz : s.size ≤ 400 ∧ waveB s.data.toList = true := by
  unfold isWaveB at hw
  simpa using hw
 have hz1 : (strOfNums (waveL (divLv (1 + a) b s) s.size)).size = s.size := by rw [str_size, waveL_length]
 have hz2 : (strOfNums (waveL (togLv (1 + e) s) s.size)).size = s.size := by rw [str_size, waveL_length]
 have hch : impl_DivideChain.f [⟨1 + a, b⟩, ⟨1 + c, 1⟩] s = some (strOfNums (waveL (divLv (1 + c) 1 (strOfNums (waveL (divLv (1 + a) b s) s.size))) (strOfNums (waveL (divLv (1 + a) b s) s.size)).size), true) := by
  have g1 : divGood ⟨1 + a, b⟩ = true := d1
  have g2 : divGood ⟨1 + c, 1⟩ = true := d2
  unfold impl_DivideChain.f chainOk
  rw [hw]
  simp only [List.any_cons, List.any_nil, g1, g2]
  rfl
 have htg : impl_ToggleWave.f (1 + e) s = some (strOfNums (waveL (togLv (1 + e) s) s.size), true) := by
  unfold impl_ToggleWave.f togOk
  rw [hw, decide_eq_true (by omega : (1 : Int) ≤ 1 + e), decide_eq_true (by omega : 1 + e ≤ (64 : Int))]
  rfl
 rw [dw_tells _ _ s d1 hw]
 simp only [Option.bind_some]
 rw [dw_tells _ _ _ d2 (isWave_wave _ _ hsz.1)]
 simp only [Option.bind_some]
 rw [hch]
 simp only [Option.bind_some]
 rw [he]
 simp only [Option.bind_some]
 rw [x4, htg]
 simp only [Option.bind_some, if_true]
 rw [hz1, hz2, if_pos rfl, if_pos rfl, valid_tells, d1]
 simp only [Option.bind_some]
 simp only [laws_FnDivided.j0]
 rw [if_neg (by decide)]
 have hfin := dv_loop s _ _ (1 + a) b (1 + e) (by omega) (by omega) (by omega) hsz.1 hsz.2 hz1 hz2 (fun i hi => wave_at _ _ i hi) (fun i hi => wave_at (togLv (1 + e) s) _ i hi) s.size 0 K (by omega) (by omega) (by omega)
 have h0 : (togSt (1 + e) s 0).2.1 = 0 := rfl
 have hz : Int.tdiv (0 + (1 + e) - 1) (1 + e) = 0 := by
  rw [Int.tdiv_eq_ediv_of_nonneg (by omega)]
  exact Int.ediv_eq_zero_of_lt (by omega) (by omega)
 rw [h0, hz] at hfin
 exact hfin
end Go.Proofs.YtmipelgjmmgmnaaDoor.Pure
