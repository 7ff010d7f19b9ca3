-- Written for this claim by a program of this session.
import Derived.Test.YtahjcmmgdcedpaaUCoreT4
import Derived.Test.YtahjcmmgdcedpaaUCoreT6
import Derived.Test.YtahjcmmgdcedpaaUKTPaxf3
/- For every drawn diagram and every drawn times the law of timings answers yes. -/
namespace Go.Proofs.Ytahjcmmgdcedpaa.Pure
open Go.RowKit Go.Proofs.Ytahjcmmgdcedpaa.Pa Go.Proofs.YtahjcmmgdcedpaaW.PrintWords Go.Proofs.YtahjcmmgdcedpaaW.PrintLast Go.Proofs.YtahjcmmgdcedpaaW.PrintMore
set_option linter.unusedVariables false
set_option linter.unusedSimpArgs false

theorem wf8t {x : Int} (h : (Lit.int .u8 x).wf = true) : 0 ≤ x ∧ x ≤ 255 := by
 simp only [Lit.wf, IntKind.min, IntKind.max, IntKind.signed, IntKind.bits, Bool.and_eq_true, decide_eq_true_eq, if_true] at h
 simp at h
 omega
theorem r8At_in (l : List Int) (hl : Bytes l) (i : Nat) (n : Nat) (hi : i ≤ 1000) (hn : 1 ≤ n) (hn2 : n ≤ 1000) : ∃ t : Nat, laws_r8At.f l (i : Int) (n : Int) = some (t : Int) ∧ t < n := by
 unfold laws_r8At.f
 by_cases h1 : (n : Int) ≤ 1
 ·rw [if_pos h1]
  exact ⟨0, rfl, by omega⟩
 ·rw [if_neg h1]
  by_cases h2 : (i : Int) ≥ (l.length : Int)
  ·rw [if_pos h2]
   exact ⟨0, rfl, by omega⟩
  ·have hlt : i < l.length := by omega
   have hb := hl l[i] (List.getElem_mem hlt)
   rw [if_neg h2, if_pos (by omega), if_pos (by omega), if_neg (by omega), rd_get hlt, wrap_id (by omega) (by omega)]
   have t0 : 0 ≤ Int.tmod l[i] (n : Int) := Int.tmod_nonneg _ hb.1
   have t1 : Int.tmod l[i] (n : Int) < (n : Int) := Int.tmod_lt_of_pos _ (by omega)
   exact ⟨(Int.tmod l[i] (n : Int)).toNat, by congr 1; omega, by omega⟩
theorem up_of {α : Type} {f : Nat → Option α} (hm : ∀ k, LeO (f k) (f (k + 1))) {k0 : Nat} {r : α} (h : f k0 = some r) : ∀ k, k0 ≤ k → f k = some r := by
 intro k hk
 obtain ⟨d, rfl⟩ : ∃ d, k = k0 + d := ⟨k - k0, by omega⟩
 induction d with
 | zero => exact h
 | succ d ih => exact hm _ _ (ih (by omega))
theorem wrapS (i : Nat) (h : i ≤ 1000) : wrap64 ((i : Int) + 1) = ((i + 1 : Nat) : Int) := by
 rw [wrap_id (by omega) (by omega)]
 omega
theorem own_loop (n : Int) (bs : List S32) (times x1 : List Int) (is : Bool) (hl : bs.length ≤ 24) (hb : ∀ b ∈ bs, 0 ≤ b.f0 ∧ b.f0 < (times.length : Int) ∧ 0 ≤ b.f1 ∧ b.f1 < (times.length : Int)) (hr : ∀ t ∈ times, -6 ≤ t ∧ t ≤ 23) : ∀ d i k (o : Bool), bs.length - i = d → i ≤ bs.length →
  laws_FnTimings.l0 (k + d) x1 n times is o (i : Int) n bs = laws_FnTimings.l0 k x1 n times is (o && !(bs.drop i).any (badBound times)) (bs.length : Int) n bs
 | 0, i, k, o, hd, hi => by
  obtain rfl : i = bs.length := by omega
  rw [List.drop_of_length_le (Nat.le_refl _)]
  simp
 | d + 1, i, k, o, hd, hi => by
  have hlt : i < bs.length := by omega
  obtain ⟨b0, b1, b2, b3⟩ := hb bs[i] (List.getElem_mem hlt)
  have hrd : rd_T32 bs (i : Int) = bs[i] := by
   unfold rd_T32
   rw [List.getD_eq_getElem?_getD, Int.toNat_natCast, List.getElem?_eq_getElem hlt]
   rfl
  have hin : ∀ x : Int, 0 ≤ x → x < (times.length : Int) → -6 ≤ rd times x ∧ rd times x ≤ 23 := by
   intro x h0 h1
   obtain ⟨j, rfl⟩ : ∃ j : Nat, x = j := ⟨x.toNat, by omega⟩
   rw [rd_get (by omega)]
   exact hr _ (List.getElem_mem _)
  have r0 := hin _ b0 b1
  have r1 := hin _ b2 b3
  have ih := fun o => own_loop n bs times x1 is hl hb hr d (i + 1) k o (by omega) (by omega)
  rw [show k + (d + 1) = (k + d) + 1 from rfl, List.drop_eq_getElem_cons hlt, List.any_cons]
  simp only [laws_FnTimings.l0]
  rw [if_pos (by omega), hrd, wrapS i (by omega)]
  cases o with
  | false =>
   rw [if_neg (by decide), ih false]
   simp
  | true =>
   rw [if_pos rfl, if_pos (by omega), if_pos b2, if_pos b3, if_pos b0, if_pos b1, wrap_id (by omega) (by omega), ih]
   have he : decide (rd times bs[i].f1 - rd times bs[i].f0 ≤ bs[i].f2) = !(badBound times bs[i]) := by
    unfold badBound
    by_cases hq : rd times bs[i].f1 - rd times bs[i].f0 ≤ bs[i].f2
    ·rw [decide_eq_true hq, decide_eq_false (by omega)]; rfl
    ·rw [decide_eq_false hq, decide_eq_true (by omega)]; rfl
   rw [he, Bool.true_and, Bool.not_or]
theorem l1_loop (n : Nat) (times e l : List Int) (o1 o2 o3 : Bool) (a c : Nat) (x y : Int) (hn : n ≤ 10) (ht : times.length = n) (hr : ∀ j, j < n → -6 ≤ rd times (j : Int) ∧ rd times (j : Int) ≤ 23) (ha : a < n) (hc : c < n)
  (H1 : o1 = true → e.length = n ∧ ∀ j, j < n → rd e (j : Int) ≤ rd times (j : Int) - rd times (a : Int)) (H2 : o2 = true → l.length = n ∧ ∀ j, j < n → rd times (j : Int) - rd times (a : Int) ≤ rd l (j : Int))
  (H3 : o3 = true → x ≤ rd times (c : Int) - rd times (a : Int) ∧ rd times (c : Int) - rd times (a : Int) ≤ y) : ∀ d i k, n - i = d → i ≤ n → d < k →
  laws_FnTimings.l1 k (n : Int) times (a : Int) (c : Int) e o1 l o2 x y o3 (i : Int) = some true
 | 0, i, k, hd, hi, hk => by
  obtain rfl : i = n := by omega
  obtain ⟨k, rfl⟩ : ∃ q, k = q + 1 := ⟨k - 1, by omega⟩
  have r0 := hr a ha
  have r1 := hr c hc
  simp only [laws_FnTimings.l1]
  rw [if_neg (by omega), if_pos (by omega), if_pos (by omega), if_pos (by omega), if_pos (by omega), wrap_id (by omega) (by omega)]
  cases o3 with
  | false => rw [if_neg (by decide)]
  | true =>
   have := H3 rfl
   rw [if_pos rfl, if_pos (by omega), decide_eq_true (by omega)]
 | d + 1, i, k, hd, hi, hk => by
  obtain ⟨k, rfl⟩ : ∃ q, k = q + 1 := ⟨k - 1, by omega⟩
  have hlt : i < n := by omega
  have ih := l1_loop n times e l o1 o2 o3 a c x y hn ht hr ha hc H1 H2 H3 d (i + 1) k (by omega) (by omega) (by omega)
  have r0 := hr a ha
  have r1 := hr i hlt
  simp only [laws_FnTimings.l1]
  rw [wrapS i (by omega), ih, wrap_id (x := rd times (i : Int) - rd times (a : Int)) (by omega) (by omega), if_pos (by omega), if_pos (by omega), if_pos (by omega), if_pos (by omega), if_pos (by omega)]
  have g2 : (if o2 = true then if (i : Int) < (l.length : Int) then if rd times (i : Int) - rd times (a : Int) > rd l (i : Int) then some false else some true else none else some true) = some true := by
   cases o2 with
   | false => rfl
   | true =>
    have h := H2 rfl
    have := h.2 i hlt
    rw [if_pos rfl, if_pos (by omega), if_neg (by omega)]
  rw [g2]
  cases o1 with
  | false => rfl
  | true =>
   have h := H1 rfl
   have := h.2 i hlt
   rw [if_pos rfl, if_pos (by omega), if_neg (by omega)]
theorem FnTimings : laws_FnTimings.Pure := by
 intro l0 l1 _ _ w0 _ _ w1
 have hb0 : Bytes l0 := fun x hx => wf8t (w0 x hx)
 have hb1 : Bytes l1 := fun x hx => wf8t (w1 x hx)
 cases hlong : laws_r8Long.f l0 l1 with
 | none =>
  exfalso
  unfold laws_r8Long.f at hlong
  split at hlong <;> cases hlong
 | some long =>
 cases long with
 | true =>
  refine ⟨0, ?_⟩
  unfold laws_FnTimings.f
  rw [hlong]
  rfl
 | false =>
 have hlen : l0.length ≤ 1000 ∧ l1.length ≤ 1000 := by
  unfold laws_r8Long.f at hlong
  split at hlong
  ·cases hlong
  ·have := Option.some.inj hlong
   simp only [decide_eq_false_iff_not] at this
   omega
 obtain ⟨K0, hK0⟩ := diagram_tells l0 hb0 hlen.1
 obtain ⟨n, bs, hd, hn1, hn6, hbl, hgood⟩ := hK0 K0 (Nat.le_refl _)
 have hd' := up_of (fun k => spec_R8Diagram.mono l0 k) hd
 obtain ⟨K1, hK1⟩ := times_tell l1 hb1 hlen.2 n (by omega)
 obtain ⟨times, ht, htl, htr⟩ := hK1 K1 (Nat.le_refl _)
 have ht' := up_of (fun k => spec_R8Times.mono l1 (n : Int) k) ht
 have hB : ∀ b ∈ bs, Bd n b := by
  intro b hb
  have := hgood b hb
  unfold Good8 at this
  unfold Bd I64
  omega
 have hL : ∀ b ∈ bs, Lim b := by
  intro b hb
  have := hgood b hb
  unfold Good8 at this
  unfold Lim
  omega
 have hok : diagramOk (n : Int) bs = true := by
  unfold diagramOk
  rw [decide_eq_true (by omega : (1 : Int) ≤ (n : Int)), decide_eq_true (by omega : (n : Int) ≤ 10), decide_eq_true (by omega : bs.length ≤ 24), Bool.true_and, Bool.true_and, Bool.true_and, List.all_eq_true]
  intro b hb
  have := hgood b hb
  unfold Good8 at this
  unfold boundOk
  simp only [Bool.and_eq_true, decide_eq_true_eq, Bool.not_eq_true', beq_eq_false_iff_ne]
  omega
 have hrd : ∀ j, j < n → -6 ≤ rd times (j : Int) ∧ rd times (j : Int) ≤ 23 := by
  intro j hj
  rw [rd_get (by omega)]
  exact htr _ (List.getElem_mem _)
 have his : timingOk (n : Int) bs times = !(bs.any (badBound times)) := by
  unfold timingOk
  have h1 : ((times.length : Int) == (n : Int)) = true := beq_iff_eq.2 (by omega)
  have h2 : anyBadTime times = false := by
   unfold anyBadTime
   rw [List.any_eq_false]
   intro x hx
   have := htr x hx
   unfold badTime
   rw [decide_eq_true (by omega : (-1000000 : Int) ≤ x), decide_eq_true (by omega : x ≤ (1000000 : Int))]
   decide
  rw [hok, h1, h2]
  rfl
 obtain ⟨a, ha, han⟩ := r8At_in l1 hb1 40 n (by omega) hn1 (by omega)
 obtain ⟨c, hc, hcn⟩ := r8At_in l1 hb1 41 n (by omega) hn1 (by omega)
 obtain ⟨K2, hK2⟩ := early_val (a := (a : Int)) hn1 (by omega) (by omega) hB hok (by omega) (by omega)
 obtain ⟨K3, hK3⟩ := late_val (a := (a : Int)) hn1 (by omega) (by omega) hB hok (by omega) (by omega)
 obtain ⟨K4, hK4⟩ := gap_val (a := (a : Int)) (c := (c : Int)) hn1 (by omega) (by omega) hB hok (by omega) (by omega) (by omega) (by omega)
 obtain ⟨K, hK⟩ : ∃ K, K0 + K1 + K2 + K3 + K4 + 100 ≤ K := ⟨_, Nat.le_refl _⟩
 refine ⟨K + 1 + bs.length, ?_⟩
 unfold laws_FnTimings.f
 rw [hlong]
 simp only [Option.bind_some, Bool.false_eq_true, if_false]
 rw [hd' _ (by omega)]
 simp only [Option.bind_some]
 rw [ht' _ (by omega)]
 simp only [Option.bind_some]
 have hit : ∀ l : List Int, impl_IsTiming.f (n : Int) bs l = some (timingOk (n : Int) bs l) := fun l => rfl
 rw [hit]
 simp only [Option.bind_some]
 have hown := own_loop (n : Int) bs times l1 (timingOk (n : Int) bs times) (by omega) (fun b hb => by
  have := hB b hb
  unfold Bd at this
  omega) htr bs.length 0 (K + 1) true (by omega) (by omega)
 rw [show ((0 : Nat) : Int) = 0 from rfl, List.drop_zero, Bool.true_and, ← his] at hown
 rw [hown]
 simp only [laws_FnTimings.l0]
 rw [if_neg (by omega), bne_self_eq_false, if_neg (by decide)]
 rw [show (40 : Int) = ((40 : Nat) : Int) from rfl, show (41 : Int) = ((41 : Nat) : Int) from rfl, ha, hc]
 simp only [Option.bind_some]
 rw [hK2 K (by omega), hK3 K (by omega), hK4 K (by omega)]
 simp only [Option.bind_some, hit]
 have E := fun e => early_timing (n := n) (bs := bs) (by omega) hB hL hok han (e := e)
 have L := fun e => late_timing (n := n) (bs := bs) (by omega) hB hL hok han (e := e)
 have EA := fun e => early_at (n := n) (bs := bs) (by omega) hB hL han (e := e)
 have LA := fun e => late_at (n := n) (bs := bs) (by omega) hB han (e := e)
 have GO := fun x y => gap_order (n := n) (bs := bs) (by omega) hB hL han hcn (x := x) (y := y)
 have GA := fun x y => gap_at (n := n) (bs := bs) (by omega) hB hL han hcn (x := x) (y := y)
 have TI : timingOk (n : Int) bs times = true → feasible n bs [] = true → ∀ i j, i < n → j < n → V (tight n bs []) i j ≠ 1000000 → rd times (j : Int) - rd times (i : Int) ≤ V (tight n bs []) i j := by
  intro hq hf i j hi hj hv
  exact times_in (by omega) hB hL hf (fun i => rd times (i : Int)) (timing_off hB hq) hi hj hv
 generalize earlyV n bs (a : Int) = ev at *
 generalize lateV n bs (a : Int) = lv at *
 generalize gapV n bs (a : Int) (c : Int) = gv at *
 obtain ⟨e, o1⟩ := ev
 obtain ⟨l, o2⟩ := lv
 obtain ⟨x, y, o3⟩ := gv
 have goal : laws_FnTimings.j1 K (n : Int) times (timingOk (n : Int) bs times) (a : Int) (c : Int) e o1 l o2 x y o3 false = some true := by
  obtain ⟨q, rfl⟩ : ∃ q, K = q + 1 := ⟨K - 1, by omega⟩
  simp only [laws_FnTimings.j1, Bool.false_eq_true, if_false]
  cases hq : timingOk (n : Int) bs times with
  | false => rw [if_neg (by decide)]
  | true =>
   rw [if_pos rfl]
   have hgo := l1_loop n times e l o1 o2 o3 a c x y (by omega) htl hrd han hcn (fun ho => ?_) (fun ho => ?_) (fun ho => ?_) n 0 q (by omega) (by omega) (by omega)
   ·exact hgo
   ·subst ho
    obtain ⟨hf, hle, hat⟩ := EA e rfl
    refine ⟨hle, fun j hj => ?_⟩
    have := TI hq hf j a hj han (hat j hj).1
    rw [(hat j hj).2]
    omega
   ·subst ho
    obtain ⟨hf, hle, hat⟩ := LA l rfl
    refine ⟨hle, fun j hj => ?_⟩
    have := TI hq hf a j han hj (hat j hj).1
    rw [(hat j hj).2]
    omega
   ·subst ho
    obtain ⟨hf, h1, h2, rfl, rfl⟩ := GA x y rfl
    have t1 := TI hq hf a c han hcn h1
    have t2 := TI hq hf c a hcn han h2
    omega
 have g3 : (if o3 = true then laws_FnTimings.j1 K (n : Int) times (timingOk (n : Int) bs times) (a : Int) (c : Int) e o1 l o2 x y o3 (decide (x > y)) else laws_FnTimings.j1 K (n : Int) times (timingOk (n : Int) bs times) (a : Int) (c : Int) e o1 l o2 x y o3 false) = some true := by
  cases o3 with
  | false => rw [if_neg (by decide)]; exact goal
  | true =>
   have := GO x y rfl
   rw [if_pos rfl, decide_eq_false (by omega)]
   exact goal
 simp only [g3]
 cases o1 with
 | true =>
  have h1 := E e rfl
  have h2 := (EA e rfl).2.1
  rw [if_pos rfl, if_pos h1.1, if_pos (by omega), if_pos (by omega), if_pos h1.2]
  cases o2 with
  | true =>
   have h3 := L l rfl
   have h4 := (LA l rfl).2.1
   rw [if_pos rfl, if_pos h3.1, if_pos (by omega), if_pos h3.2]
  | false => rfl
 | false =>
  rw [if_neg (by decide)]
  cases o2 with
  | true =>
   have h3 := L l rfl
   have h4 := (LA l rfl).2.1
   rw [if_pos rfl, if_pos h3.1, if_pos (by omega), if_pos (by omega), if_pos h3.2]
  | false => rfl
end Go.Proofs.Ytahjcmmgdcedpaa.Pure
