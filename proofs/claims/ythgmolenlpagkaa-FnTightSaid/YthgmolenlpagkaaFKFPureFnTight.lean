-- Written for this claim by a program of this session.
import Derived.Test.YthgmolenlpagkaaFCoreF6
import Derived.Test.YthgmolenlpagkaaFCoreF2
import Derived.Test.YthgmolenlpagkaaFCoreF5
import Derived.Test.YthgmolenlpagkaaFKFPaxf3
/- For every drawn diagram the law of the tightest bounds answers yes. -/
namespace Go.Proofs.Ythgmolenlpagkaa.Pure
open Go.RowKit Go.Proofs.Ythgmolenlpagkaa.Pa Go.Proofs.YthgmolenlpagkaaW.PrintWords Go.Proofs.YthgmolenlpagkaaW.PrintLast Go.Proofs.YthgmolenlpagkaaW.PrintMore
set_option linter.unusedVariables false
set_option linter.unusedSimpArgs false

theorem wf8t {x : Int} (h : (Lit.int .u8 x).wf = true) : 0 ≤ x ∧ x ≤ 255 := by
 simp only [Lit.wf, IntKind.min, IntKind.max, IntKind.signed, IntKind.bits, Bool.and_eq_true, decide_eq_true_eq, if_true] at h
 simp at h
 omega
theorem r8At_in (l : List Int) (hl : Bytes l) (i : Nat) (n : Nat) (hi : i ≤ 1000) (hn : 1 ≤ n) (hn2 : n ≤ 1000) : ∃ t : Nat, laws_r8At.f l (i : Int) (n : Int) = some (t : Int) ∧ t < n := by
 unfold laws_r8At.f
 by_cases h1 : (n : Int) ≤ 1
 ·rw [if_pos h1]
  exact ⟨0, rfl, by omega⟩
 ·rw [if_neg h1]
  by_cases h2 : (i : Int) ≥ (l.length : Int)
  ·rw [if_pos h2]
   exact ⟨0, rfl, by omega⟩
  ·have hlt : i < l.length := by omega
   have hb := hl l[i] (List.getElem_mem hlt)
   rw [if_neg h2, if_pos (by omega), if_pos (by omega), if_neg (by omega), rd_get hlt, wrap_id (by omega) (by omega)]
   have t0 : 0 ≤ Int.tmod l[i] (n : Int) := Int.tmod_nonneg _ hb.1
   have t1 : Int.tmod l[i] (n : Int) < (n : Int) := Int.tmod_lt_of_pos _ (by omega)
   exact ⟨(Int.tmod l[i] (n : Int)).toNat, by congr 1; omega, by omega⟩
theorem up_of {α : Type} {f : Nat → Option α} (hm : ∀ k, LeO (f k) (f (k + 1))) {k0 : Nat} {r : α} (h : f k0 = some r) : ∀ k, k0 ≤ k → f k = some r := by
 intro k hk
 obtain ⟨d, rfl⟩ : ∃ d, k = k0 + d := ⟨k - k0, by omega⟩
 induction d with
 | zero => exact h
 | succ d ih => exact hm _ _ (ih (by omega))
theorem wrapS (i : Nat) (h : i ≤ 1000) : wrap64 ((i : Int) + 1) = ((i + 1 : Nat) : Int) := by
 rw [wrap_id (by omega) (by omega)]
 omega
theorem rd_cons1 (a : Int) (r : List Int) (i : Nat) : rd (a :: r) ((i + 1 : Nat) : Int) = rd r (i : Int) := by
 unfold rd
 simp
theorem Chn_at (l : List S36) : ∀ (ls : List Int), Chn l ls → ∀ i : Nat, i + 1 < ls.length → (bdAt l (rd ls (i : Int))).f1 = (bdAt l (rd ls ((i + 1 : Nat) : Int))).f0
 | [], _, i, h => by simp at h
 | [_], _, i, h => by simp at h
 | a :: b :: r, hc, i, h => by
  cases i with
  | zero => exact hc.1
  | succ i =>
   rw [rd_cons1, rd_cons1]
   exact Chn_at l (b :: r) hc.2 i (by simpa using h)
theorem ring_loop (n : Int) (bs : List S36) (hl : ∀ b ∈ bs, Lim b) (x : List Int) (hc : Closed bs x) (h2 : 2 ≤ x.length) (h10 : x.length ≤ 10) : ∀ d i s, i + d = x.length → -1000 * (i : Int) ≤ s → s ≤ 1000 * (i : Int) → s + sumB bs (x.drop i) < 0 →
  laws_FnTight.l0 (d + 1) x s (i : Int) n bs = some true
 | 0, i, s, hi, h0, h1, hs => by
  rw [List.drop_of_length_le (by omega)] at hs
  have e : sumB bs [] = 0 := rfl
  simp only [laws_FnTight.l0]
  rw [if_neg (by omega), if_pos (by omega), decide_eq_true (by omega)]
 | d + 1, i, s, hi, h0, h1, hs => by
  have hlt : i < x.length := by omega
  obtain ⟨⟨p1, _, p3⟩, hcl, _⟩ := hc
  have hx := p1 x[i] (List.getElem_mem hlt)
  have hL := hl _ (bdAt_mem hx.1 hx.2)
  unfold Lim at hL
  have ed : sumB bs (x.drop i) = (bdAt bs x[i]).f2 + sumB bs (x.drop (i + 1)) := by
   rw [List.drop_eq_getElem_cons hlt]
   simp only [sumB, List.map_cons, List.sum_cons]
  rw [ed] at hs
  have ih := ring_loop n bs hl x ⟨⟨p1, by assumption, p3⟩, hcl, by assumption⟩ h2 h10 d (i + 1) (s + (bdAt bs x[i]).f2) (by omega) (by push_cast; omega) (by push_cast; omega) (by omega)
  obtain ⟨nx, hnx, hnl, hn1⟩ : ∃ nx : Nat, Int.tmod ((i + 1 : Nat) : Int) (x.length : Int) = (nx : Int) ∧ nx < x.length ∧ (bdAt bs (rd x (i : Int))).f1 = (bdAt bs (rd x (nx : Int))).f0 := by
   by_cases c : i + 1 < x.length
   ·exact ⟨i + 1, Int.tmod_eq_of_lt (by omega) (by omega), c, Chn_at bs x p3 i c⟩
   ·refine ⟨0, ?_, by omega, ?_⟩
    ·rw [show i + 1 = x.length by omega, Int.tmod_self]
     rfl
    ·rw [← show ((0 : Nat) : Int) = 0 from rfl] at hcl
     rw [← hcl]
     unfold endOf bdAt
     rw [show ((x.length : Int) - 1) = (i : Int) by omega]
  have hy := p1 x[nx] (List.getElem_mem hnl)
  rw [rd_get hlt, rd_get hnl] at hn1
  unfold bdAt at hn1 ih hL
  rw [laws_FnTight.l0]
  rw [if_pos (by omega), if_pos (by omega), rd_get hlt, if_neg (by omega), if_neg (by omega), if_pos hx.1, if_pos hx.2, if_neg (by omega), wrapS i (by omega), hnx, if_pos (by omega), if_pos (by omega), rd_get hnl, if_pos hy.1, if_pos hy.2, if_pos hn1, wrap_id (by omega) (by omega), ih]
section
variable {n : Nat} {bs : List S36} {T : List (List Int)} {x1 : List Int}
theorem l3_loop (hn : n ≤ 10) (hS : Sq n T) (hR : ∀ i j, i < n → j < n → V T i j < 1000000 → -10000 ≤ V T i j ∧ V T i j ≤ 10000) (hV : ∀ i x j, i < n → x < n → j < n → V T i x < 1000000 → V T x j < 1000000 → V T i j ≤ V T i x + V T x j) {i j : Nat} (hi : i < n) (hj : j < n)
  (H : ∃ K, laws_FnTight.l2 K x1 (n : Int) T (i : Int) ((j + 1 : Nat) : Int) (n : Int) bs = some true) : ∀ d x, x + d = n → ∃ K, laws_FnTight.l3 K x1 (n : Int) T (i : Int) (j : Int) (x : Int) (n : Int) bs = some true
 | 0, x, hx => by
  obtain ⟨K, hK⟩ := H
  refine ⟨K + 1, ?_⟩
  simp only [laws_FnTight.l3]
  rw [if_neg (by omega), wrapS j (by omega), hK]
 | d + 1, x, hx => by
  obtain ⟨K, hK⟩ := l3_loop hn hS hR hV hi hj H d (x + 1) (by omega)
  have hl := hS.1
  have ri := row_len hS hi
  have rx := row_len hS (i := x) (by omega)
  have h1 := hR i x hi (by omega)
  have h2 := hR x j (by omega) hj
  have h3 := hV i x j hi (by omega) hj
  unfold V at h1 h2 h3
  refine ⟨K + 1, ?_⟩
  simp only [laws_FnTight.l3]
  rw [if_pos (by omega), if_pos (by omega), if_pos (by omega), if_pos (by omega), if_pos (by omega), wrapS x (by omega), hK]
  by_cases c1 : rd (rd_L6 T (i : Int)) (x : Int) < 1000000
  ·rw [if_pos c1, if_pos (by omega), if_pos (by omega), if_pos (by omega)]
   by_cases c2 : rd (rd_L6 T (x : Int)) (j : Int) < 1000000
   ·have h1 := h1 c1
    have h2 := h2 c2
    have h3 := h3 c1 c2
    rw [if_pos c2, if_pos (by omega), wrap_id (by omega) (by omega), if_neg (by omega)]
   ·rw [if_neg c2]
  ·rw [if_neg c1]
theorem l2_loop (hn : n ≤ 10) (hS : Sq n T) (hR : ∀ i j, i < n → j < n → V T i j < 1000000 → -10000 ≤ V T i j ∧ V T i j ≤ 10000) (hV : ∀ i x j, i < n → x < n → j < n → V T i x < 1000000 → V T x j < 1000000 → V T i j ≤ V T i x + V T x j) {i : Nat} (hi : i < n)
  (H : ∃ K, laws_FnTight.l1 K x1 (n : Int) T ((i + 1 : Nat) : Int) (n : Int) bs = some true) : ∀ d j, j + d = n → ∃ K, laws_FnTight.l2 K x1 (n : Int) T (i : Int) (j : Int) (n : Int) bs = some true
 | 0, j, hj => by
  obtain ⟨K, hK⟩ := H
  refine ⟨K + 1, ?_⟩
  simp only [laws_FnTight.l2]
  rw [if_neg (by omega), wrapS i (by omega), hK]
 | d + 1, j, hj => by
  obtain ⟨K, hK⟩ := l3_loop hn hS hR hV hi (show j < n by omega) (l2_loop hn hS hR hV hi H d (j + 1) (by omega)) n 0 (by omega)
  refine ⟨K + 1, ?_⟩
  simp only [laws_FnTight.l2]
  rw [if_pos (by omega)]
  exact hK
theorem l1_loop (hn : n ≤ 10) (hS : Sq n T) (hR : ∀ i j, i < n → j < n → V T i j < 1000000 → -10000 ≤ V T i j ∧ V T i j ≤ 10000) (hV : ∀ i x j, i < n → x < n → j < n → V T i x < 1000000 → V T x j < 1000000 → V T i j ≤ V T i x + V T x j) (hd : ∀ i, i < n → V T i i = 0)
  (H : ∃ K, laws_FnTight.l4 K x1 (n : Int) T 0 (n : Int) bs = some true) : ∀ d i, i + d = n → ∃ K, laws_FnTight.l1 K x1 (n : Int) T (i : Int) (n : Int) bs = some true
 | 0, i, hi => by
  obtain ⟨K, hK⟩ := H
  refine ⟨K + 1, ?_⟩
  simp only [laws_FnTight.l1]
  rw [if_neg (by omega), hK]
 | d + 1, i, hi => by
  obtain ⟨K, hK⟩ := l2_loop hn hS hR hV (show i < n by omega) (l1_loop hn hS hR hV hd H d (i + 1) (by omega)) n 0 (by omega)
  have hl := hS.1
  have ri := row_len hS (i := i) (by omega)
  have hz := hd i (by omega)
  unfold V at hz
  refine ⟨K + 2, ?_⟩
  rw [show K + 2 = (K + 1) + 1 from rfl]
  rw [laws_FnTight.l1]
  rw [if_pos (by omega), if_pos (by omega), if_pos (by omega), if_pos (by omega), if_pos (by omega), hz, bne_self_eq_false]
  simp only [laws_FnTight.j3, Bool.false_eq_true, if_false]
  exact hK
theorem l4_loop (hn : n ≤ 10) (hl : bs.length ≤ 24) (hS : Sq n T) (hb : ∀ b ∈ bs, Bd n b) (hv : ∀ b ∈ bs, V T b.f0.toNat b.f1.toNat ≤ b.f2)
  (H : ∃ K, ((laws_r8At.f x1 0 (n : Int)).bind fun t276 => ((impl_LatestTimes.f K (n : Int) bs t276).bind fun bt277 => (laws_FnTight.l5 K (n : Int) T t276 bt277.1 bt277.2 true 0 (n : Int) bs))) = some true) : ∀ d i, i + d = bs.length → ∃ K, laws_FnTight.l4 K x1 (n : Int) T (i : Int) (n : Int) bs = some true
 | 0, i, hi => by
  obtain ⟨K, hK⟩ := H
  refine ⟨K + 1, ?_⟩
  simp only [laws_FnTight.l4]
  rw [if_neg (by omega), hK]
 | d + 1, i, hi => by
  obtain ⟨K, hK⟩ := l4_loop hn hl hS hb hv H d (i + 1) (by omega)
  have hlt : i < bs.length := by omega
  have hB := hb _ (List.getElem_mem hlt)
  have hv := hv _ (List.getElem_mem hlt)
  unfold Bd at hB
  unfold V at hv
  rw [show ((bs[i].f0.toNat : Nat) : Int) = bs[i].f0 by omega, show ((bs[i].f1.toNat : Nat) : Int) = bs[i].f1 by omega] at hv
  have h1 := hS.1
  have ri := row_len hS (i := bs[i].f0.toNat) (by omega)
  rw [show ((bs[i].f0.toNat : Nat) : Int) = bs[i].f0 by omega] at ri
  refine ⟨K + 1, ?_⟩
  simp only [laws_FnTight.l4]
  rw [if_pos (by omega), if_pos (by omega), rdB_get hlt, if_pos (by omega), if_pos (by omega), if_pos (by omega), if_pos (by omega), if_neg (by omega), wrapS i (by omega), hK]
/-- All entries of a row from j on are bounds. -/
def allB (T : List (List Int)) (a : Nat) : Nat → Nat → Bool
 | 0, _ => true
 | d + 1, j => decide (V T a j < 1000000) && allB T a d (j + 1)
theorem allB_iff (T : List (List Int)) (a : Nat) : ∀ d j, allB T a d j = true ↔ ∀ v, j ≤ v → v < j + d → V T a v < 1000000
 | 0, j => ⟨fun _ v h1 h2 => by omega, fun _ => rfl⟩
 | d + 1, j => by
  unfold allB
  rw [Bool.and_eq_true, decide_eq_true_eq, allB_iff T a d (j + 1)]
  constructor
  ·intro ⟨h0, h⟩ v h1 h2
   by_cases e : v = j
   ·subst e; exact h0
   ·exact h v (by omega) (by omega)
  ·intro h
   exact ⟨h j (by omega) (by omega), fun v h1 h2 => h v (by omega) (by omega)⟩
theorem l5_loop (hn : n ≤ 10) (hS : Sq n T) {a : Nat} (ha : a < n) {e : List Int} {o : Bool} (H : o = true → ∃ K, laws_FnTight.l6 K (n : Int) T (a : Int) e 0 (n : Int) bs = some true) : ∀ d j (q : Bool), j + d = n → o = (q && allB T a d j) → ∃ K, laws_FnTight.l5 K (n : Int) T (a : Int) e o q (j : Int) (n : Int) bs = some true
 | 0, j, q, hj, ho => by
  have ho : o = q := by rw [ho]; simp [allB]
  subst ho
  cases o with
  | false =>
   refine ⟨1, ?_⟩
   simp only [laws_FnTight.l5]
   rw [if_neg (by omega), bne_self_eq_false, if_neg (by decide), if_neg (by decide)]
  | true =>
   obtain ⟨K, hK⟩ := H rfl
   refine ⟨K + 1, ?_⟩
   simp only [laws_FnTight.l5]
   rw [if_neg (by omega), bne_self_eq_false, if_neg (by decide), if_pos trivial, hK]
 | d + 1, j, q, hj, ho => by
  have h1 := hS.1
  have ra := row_len hS ha
  cases q with
  | false =>
   obtain ⟨K, hK⟩ := l5_loop hn hS ha H d (j + 1) false (by omega) (by rw [ho]; rfl)
   refine ⟨K + 1, ?_⟩
   simp only [laws_FnTight.l5]
   rw [if_pos (by omega), if_neg (by decide), wrapS j (by omega), hK]
  | true =>
   obtain ⟨K, hK⟩ := l5_loop hn hS ha H d (j + 1) (decide (V T a j < 1000000)) (by omega) (by rw [ho]; rfl)
   unfold V at hK
   refine ⟨K + 1, ?_⟩
   simp only [laws_FnTight.l5]
   rw [if_pos (by omega), if_pos trivial, if_pos (by omega), if_pos (by omega), if_pos (by omega), if_pos (by omega), wrapS j (by omega), hK]
theorem l6_loop (hn : n ≤ 10) (hS : Sq n T) {a : Nat} (ha : a < n) {e : List Int} (hl : e.length = n) (he : ∀ j, j < n → rd e (j : Int) = V T a j) (ht : timingOk (n : Int) bs e = true) : ∀ d j, j + d = n → laws_FnTight.l6 (d + 1) (n : Int) T (a : Int) e (j : Int) (n : Int) bs = some true
 | 0, j, hj => by
  simp only [laws_FnTight.l6]
  rw [if_neg (by omega)]
  unfold impl_IsTiming.f
  rw [ht]
  rfl
 | d + 1, j, hj => by
  have ih := l6_loop hn hS ha hl he ht d (j + 1) (by omega)
  have h1 := hS.1
  have ra := row_len hS ha
  have hj2 := he j (by omega)
  unfold V at hj2
  rw [show d + 1 + 1 = (d + 1) + 1 from rfl]
  rw [laws_FnTight.l6]
  rw [if_pos (by omega), if_pos (by omega), if_pos (by omega), if_pos (by omega), if_pos (by omega), if_pos (by omega), if_pos hj2, wrapS j (by omega)]
  exact ih
end
theorem l5_mono (y0 : Int) (y1 : List (List Int)) (y2 : Int) (y3 : List Int) (y4 y5 : Bool) (y6 y7 : Int) (y8 : List S36) (k : Nat) : LeO (laws_FnTight.l5 k y0 y1 y2 y3 y4 y5 y6 y7 y8) (laws_FnTight.l5 (k + 1) y0 y1 y2 y3 y4 y5 y6 y7 y8) := (laws_FnTight.mono_l k).2.2.2.2.2.2.2.1 y0 y1 y2 y3 y4 y5 y6 y7 y8
theorem j0_mono (y0 : List Int) (y1 : Int) (y2 : List (List Int)) (y3 : List Int) (y4 y5 : Bool) (y6 : Int) (y7 : List S36) (k : Nat) : LeO (laws_FnTight.j0 k y0 y1 y2 y3 y4 y5 y6 y7) (laws_FnTight.j0 (k + 1) y0 y1 y2 y3 y4 y5 y6 y7) := (laws_FnTight.mono_l k).1 y0 y1 y2 y3 y4 y5 y6 y7
theorem FnTight : laws_FnTight.Pure := by
 intro l0 l1 _ _ w0 _ _ w1
 have hb0 : Bytes l0 := fun x hx => wf8t (w0 x hx)
 have hb1 : Bytes l1 := fun x hx => wf8t (w1 x hx)
 cases hlong : laws_r8Long.f l0 l1 with
 | none =>
  exfalso
  unfold laws_r8Long.f at hlong
  split at hlong <;> cases hlong
 | some long =>
 cases long with
 | true =>
  refine ⟨0, ?_⟩
  unfold laws_FnTight.f
  rw [hlong]
  rfl
 | false =>
 have hlen : l0.length ≤ 1000 ∧ l1.length ≤ 1000 := by
  unfold laws_r8Long.f at hlong
  split at hlong
  ·cases hlong
  ·have := Option.some.inj hlong
   simp only [decide_eq_false_iff_not] at this
   omega
 obtain ⟨K0, hK0⟩ := diagram_tells l0 hb0 hlen.1
 obtain ⟨n, bs, hd, hn1, hn6, hbl, hgood⟩ := hK0 K0 (Nat.le_refl _)
 have hd' := up_of (fun k => spec_R8Diagram.mono l0 k) hd
 have hB : ∀ b ∈ bs, Bd n b := by
  intro b hb
  have := hgood b hb
  unfold Good8 at this
  unfold Bd I64
  omega
 have hL : ∀ b ∈ bs, Lim b := by
  intro b hb
  have := hgood b hb
  unfold Good8 at this
  unfold Lim
  omega
 have hne : ∀ b ∈ bs, b.f0 ≠ b.f1 := by
  intro b hb
  have := hgood b hb
  unfold Good8 at this
  omega
 have hok : diagramOk (n : Int) bs = true := by
  unfold diagramOk
  rw [decide_eq_true (by omega : (1 : Int) ≤ (n : Int)), decide_eq_true (by omega : (n : Int) ≤ 10), decide_eq_true (by omega : bs.length ≤ 24), Bool.true_and, Bool.true_and, Bool.true_and, List.all_eq_true]
  intro b hb
  have := hgood b hb
  unfold Good8 at this
  unfold boundOk
  simp only [Bool.and_eq_true, decide_eq_true_eq, Bool.not_eq_true', beq_eq_false_iff_ne]
  omega
 have hokR : diagramOkR (n : Int) bs = true := hok
 obtain ⟨K1, hK1⟩ := implTB hn1 (by omega) bs (by omega) hB hok
 obtain ⟨r, b, hr⟩ := frF_any (n : Int) bs
 obtain ⟨hbf, hbt⟩ := frF_tells (by omega) hn1 hokR hB hL hne hr
 have hfr : impl_FallingRing.f (n : Int) bs = some (r, b) := hr
 have hval : impl_ValidDiagram.f (n : Int) bs = some true := by unfold impl_ValidDiagram.f; rw [hok]
 have start : ∀ (T : List (List Int)) (o : Bool), (∀ k, K1 ≤ k → impl_TightestBounds.f k (n : Int) bs = some (T, o)) → (o == b) = false → (∃ K, laws_FnTight.j0 K l1 (n : Int) T r b false (n : Int) bs = some true) → ∃ k, laws_FnTight.f k l0 l1 = some true := by
  intro T o hT ho ⟨K, hK⟩
  refine ⟨K + K0 + K1, ?_⟩
  unfold laws_FnTight.f
  rw [hlong]
  simp only [Option.bind_some, Bool.false_eq_true, if_false]
  rw [hd' _ (by omega)]
  simp only [Option.bind_some]
  rw [hT _ (by omega)]
  simp only [Option.bind_some]
  rw [hfr]
  simp only [Option.bind_some]
  rw [ho, if_neg (by decide), hval]
  simp only [Option.bind_some, Bool.not_true]
  exact up_of (fun k => j0_mono l1 (n : Int) T r b false (n : Int) bs k) hK _ (by omega)
 cases hf : feasible n bs [] with
 | false =>
  rw [hf] at hbf
  subst hbf
  obtain ⟨hc, h2, h6⟩ := hbt rfl
  refine start [] false (fun k hk => by rw [hK1 k hk, hf]; rfl) rfl ⟨r.length + 1 + 1, ?_⟩
  have := ring_loop (n : Int) bs hL r hc h2 (by omega) r.length 0 0 (by omega) (by omega) (by omega) (by rw [List.drop_zero]; have := hc.2.2; omega)
  simp only [laws_FnTight.j0, Bool.not_false, Bool.false_eq_true, if_false, if_true]
  exact this
 | true =>
  rw [hf] at hbf
  subst hbf
  refine start (tight n bs []) true (fun k hk => by rw [hK1 k hk, hf]; rfl) rfl ?_
  have hS := tight_Sq hB ([] : List Int)
  obtain ⟨a, ha, han⟩ := r8At_in l1 hb1 0 n (by omega) hn1 (by omega)
  rw [show ((0 : Nat) : Int) = 0 from rfl] at ha
  obtain ⟨K3, hK3⟩ := late_val (a := (a : Int)) hn1 (by omega) (by omega) hB hok (by omega) (by omega)
  have LT := fun e => late_timing (n := n) (bs := bs) (by omega) hB hL hok han (e := e)
  have LA := fun e => late_at (n := n) (bs := bs) (by omega) hB han (e := e)
  have hall : (lateV n bs (a : Int)).2 = (true && allB (tight n bs []) a n 0) := by
   rw [Bool.true_and, Bool.eq_iff_iff, allB_iff]
   constructor
   ·intro h v _ hv
    have := (LA (lateV n bs (a : Int)).1 (by rw [← h])).2.2 v (by omega)
    have := tight_le (w := []) hB han (show v < n by omega)
    omega
   ·intro h
    unfold lateV
    rw [if_pos hf]
    by_cases z : (rd_L6 (tight n bs []) (a : Int)).contains 1000000 = true
    ·exfalso
     rw [List.contains_iff_mem] at z
     obtain ⟨p, hp, e⟩ := List.getElem_of_mem z
     rw [row_len hS han] at hp
     have := h p (by omega) (by omega)
     unfold V at this
     rw [rd_get (by rw [row_len hS han]; exact hp), e] at this
     omega
    ·rw [if_neg z]
  obtain ⟨K4, hK4⟩ := l5_loop (n := n) (bs := bs) (T := tight n bs []) (by omega) hS han (e := (lateV n bs (a : Int)).1) (o := (lateV n bs (a : Int)).2) (fun ho => by
   have h1 := LT (lateV n bs (a : Int)).1 (by rw [← ho])
   have h2 := LA (lateV n bs (a : Int)).1 (by rw [← ho])
   exact ⟨n + 1, l6_loop (by omega) hS han h2.2.1 (fun j hj => (h2.2.2 j hj).2) h1.1 n 0 (by omega)⟩) n 0 true (by omega) hall
  obtain ⟨K5, hK5⟩ := l4_loop (n := n) (bs := bs) (T := tight n bs []) (x1 := l1) (by omega) (by omega) hS hB (fun b hb => bound_V (by omega) hB hb) ⟨K3 + K4, by
   rw [ha]
   simp only [Option.bind_some]
   rw [hK3 _ (by omega)]
   simp only [Option.bind_some]
   exact up_of (fun k => l5_mono (n : Int) (tight n bs []) (a : Int) (lateV n bs (a : Int)).1 (lateV n bs (a : Int)).2 true 0 (n : Int) bs k) hK4 _ (by omega)⟩ bs.length 0 (by omega)
  obtain ⟨K6, hK6⟩ := l1_loop (n := n) (bs := bs) (T := tight n bs []) (x1 := l1) (by omega) hS (fun i j hi hj hv => tight_range (by omega) hB hL hf hi hj hv) (fun i x j hi hx hj h1 h2 => tight_via (by omega) hB hL hf hi hx hj h1 h2) (fun i hi => tight_self (by omega) hB hL hf hi) ⟨K5, hK5⟩ n 0 (by omega)
  refine ⟨K6 + 1, ?_⟩
  have hTl := hS.1
  simp only [laws_FnTight.j0, Bool.not_true, Bool.false_eq_true, if_false]
  rw [if_pos (by omega)]
  exact hK6
end Go.Proofs.Ythgmolenlpagkaa.Pure
