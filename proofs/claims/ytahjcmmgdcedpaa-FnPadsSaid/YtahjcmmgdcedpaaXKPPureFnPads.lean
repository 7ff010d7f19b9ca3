-- Written for this claim by a program of this session.
import Derived.Test.YtahjcmmgdcedpaaXCoreP3
import Derived.Test.YtahjcmmgdcedpaaXCoreP7
import Derived.Test.YtahjcmmgdcedpaaXCoreP10
import Derived.Test.YtahjcmmgdcedpaaXKPPaxf5
/- With the pads that are needed no room for hold is below 0, and with one less it is: for every drawn circuit. -/
namespace Go.Proofs.Ytahjcmmgdcedpaa.Pure
open Go.RowKit Go.Proofs.Ytahjcmmgdcedpaa.Pa Go.Proofs.YtahjcmmgdcedpaaW.PrintWords Go.Proofs.YtahjcmmgdcedpaaW.PrintLast Go.Proofs.YtahjcmmgdcedpaaW.PrintMore
set_option linter.unusedVariables false
set_option linter.unusedSimpArgs false

theorem leastFrom_ge (p : S77 → Int) (m : Int) (l : List S77) : (∀ x ∈ l, m ≤ p x) → ∀ u, m ≤ u → m ≤ leastFrom p u l := by
 induction l with
 | nil => intro _ u hu; exact hu
 | cons x l ih =>
  intro h u hu
  have hx := h x (List.mem_cons_self ..)
  simp only [leastFrom]
  refine ih (fun y hy => h y (List.mem_cons_of_mem _ hy)) _ ?_
  split <;> assumption
theorem leastL_ge (p : S77 → Int) (m : Int) (l : List S77) (hl : 0 < l.length) (h : ∀ x ∈ l, m ≤ p x) : m ≤ leastL p l := by
 unfold leastL
 refine leastFrom_ge p m l h _ (h _ ?_)
 cases l with
 | nil => simp at hl
 | cons x l => exact List.mem_cons_self ..
theorem leastFrom_le (p : S77 → Int) (l : List S77) : ∀ u, leastFrom p u l ≤ u := by
 induction l with
 | nil => intro u; exact Int.le_refl _
 | cons x l ih =>
  intro u
  simp only [leastFrom]
  have := ih (if p x < u then p x else u)
  split at this <;> split <;> omega
theorem wf8r {x : Int} (h : (Lit.int .u8 x).wf = true) : 0 ≤ x ∧ x ≤ 255 := by
 simp only [Lit.wf, IntKind.min, IntKind.max, IntKind.signed, IntKind.bits, Bool.and_eq_true, decide_eq_true_eq, if_true] at h
 simp at h
 omega

theorem leastFrom_at (p : S77 → Int) (l : List S77) (y : S77) (hy : y ∈ l) : ∀ u, leastFrom p u l ≤ p y := by
 induction l with
 | nil => simp at hy
 | cons x l ih =>
  intro u
  simp only [leastFrom]
  rcases List.mem_cons.mp hy with rfl | hy
  ·have := leastFrom_le p l (if p y < u then p y else u)
   split at this <;> split <;> omega
  ·exact ih hy _
theorem leastL_at (p : S77 → Int) (l : List S77) (y : S77) (hy : y ∈ l) : leastL p l ≤ p y := leastFrom_at p l y hy _
/-- What a pad asks for, without wraps. -/
theorem padF_ge (hold : Int) (skews : List Int) (P : Int → Int → Way) (b : Int) (d : Nat) : ∀ (a : Nat) (x : Int), x ≤ padF hold skews P b a d x ∧ ∀ c : Nat, a ≤ c → c < a + d → ∀ p, P (c : Int) b = some p → padV hold skews (c : Int) b p.1 ≤ padF hold skews P b a d x := by
 induction d with
 | zero => intro a x; exact ⟨Int.le_refl _, fun c h1 h2 => by omega⟩
 | succ d ih =>
  intro a x
  simp only [padF]
  obtain ⟨h1, h2⟩ := ih (a + 1) (padS hold skews P b x (a : Int))
  have h3 : x ≤ padS hold skews P b x (a : Int) ∧ ∀ p, P (a : Int) b = some p → padV hold skews (a : Int) b p.1 ≤ padS hold skews P b x (a : Int) := by
   unfold padS
   cases hp : P (a : Int) b with
   | none => exact ⟨Int.le_refl _, fun p h => by cases h⟩
   | some q =>
    dsimp only
    rw [mx_def]
    refine ⟨by split <;> omega, fun p h => ?_⟩
    obtain rfl := Option.some.inj h
    split <;> omega
  refine ⟨Int.le_trans h3.1 h1, fun c hc1 hc2 p hp => ?_⟩
  by_cases c0 : c = a
  ·subst c0
   exact Int.le_trans (h3.2 p hp) h1
  ·exact h2 c (by omega) (by omega) p hp
theorem padF_is (hold : Int) (skews : List Int) (P : Int → Int → Way) (b : Int) (d : Nat) : ∀ (a : Nat) (x : Int), padF hold skews P b a d x = x ∨ ∃ c : Nat, a ≤ c ∧ c < a + d ∧ ∃ p, P (c : Int) b = some p ∧ padF hold skews P b a d x = padV hold skews (c : Int) b p.1 := by
 induction d with
 | zero => intro a x; exact .inl rfl
 | succ d ih =>
  intro a x
  simp only [padF]
  have h3 : padS hold skews P b x (a : Int) = x ∨ ∃ p, P (a : Int) b = some p ∧ padS hold skews P b x (a : Int) = padV hold skews (a : Int) b p.1 := by
   unfold padS
   cases hp : P (a : Int) b with
   | none => exact .inl rfl
   | some q =>
    dsimp only
    rw [mx_def]
    split
    ·exact .inr ⟨q, rfl, rfl⟩
    ·exact .inl rfl
  rcases ih (a + 1) (padS hold skews P b x (a : Int)) with h | ⟨c, c1, c2, p, hp, he⟩
  ·rw [h]
   rcases h3 with h3 | ⟨p, hp, h3⟩
   ·exact .inl h3
   ·exact .inr ⟨a, by omega, by omega, p, hp, h3⟩
  ·exact .inr ⟨c, by omega, by omega, p, hp, he⟩
section
variable {n : Nat} {gates : List S56} {data : List Int} {a3 a4 a5 a6 : Int} {skews : List Int}
theorem path_low (C : Ready (n : Int) gates data) (h5 : 0 ≤ a5) (h56 : a5 ≤ a6) (h6 : a6 ≤ 6) {a b : Int} {p : Int × Int} (h : pathO (n : Int) gates data a5 a6 a b = some p) : 0 ≤ p.1 ∧ p.1 ≤ 1006 := by
 unfold pathO at h
 have hb := getD_bd (tab_bd a (n : Int) gates C.gs) (rd data b).toNat
 cases hw : (tab a (n : Int) gates).getD (rd data b).toNat none with
 | none => rw [hw] at h; cases h
 | some q =>
  rw [hw] at h hb
  have hq := hb q rfl
  have hp := Option.some.inj h
  simp only at hp
  rw [wrap_id (by omega) (by omega), wrap_id (by omega) (by omega)] at hp
  rw [← hp]
  simp only
  omega
theorem rd_skew (hs : skews.length = n) (hr : ∀ x ∈ skews, 0 ≤ x ∧ x ≤ 6) {x : Int} (h0 : 0 ≤ x) (h1 : x < (n : Int)) : 0 ≤ rd skews x ∧ rd skews x ≤ 6 := by
 obtain ⟨j, rfl⟩ : ∃ j : Nat, x = j := ⟨x.toNat, by omega⟩
 rw [rd_get (by omega)]
 exact hr _ (List.getElem_mem _)
theorem hold_at (hs : skews.length = n) (hr : ∀ x ∈ skews, 0 ≤ x ∧ x ≤ 6) (h4 : 0 ≤ a4) (h4' : a4 ≤ 3) {x : S77} (f0 : 0 ≤ x.f0) (f0' : x.f0 < n) (f1 : 0 ≤ x.f1) (f1' : x.f1 < n) (f2 : 0 ≤ x.f2) (f2' : x.f2 ≤ 2000) :
  holdP a4 skews x = x.f2 + rd skews x.f0 - rd skews x.f1 - a4 := by
 have r0 := rd_skew hs hr f0 f0'
 have r1 := rd_skew hs hr f1 f1'
 unfold holdP
 rw [wrap_id (x := x.f2 + rd skews x.f0) (by omega) (by omega), wrap_id (x := x.f2 + rd skews x.f0 - rd skews x.f1) (by omega) (by omega), wrap_id (by omega) (by omega)]
theorem padV_at (hs : skews.length = n) (hr : ∀ x ∈ skews, 0 ≤ x ∧ x ≤ 6) (h4 : 0 ≤ a4) (h4' : a4 ≤ 3) {a b m : Int} (f0 : 0 ≤ a) (f0' : a < n) (f1 : 0 ≤ b) (f1' : b < n) (f2 : 0 ≤ m) (f2' : m ≤ 2000) :
  padV a4 skews a b m = rd skews b + a4 - rd skews a - m := by
 have r0 := rd_skew hs hr f0 f0'
 have r1 := rd_skew hs hr f1 f1'
 unfold padV
 rw [wrap_id (x := rd skews b + a4) (by omega) (by omega), wrap_id (x := rd skews b + a4 - rd skews a) (by omega) (by omega), wrap_id (by omega) (by omega)]
/-- The least room for hold with some pads: m, if every way leaves m at least and some way just that. -/
theorem hold_pads (hw : ∀ g ∈ gates, g.f2.length ≤ 1048576) (hv : validB (n : Int) gates data a3 a4 a5 a6 = true) (h4 : a4 ≤ 3) (h6 : a6 ≤ 6) (hs : skews.length = n) (hr : ∀ x ∈ skews, 0 ≤ x ∧ x ≤ 6) (pads : List Int) (hp : padsOk (n : Int) pads = true) (hten : (padOut (n : Int) gates data pads).1.length ≤ 10) (m : Int)
  (hge : ∀ a b : Nat, a < n → b < n → ∀ p, pathO (n : Int) gates data a5 a6 (a : Int) (b : Int) = some p → m ≤ p.1 + rd pads (b : Int) + rd skews (a : Int) - rd skews (b : Int) - a4) :
  m ≤ holdL (n : Int) a4 a5 a6 (padOut (n : Int) gates data pads).1 (padOut (n : Int) gates data pads).2 skews ∧
   ∀ a b : Nat, a < n → b < n → ∀ p, pathO (n : Int) gates data a5 a6 (a : Int) (b : Int) = some p → holdL (n : Int) a4 a5 a6 (padOut (n : Int) gates data pads).1 (padOut (n : Int) gates data pads).2 skews ≤ p.1 + rd pads (b : Int) + rd skews (a : Int) - rd skews (b : Int) - a4 := by
 have C := circ_of (n : Int) gates data a3 a4 a5 a6 hw hv
 have R1 := C.ready hw
 have hls := C.least
 have hv2 := padOut_valid hv hp
 rw [decide_eq_true hten] at hv2
 obtain ⟨hl, ex, e1, e2, e3, e4⟩ := padOut_inv (gates := gates) C.dlen hp
 have hw2 : ∀ g ∈ (padOut (n : Int) gates data pads).1, g.f2.length ≤ 1048576 := fun g hg => by
  rw [e1] at hg
  rcases List.mem_append.mp hg with hg | hg
  ·exact hw g hg
  ·obtain ⟨p, x, rfl, _⟩ := e3 g hg
   simp
 have C2 := circ_of (n : Int) _ _ a3 a4 a5 a6 hw2 hv2
 have hpath := fun a b h0 h1 => padOut_path hw hv hp hten a b h0 h1
 have hpd : ∀ b : Nat, b < n → 0 ≤ rd pads (b : Int) ∧ rd pads (b : Int) ≤ 100 := fun b hb => by
  unfold padsOk at hp
  simp only [Bool.and_eq_true, decide_eq_true_eq, List.all_eq_true, inB_iff] at hp
  rw [rd_get (by omega)]
  exact hp.2 _ (List.getElem_mem _)
 constructor
 ·unfold holdL
  refine leastL_ge _ _ _ (links_some _ a5 a6 _ _ (C2.ready hw2)) (fun x hx => ?_)
  obtain ⟨m0, m1, m2, m3, m4⟩ := linksOf_mem _ _ x hx
  rw [Int.toNat_natCast] at m1 m3
  obtain ⟨⟨x0, x1, x2, x3⟩, rfl⟩ : ∃ z, z = x := ⟨x, rfl⟩
  dsimp only at m0 m1 m2 m3 m4
  obtain ⟨a, rfl⟩ : ∃ j : Nat, x0 = j := ⟨x0.toNat, by omega⟩
  obtain ⟨b, rfl⟩ : ∃ j : Nat, x1 = j := ⟨x1.toNat, by omega⟩
  rw [hpath _ _ (by omega) m3] at m4
  obtain ⟨p, hp1, hp2⟩ := Option.map_eq_some_iff.mp m4
  have pl := path_low R1 hls.1 hls.2.1 h6 hp1
  have pd := hpd b (by omega)
  injection hp2 with q1 q2
  have := hge a b (by omega) (by omega) p hp1
  rw [hold_at hs hr C.hold.1 h4 (by dsimp only; omega) (by dsimp only; omega) (by dsimp only; omega) (by dsimp only; omega) (by dsimp only; omega) (by dsimp only; omega)]
  dsimp only
  omega
 ·intro a b ha hb p hp1
  have pl := path_low R1 hls.1 hls.2.1 h6 hp1
  have pd := hpd b hb
  have hm : pathO (n : Int) (padOut (n : Int) gates data pads).1 (padOut (n : Int) gates data pads).2 a5 a6 (a : Int) (b : Int) = some (p.1 + rd pads (b : Int), p.2 + rd pads (b : Int)) := by
   rw [hpath _ _ (by omega) (by omega), hp1]; rfl
  have hin := mem_linksOf (pathO (n : Int) (padOut (n : Int) gates data pads).1 (padOut (n : Int) gates data pads).2 a5 a6) n _ a b ha hb hm
  unfold holdL
  rw [Int.toNat_natCast]
  refine Int.le_trans (leastL_at _ _ _ hin) ?_
  rw [hold_at hs hr C.hold.1 h4 (by dsimp only; omega) (by dsimp only; omega) (by dsimp only; omega) (by dsimp only; omega) (by dsimp only; omega) (by dsimp only; omega)]
  dsimp only
  omega
end
/-- Fewer or as many gates with smaller pads. -/
theorem padC_fewer (n : Int) (ps : List Int) : ∀ (qs : List Int) (r : Nat) (gs gs' : List S56) (ds ds' : List Int), ps.length = qs.length → (∀ i, i < ps.length → ps.getD i 0 ≤ qs.getD i 0) → gs.length ≤ gs'.length → (padC n ps r gs ds).1.length ≤ (padC n qs r gs' ds').1.length := by
 induction ps with
 | nil =>
  intro qs r gs gs' ds ds' hl _ hg
  cases qs with
  | nil => exact hg
  | cons q qs => simp at hl
 | cons p ps ih =>
  intro qs r gs gs' ds ds' hl h hg
  cases qs with
  | nil => simp at hl
  | cons q qs =>
   have h0 : p ≤ q := h 0 (by simp)
   have h1 : ∀ i, i < ps.length → ps.getD i 0 ≤ qs.getD i 0 := fun i hi => h (i + 1) (by simpa using hi)
   unfold padC
   by_cases c1 : p > 0
   ·rw [if_pos c1, if_pos (by omega)]
    exact ih qs _ _ _ _ _ (by simpa using hl) h1 (by simp; omega)
   ·rw [if_neg c1]
    by_cases c2 : q > 0
    ·rw [if_pos c2]
     exact ih qs _ _ _ _ _ (by simpa using hl) h1 (by simp; omega)
    ·rw [if_neg c2]
     exact ih qs _ _ _ _ _ (by simpa using hl) h1 hg
set_option maxHeartbeats 4000000 in
theorem FnPads : laws_FnPads.Pure := by
 rintro l0 l1 ⟨_, w0⟩ ⟨_, w1⟩
 have hb0 : Bytes l0 := fun x hx => wf8r (w0 x hx)
 have hb1 : Bytes l1 := fun x hx => wf8r (w1 x hx)
 cases hlong : laws_r8Long.f l0 l1 with
 | none =>
  exfalso
  unfold laws_r8Long.f at hlong
  split at hlong <;> cases hlong
 | some long =>
 cases long with
 | true =>
  refine ⟨0, ?_⟩
  unfold laws_FnPads.f
  rw [hlong]
  rfl
 | false =>
 have hlen : l0.length ≤ 1000 ∧ l1.length ≤ 1000 := by
  unfold laws_r8Long.f at hlong
  split at hlong
  ·cases hlong
  ·have := Option.some.inj hlong
   simp only [decide_eq_false_iff_not] at this
   omega
 obtain ⟨R, gs, data, a3, a4, a5, a6, hc, hR1, hR4, hv, hgw, hdl, h3, h4, h6⟩ := circuit_tells l0 hb0 hlen.1 1000 (Nat.le_refl _)
 have hc' : ∀ k, 1000 ≤ k → spec_R8Circuit.f k l0 = some ((R : Int), gs, data, a3, a4, a5, a6) := fun k hk => at_rounds (fun k => spec_R8Circuit.mono l0 k) hk hc
 obtain ⟨skews, hsk, hsl, hsr⟩ := skews8_tell l1 hb1 hlen.2 R (by omega) 1000 (by omega)
 have hsk' : ∀ k, 1000 ≤ k → spec_R8Skews.f k l1 (R : Int) = some skews := fun k hk => at_rounds (fun k => spec_R8Skews.mono l1 (R : Int) k) hk hsk
 have hw : ∀ g ∈ gs, g.f2.length ≤ 1048576 := fun g hg => by have := hgw g hg; omega
 have Cc := circ_of (R : Int) gs data a3 a4 a5 a6 hw hv
 have C := Cc.ready hw
 have hls := Cc.least
 have hsB : skewsB (R : Int) gs data a3 a4 a5 a6 skews = true := by
  unfold skewsB
  rw [hv, decide_eq_true (by omega : (skews.length : Int) = (R : Int)), Bool.true_and, Bool.true_and, List.all_eq_true]
  intro x hx
  have := hsr x hx
  exact inB_of this.1 (by omega)
 obtain ⟨K1, hK1⟩ := implPads (R : Int) gs data a3 a4 a5 a6 skews hw
 obtain ⟨pads, hpads⟩ : ∃ z, z = padsL a4 skews (pathO (R : Int) gs data a5 a6) R 0 R := ⟨_, rfl⟩
 have hpR : padsR (R : Int) gs data a3 a4 a5 a6 skews = (pads, true) := by
  unfold padsR
  rw [if_pos hsB, Int.toNat_natCast, ← hpads]
 rw [hpR] at hK1
 have hpl : pads.length = R := by rw [hpads, padsL_len]
 have hget : ∀ b : Nat, b < R → rd pads (b : Int) = padF a4 skews (pathO (R : Int) gs data a5 a6) (b : Int) 0 R 0 := fun b hb => by
  unfold rd
  rw [Int.toNat_natCast, hpads, padsL_get _ _ _ _ _ 0 b hb, Nat.zero_add]
 -- what the pads are
 have hge0 : ∀ b : Nat, b < R → 0 ≤ rd pads (b : Int) := fun b hb => by rw [hget b hb]; exact (padF_ge a4 skews _ (b : Int) R 0 0).1
 have hgeV : ∀ a b : Nat, a < R → b < R → ∀ p, pathO (R : Int) gs data a5 a6 (a : Int) (b : Int) = some p → 0 ≤ p.1 + rd pads (b : Int) + rd skews (a : Int) - rd skews (b : Int) - a4 := fun a b ha hb p hp => by
  have h1 := (padF_ge a4 skews (pathO (R : Int) gs data a5 a6) (b : Int) R 0 0).2 a (by omega) (by omega) p hp
  have pl := path_low C hls.1 hls.2.1 h6 hp
  rw [← hget b hb, padV_at hsl hsr Cc.hold.1 h4 (by omega) (by omega) (by omega) (by omega) pl.1 (by omega)] at h1
  omega
 have hisV : ∀ b : Nat, b < R → 0 < rd pads (b : Int) → ∃ a : Nat, a < R ∧ ∃ p, pathO (R : Int) gs data a5 a6 (a : Int) (b : Int) = some p ∧ p.1 + rd pads (b : Int) + rd skews (a : Int) - rd skews (b : Int) - a4 = 0 := fun b hb hpos => by
  rw [hget b hb] at hpos ⊢
  rcases padF_is a4 skews (pathO (R : Int) gs data a5 a6) (b : Int) R 0 0 with h | ⟨c, c1, c2, p, hp, he⟩
  ·omega
  ·have pl := path_low C hls.1 hls.2.1 h6 hp
   rw [padV_at hsl hsr Cc.hold.1 h4 (by omega) (by omega) (by omega) (by omega) pl.1 (by omega)] at he
   exact ⟨c, by omega, p, hp, by omega⟩
 have hle9 : ∀ b : Nat, b < R → rd pads (b : Int) ≤ 9 := fun b hb => by
  by_cases c : 0 < rd pads (b : Int)
  ·obtain ⟨a, ha, p, hp, he⟩ := hisV b hb c
   have pl := path_low C hls.1 hls.2.1 h6 hp
   have r0 := rd_skew hsl hsr (x := (a : Int)) (by omega) (by omega)
   have r1 := rd_skew hsl hsr (x := (b : Int)) (by omega) (by omega)
   omega
  ·omega
 have hok : padsOk (R : Int) pads = true := by
  unfold padsOk
  rw [decide_eq_true (by omega : (pads.length : Int) = (R : Int)), Bool.true_and, List.all_eq_true]
  intro x hx
  obtain ⟨b, hb, rfl⟩ := List.getElem_of_mem hx
  have h1 := hge0 b (by omega)
  have h2 := hle9 b (by omega)
  rw [rd_get hb] at h1 h2
  exact inB_of h1 (by omega)
 have ip := fun k hk => implPad (R : Int) gs data a3 a4 a5 a6 pads hw k hk
 have sp := fun k hk => specPad (R : Int) gs data a3 a4 a5 a6 pads hw k hk
 by_cases hten : (padOut (R : Int) gs data pads).1.length ≤ 10
 ·-- the pads fit
  have hR' : padR (R : Int) gs data a3 a4 a5 a6 pads = ((R : Int), (padOut (R : Int) gs data pads).1, (padOut (R : Int) gs data pads).2, a3, a4, a5, a6, true) := by
   unfold padR
   rw [if_pos ⟨hv, hok, hten⟩]
  have vw : ∀ qs : List Int, padsOk (R : Int) qs = true → ∀ g ∈ (padOut (R : Int) gs data qs).1, g.f2.length ≤ 1048576 := fun qs hq g hg => by
   obtain ⟨hl, ex, e1, e2, e3, e4⟩ := padOut_inv (gates := gs) Cc.dlen hq
   rw [e1] at hg
   rcases List.mem_append.mp hg with hg | hg
   ·exact hw g hg
   ·obtain ⟨p, x, rfl, _⟩ := e3 g hg
    simp
  have vs : ∀ qs : List Int, padsOk (R : Int) qs = true → (padOut (R : Int) gs data qs).1.length ≤ 10 → skewsB (R : Int) (padOut (R : Int) gs data qs).1 (padOut (R : Int) gs data qs).2 a3 a4 a5 a6 skews = true := fun qs hq ht => by
   unfold skewsB at hsB ⊢
   rw [padOut_valid hv hq, decide_eq_true ht]
   rw [hv] at hsB
   exact hsB
  obtain ⟨K2, hK2⟩ := implHold (R : Int) (padOut (R : Int) gs data pads).1 (padOut (R : Int) gs data pads).2 a3 a4 a5 a6 skews (vw pads hok)
  have hh := hold_pads hw hv h4 h6 hsl hsr pads hok hten 0 hgeV
  have hHR : holdR (R : Int) (padOut (R : Int) gs data pads).1 (padOut (R : Int) gs data pads).2 a3 a4 a5 a6 skews = (holdL (R : Int) a4 a5 a6 (padOut (R : Int) gs data pads).1 (padOut (R : Int) gs data pads).2 skews, true) := by
   unfold holdR
   rw [if_pos (vs pads hok hten)]
  rw [hHR] at hK2
  -- the loop
  have loop : ∀ d : Nat, ∀ i : Nat, i + d = R → ∃ K, ∀ k, K ≤ k → padsLoop k (R : Int) gs data a3 a4 a5 a6 skews pads d i = some true := by
   intro d
   induction d with
   | zero => intro i hi; exact ⟨0, fun k _ => rfl⟩
   | succ d ih =>
    intro i hi
    have hiR : i < R := by omega
    obtain ⟨K3, hK3⟩ := ih (i + 1) (by omega)
    have hp0 := hge0 i hiR
    by_cases hz : rd pads (i : Int) = 0
    ·refine ⟨K3, fun k hk => ?_⟩
     have k3 := hK3 k (by omega)
     unfold padsLoop
     rw [if_neg (by omega), if_pos hz]
     exact k3
    ·have hpos : 0 < rd pads (i : Int) := by omega
     have h9 := hle9 i hiR
     obtain ⟨less, hless⟩ : ∃ z, z = pads.set i (rd pads (i : Int) - 1) := ⟨_, rfl⟩
     have hll : less.length = R := by rw [hless]; simpa using hpl
     have hlget : ∀ b : Nat, b < R → rd less (b : Int) = if i = b then rd pads (i : Int) - 1 else rd pads (b : Int) := fun b hb => by
      unfold rd
      rw [hless, Int.toNat_natCast, Int.toNat_natCast, getD_set' (by omega)]
      rfl
     have hlok : padsOk (R : Int) less = true := by
      unfold padsOk
      rw [decide_eq_true (by omega : (less.length : Int) = (R : Int)), Bool.true_and, List.all_eq_true]
      intro x hx
      obtain ⟨b, hb, rfl⟩ := List.getElem_of_mem hx
      have h0 := hlget b (by omega)
      have h1 := hge0 b (by omega)
      have h2 := hle9 b (by omega)
      rw [rd_get hb] at h0
      rw [h0]
      split
      ·exact inB_of (by omega) (by omega)
      ·exact inB_of h1 (by omega)
     have hlten : (padOut (R : Int) gs data less).1.length ≤ 10 := by
      refine Nat.le_trans ?_ hten
      unfold padOut
      refine padC_fewer _ _ _ _ _ _ _ _ (by omega) (fun b hb => ?_) (Nat.le_refl _)
      have h0 := hlget b (by omega)
      have h00 := hpos
      unfold rd at h0 h00
      simp only [Int.toNat_natCast] at h0 h00
      rw [h0]
      split
      ·rename_i e; subst e; omega
      ·exact Int.le_refl _
     have hlR : padR (R : Int) gs data a3 a4 a5 a6 less = ((R : Int), (padOut (R : Int) gs data less).1, (padOut (R : Int) gs data less).2, a3, a4, a5, a6, true) := by
      unfold padR
      rw [if_pos ⟨hv, hlok, hlten⟩]
     obtain ⟨K4, hK4⟩ := implHold (R : Int) (padOut (R : Int) gs data less).1 (padOut (R : Int) gs data less).2 a3 a4 a5 a6 skews (vw less hlok)
     have hlHR : holdR (R : Int) (padOut (R : Int) gs data less).1 (padOut (R : Int) gs data less).2 a3 a4 a5 a6 skews = (-1, true) := by
      unfold holdR
      rw [if_pos (vs less hlok hlten)]
      have hl := hold_pads hw hv h4 h6 hsl hsr less hlok hlten (-1) (fun a b ha hb p hp => by
       have h1 := hgeV a b ha hb p hp
       rw [hlget b hb]
       split
       ·rename_i e; subst e; omega
       ·omega)
      obtain ⟨a, ha, p, hp, he⟩ := hisV i hiR hpos
      have h2 := hl.2 a i ha hiR p hp
      rw [hlget i hiR, if_pos rfl] at h2
      have h3 := hl.1
      rw [Prod.mk.injEq]
      exact ⟨by omega, rfl⟩
     rw [hlHR] at hK4
     have hwl : Aside0 (wrap64 (rd pads (i : Int) - 1) = rd pads (i : Int) - 1) := ⟨wrap_id (by omega) (by omega)⟩
     refine ⟨K3 + K4 + 2000, fun k hk => ?_⟩
     have k3 := hK3 k (by omega)
     have k4 : impl_HoldRoom.f k (R : Int) (padOut (R : Int) gs data less).1 (padOut (R : Int) gs data less).2 a3 a4 a5 a6 skews = _ := hK4 k (by omega)
     have k5 := implPad (R : Int) gs data a3 a4 a5 a6 less hw k (by omega)
     rw [hlR] at k5
     unfold padsLoop
     rw [if_neg (by omega), if_neg hz, hwl.out, ← hless, k5]
     simp only [Option.bind_some]
     rw [k4]
     simp only [Option.bind_some, if_true]
     exact k3
  obtain ⟨K5, hK5⟩ := loop R 0 (by omega)
  refine ⟨K1 + K2 + K5 + 3000, ?_⟩
  have k1 : impl_PadsOf.f (K1 + K2 + K5 + 3000) (R : Int) gs data a3 a4 a5 a6 skews = _ := hK1 _ (by omega)
  have k2 : impl_HoldRoom.f (K1 + K2 + K5 + 3000) (R : Int) (padOut (R : Int) gs data pads).1 (padOut (R : Int) gs data pads).2 a3 a4 a5 a6 skews = _ := hK2 _ (by omega)
  have k5 : padsLoop (K1 + K2 + K5 + 3000) (R : Int) gs data a3 a4 a5 a6 skews pads R 0 = some true := hK5 _ (by omega)
  unfold laws_FnPads.f
  rw [hlong]
  simp only [Option.bind_some]
  rw [if_neg (by decide), hc' _ (by omega)]
  simp only [Option.bind_some]
  rw [hsk' _ (by omega)]
  simp only [Option.bind_some]
  rw [k1]
  simp only [Option.bind_some, if_true]
  rw [if_pos (by omega), ip _ (by omega), hR']
  simp only [Option.bind_some]
  rw [sp _ (by omega), hR']
  simp only [Option.bind_some, if_true]
  rw [k2]
  simp only [Option.bind_some, if_true]
  rw [if_neg (by have := hh.1; omega), hpl]
  exact k5
 ·-- too many gates
  have hR' : padR (R : Int) gs data a3 a4 a5 a6 pads = (0, [], [], 0, 0, 0, 0, false) := by
   unfold padR
   rw [if_neg (fun h => hten h.2.2)]
  refine ⟨K1 + 3000, ?_⟩
  have k1 : impl_PadsOf.f (K1 + 3000) (R : Int) gs data a3 a4 a5 a6 skews = _ := hK1 _ (by omega)
  unfold laws_FnPads.f
  rw [hlong]
  simp only [Option.bind_some]
  rw [if_neg (by decide), hc' _ (by omega)]
  simp only [Option.bind_some]
  rw [hsk' _ (by omega)]
  simp only [Option.bind_some]
  rw [k1]
  simp only [Option.bind_some, if_true]
  rw [if_pos (by omega), ip _ (by omega), hR']
  simp only [Option.bind_some]
  rw [sp _ (by omega), hR']
  simp only [Option.bind_some, if_true]
  rw [if_neg (by decide), valid_tells, hv]
end Go.Proofs.Ytahjcmmgdcedpaa.Pure
