-- Written for this claim by a program of this session.
import Derived.Test.YtahjcmmgdcedpaaVCore3
import Derived.Test.YtahjcmmgdcedpaaVCore6
import Derived.Test.YtahjcmmgdcedpaaVCore7
import Derived.Test.YtahjcmmgdcedpaaVKPaxf7
/- For every drawn circuit the law of rooms answers yes. -/
namespace Go.Proofs.Ytahjcmmgdcedpaa.Pure
open Go.RowKit Go.Proofs.Ytahjcmmgdcedpaa.Pa Go.Proofs.YtahjcmmgdcedpaaW.PrintWords Go.Proofs.YtahjcmmgdcedpaaW.PrintLast Go.Proofs.YtahjcmmgdcedpaaW.PrintMore
set_option linter.unusedVariables false
set_option linter.unusedSimpArgs false

theorem leastFrom_append (p : S77 → Int) (l m : List S77) : ∀ u, leastFrom p u (l ++ m) = leastFrom p (leastFrom p u l) m := by
 induction l with
 | nil => intro u; rfl
 | cons x l ih => intro u; simp only [List.cons_append, leastFrom]; exact ih _
theorem leastFrom_one (p : S77 → Int) (u : Int) (l : List S77) (h : 0 < l.length) (hu : ∀ x ∈ l, p x < u) : leastFrom p u l = leastL p l := by
 cases l with
 | nil => simp at h
 | cons x l =>
  have h0 : rd_T77 (x :: l) 0 = x := rfl
  unfold leastL
  rw [h0]
  simp only [leastFrom]
  rw [if_pos (hu x (List.mem_cons_self ..)), if_neg (Int.lt_irrefl _)]
theorem leastFrom_shift (p q : S77 → Int) (c : Int) (l : List S77) : (∀ x ∈ l, q x = p x + c) → ∀ u, leastFrom q (u + c) l = leastFrom p u l + c := by
 induction l with
 | nil => intro _ u; rfl
 | cons x l ih =>
  intro h u
  have hx := h x (List.mem_cons_self ..)
  have ih := ih (fun y hy => h y (List.mem_cons_of_mem _ hy))
  simp only [leastFrom]
  rw [hx]
  by_cases e : p x < u
  ·rw [if_pos e, if_pos (by omega)]; exact ih _
  ·rw [if_neg e, if_neg (by omega)]; exact ih _
theorem leastL_shift (p q : S77 → Int) (c : Int) (l : List S77) (hl : 0 < l.length) (h : ∀ x ∈ l, q x = p x + c) : leastL q l = leastL p l + c := by
 unfold leastL
 have hx : rd_T77 l 0 ∈ l := by
  cases l with
  | nil => simp at hl
  | cons x l => exact List.mem_cons_self ..
 rw [h _ hx]
 exact leastFrom_shift p q c l h _
theorem leastFrom_ge (p : S77 → Int) (m : Int) (l : List S77) : (∀ x ∈ l, m ≤ p x) → ∀ u, m ≤ u → m ≤ leastFrom p u l := by
 induction l with
 | nil => intro _ u hu; exact hu
 | cons x l ih =>
  intro h u hu
  have hx := h x (List.mem_cons_self ..)
  simp only [leastFrom]
  refine ih (fun y hy => h y (List.mem_cons_of_mem _ hy)) _ ?_
  split <;> assumption
theorem leastL_ge (p : S77 → Int) (m : Int) (l : List S77) (hl : 0 < l.length) (h : ∀ x ∈ l, m ≤ p x) : m ≤ leastL p l := by
 unfold leastL
 refine leastFrom_ge p m l h _ (h _ ?_)
 cases l with
 | nil => simp at hl
 | cons x l => exact List.mem_cons_self ..
theorem leastFrom_le (p : S77 → Int) (l : List S77) : ∀ u, leastFrom p u l ≤ u := by
 induction l with
 | nil => intro u; exact Int.le_refl _
 | cons x l ih =>
  intro u
  simp only [leastFrom]
  have := ih (if p x < u then p x else u)
  split at this <;> split <;> omega
theorem leastL_le (p : S77 → Int) (m : Int) (l : List S77) (hl : 0 < l.length) (h : ∀ x ∈ l, p x ≤ m) : leastL p l ≤ m := by
 unfold leastL
 refine Int.le_trans (leastFrom_le p l _) (h _ ?_)
 cases l with
 | nil => simp at hl
 | cons x l => exact List.mem_cons_self ..
section
variable {n : Nat} {gates : List S56} {data : List Int} {a3 a4 a5 a6 : Int} {skews : List Int}
/-- What a path of a drawn circuit bears. -/
theorem path_in (C : Ready (n : Int) gates data) (h5 : 0 ≤ a5) (h56 : a5 ≤ a6) (h6 : a6 ≤ 6) {a b : Int} {p : Int × Int} (h : pathO (n : Int) gates data a5 a6 a b = some p) : 0 ≤ p.1 ∧ p.1 ≤ 1006 ∧ 0 ≤ p.2 ∧ p.2 ≤ 1006 := by
 unfold pathO at h
 have hb := getD_bd (tab_bd a (n : Int) gates C.gs) (rd data b).toNat
 cases hw : (tab a (n : Int) gates).getD (rd data b).toNat none with
 | none => rw [hw] at h; cases h
 | some q =>
  rw [hw] at h hb
  have hq := hb q rfl
  have hp := Option.some.inj h
  simp only at hp
  rw [wrap_id (by omega) (by omega), wrap_id (by omega) (by omega)] at hp
  rw [← hp]
  simp only
  omega
theorem rd_skew (hs : skews.length = n) (hr : ∀ x ∈ skews, 0 ≤ x ∧ x ≤ 6) {x : Int} (h0 : 0 ≤ x) (h1 : x < (n : Int)) : 0 ≤ rd skews x ∧ rd skews x ≤ 6 := by
 obtain ⟨j, rfl⟩ : ∃ j : Nat, x = j := ⟨x.toNat, by omega⟩
 rw [rd_get (by omega)]
 exact hr _ (List.getElem_mem _)
theorem setup_at (hs : skews.length = n) (hr : ∀ x ∈ skews, 0 ≤ x ∧ x ≤ 6) (h3 : 0 ≤ a3) (h3' : a3 ≤ 3) {per : Int} (p0 : 0 ≤ per) (p1 : per ≤ 100000) {x : S77} (f0 : 0 ≤ x.f0) (f0' : x.f0 < n) (f1 : 0 ≤ x.f1) (f1' : x.f1 < n) (f3 : 0 ≤ x.f3) (f3' : x.f3 ≤ 1006) :
  setupP per a3 skews x = per + (rd skews x.f1 - rd skews x.f0 - x.f3 - a3) := by
 have r0 := rd_skew hs hr f0 f0'
 have r1 := rd_skew hs hr f1 f1'
 unfold setupP
 rw [wrap_id (x := per + rd skews x.f1) (by omega) (by omega), wrap_id (x := per + rd skews x.f1 - rd skews x.f0) (by omega) (by omega), wrap_id (x := per + rd skews x.f1 - rd skews x.f0 - x.f3) (by omega) (by omega), wrap_id (by omega) (by omega)]
 omega
theorem hold_at (hs : skews.length = n) (hr : ∀ x ∈ skews, 0 ≤ x ∧ x ≤ 6) (h4 : 0 ≤ a4) (h4' : a4 ≤ 3) {x : S77} (f0 : 0 ≤ x.f0) (f0' : x.f0 < n) (f1 : 0 ≤ x.f1) (f1' : x.f1 < n) (f2 : 0 ≤ x.f2) (f2' : x.f2 ≤ 1006) :
  holdP a4 skews x = x.f2 + rd skews x.f0 - rd skews x.f1 - a4 := by
 have r0 := rd_skew hs hr f0 f0'
 have r1 := rd_skew hs hr f1 f1'
 unfold holdP
 rw [wrap_id (x := x.f2 + rd skews x.f0) (by omega) (by omega), wrap_id (x := x.f2 + rd skews x.f0 - rd skews x.f1) (by omega) (by omega), wrap_id (by omega) (by omega)]
theorem law_l1 (hv : validB (n : Int) gates data a3 a4 a5 a6 = true) (hw : ∀ g ∈ gates, g.f2.length ≤ 1048576) (hd : data.length ≤ 1048576) (hn : n ≤ 6) (hs : skews.length = n) (per sr hr le : Int) (a : Nat) (ha : a < n) (r : Bool) (d : Nat) :
  ∀ (b : Nat) (x y : Int), b + d = n →
  Ev (fun k => laws_FnRooms.l0 k skews per sr hr le (leastFrom (setupP per a3 skews) x (linksTo (pathO (n : Int) gates data a5 a6) (a : Int) b d)) (leastFrom (holdP a4 skews) y (linksTo (pathO (n : Int) gates data a5 a6) (a : Int) b d)) ((a + 1 : Nat) : Int) (n : Int) gates data a3 a4 a5 a6) r →
  Ev (fun k => laws_FnRooms.l1 k skews per sr hr le x y (a : Int) (b : Int) (n : Int) gates data a3 a4 a5 a6) r := by
 induction d with
 | zero =>
  rintro b x y h ⟨K, hK⟩
  refine ⟨K + 1, fun k hk => ?_⟩
  obtain ⟨k, rfl⟩ : ∃ m, k = m + 1 := ⟨k - 1, by omega⟩
  simp only [laws_FnRooms.l1]
  rw [if_neg (by omega), wrap_succ a (by omega)]
  exact hK k (by omega)
 | succ d ih =>
  intro b x y h hE
  obtain ⟨K1, hK1⟩ := specPD (n : Int) gates data a3 a4 a5 a6 (a : Int) (b : Int) hw hd
  have hpd : pdR (n : Int) gates data a3 a4 a5 a6 (a : Int) (b : Int) = wayR (pathO (n : Int) gates data a5 a6 (a : Int) (b : Int)) := by
   unfold pdR
   rw [if_pos ⟨hv, by omega, by omega⟩]
  rw [hpd] at hK1
  have hlt : linksTo (pathO (n : Int) gates data a5 a6) (a : Int) b (d + 1) = linkO (a : Int) (b : Int) (pathO (n : Int) gates data a5 a6 (a : Int) (b : Int)) ++ linksTo (pathO (n : Int) gates data a5 a6) (a : Int) (b + 1) d := rfl
  rw [hlt] at hE
  cases hp : pathO (n : Int) gates data a5 a6 (a : Int) (b : Int) with
  | none =>
   rw [hp] at hE hK1
   obtain ⟨K2, hK2⟩ := ih (b + 1) x y (by omega) hE
   refine ⟨K1 + K2 + 1, fun k hk => ?_⟩
   obtain ⟨k, rfl⟩ : ∃ m, k = m + 1 := ⟨k - 1, by omega⟩
   have e1 : spec_PathDelays.f k (n : Int) gates data a3 a4 a5 a6 (a : Int) (b : Int) = _ := hK1 k (by omega)
   simp only [laws_FnRooms.l1]
   rw [if_pos (by omega), e1]
   simp only [Option.bind_some, wayR, Bool.false_eq_true, if_false]
   rw [wrap_succ b (by omega)]
   exact hK2 k (by omega)
  | some p =>
   rw [hp] at hE hK1
   have hs1 : (if setupP per a3 skews ⟨(a : Int), (b : Int), p.1, p.2⟩ < x then setupP per a3 skews ⟨(a : Int), (b : Int), p.1, p.2⟩ else x) = leastFrom (setupP per a3 skews) x (linkO (a : Int) (b : Int) (some p)) := rfl
   have hs2 : (if holdP a4 skews ⟨(a : Int), (b : Int), p.1, p.2⟩ < y then holdP a4 skews ⟨(a : Int), (b : Int), p.1, p.2⟩ else y) = leastFrom (holdP a4 skews) y (linkO (a : Int) (b : Int) (some p)) := rfl
   rw [leastFrom_append, leastFrom_append, ← hs1, ← hs2] at hE
   obtain ⟨K2, hK2⟩ := ih (b + 1) _ _ (by omega) hE
   refine ⟨K1 + K2 + 1, fun k hk => ?_⟩
   obtain ⟨k, rfl⟩ : ∃ m, k = m + 1 := ⟨k - 1, by omega⟩
   have e1 : spec_PathDelays.f k (n : Int) gates data a3 a4 a5 a6 (a : Int) (b : Int) = _ := hK1 k (by omega)
   have e2 := hK2 k (by omega)
   simp only at e2
   unfold setupP holdP at e2
   simp only [laws_FnRooms.l1]
   rw [if_pos (by omega), e1]
   simp only [Option.bind_some, wayR, if_true]
   rw [if_pos (by omega), if_pos (by omega), if_pos (by omega), if_pos (by omega), wrap_succ b (by omega)]
   by_cases c1 : wrap64 (wrap64 (wrap64 (wrap64 (per + rd skews (b : Int)) - rd skews (a : Int)) - p.2) - a3) < x
   ·by_cases c2 : wrap64 (wrap64 (wrap64 (p.1 + rd skews (a : Int)) - rd skews (b : Int)) - a4) < y
    ·rw [if_pos c1, if_pos c2] at e2 ⊢; exact e2
    ·rw [if_pos c1, if_neg c2] at e2 ⊢; exact e2
   ·by_cases c2 : wrap64 (wrap64 (wrap64 (p.1 + rd skews (a : Int)) - rd skews (b : Int)) - a4) < y
    ·rw [if_neg c1, if_pos c2] at e2 ⊢; exact e2
    ·rw [if_neg c1, if_neg c2] at e2 ⊢; exact e2
theorem law_l0 (hv : validB (n : Int) gates data a3 a4 a5 a6 = true) (hw : ∀ g ∈ gates, g.f2.length ≤ 1048576) (hd : data.length ≤ 1048576) (hn : n ≤ 6) (hs : skews.length = n) (per sr hr le : Int) (r : Bool) (d : Nat) :
  ∀ (a : Nat) (x y : Int), a + d = n →
  Ev (fun k => laws_FnRooms.l0 k skews per sr hr le (leastFrom (setupP per a3 skews) x (linksFrom (pathO (n : Int) gates data a5 a6) n a d)) (leastFrom (holdP a4 skews) y (linksFrom (pathO (n : Int) gates data a5 a6) n a d)) (n : Int) (n : Int) gates data a3 a4 a5 a6) r →
  Ev (fun k => laws_FnRooms.l0 k skews per sr hr le x y (a : Int) (n : Int) gates data a3 a4 a5 a6) r := by
 induction d with
 | zero =>
  intro a x y h hE
  obtain rfl : a = n := by omega
  exact hE
 | succ d ih =>
  intro a x y h hE
  have hlf : linksFrom (pathO (n : Int) gates data a5 a6) n a (d + 1) = linksTo (pathO (n : Int) gates data a5 a6) (a : Int) 0 n ++ linksFrom (pathO (n : Int) gates data a5 a6) n (a + 1) d := rfl
  rw [hlf, leastFrom_append, leastFrom_append] at hE
  have h1 := ih (a + 1) _ _ (by omega) hE
  obtain ⟨K, hK⟩ := law_l1 hv hw hd hn hs per sr hr le a (by omega) r n 0 x y (by omega) h1
  refine ⟨K + 1, fun k hk => ?_⟩
  obtain ⟨k, rfl⟩ : ∃ m, k = m + 1 := ⟨k - 1, by omega⟩
  simp only [laws_FnRooms.l0]
  rw [if_pos (by omega)]
  exact hK k (by omega)
end
theorem wf8r {x : Int} (h : (Lit.int .u8 x).wf = true) : 0 ≤ x ∧ x ≤ 255 := by
 simp only [Lit.wf, IntKind.min, IntKind.max, IntKind.signed, IntKind.bits, Bool.and_eq_true, decide_eq_true_eq, if_true] at h
 simp at h
 omega
theorem r8At_below (l : List Int) (hl : Bytes l) : ∃ t : Int, laws_r8At.f l 40 40 = some t ∧ 0 ≤ t ∧ t < 40 := by
 unfold laws_r8At.f
 rw [if_neg (by omega)]
 by_cases h2 : (40 : Int) ≥ (l.length : Int)
 ·rw [if_pos h2]
  exact ⟨0, rfl, by omega, by omega⟩
 ·have hlt : 40 < l.length := by omega
  have hb := hl l[40] (List.getElem_mem hlt)
  have hr : rd l 40 = l[40] := rd_get hlt
  rw [if_neg h2, if_pos (by omega), if_pos (by omega), if_neg (by omega), hr, wrap_id (by omega) (by omega)]
  exact ⟨_, rfl, Int.tmod_nonneg _ hb.1, Int.tmod_lt_of_pos _ (by omega)⟩
theorem FnRooms : laws_FnRooms.Pure := by
 intro l0 l1 _ _ w0 _ _ w1
 have hb0 : Bytes l0 := fun x hx => wf8r (w0 x hx)
 have hb1 : Bytes l1 := fun x hx => wf8r (w1 x hx)
 cases hlong : laws_r8Long.f l0 l1 with
 | none =>
  exfalso
  unfold laws_r8Long.f at hlong
  split at hlong <;> cases hlong
 | some long =>
 cases long with
 | true =>
  refine ⟨0, ?_⟩
  unfold laws_FnRooms.f
  rw [hlong]
  rfl
 | false =>
 have hlen : l0.length ≤ 1000 ∧ l1.length ≤ 1000 := by
  unfold laws_r8Long.f at hlong
  split at hlong
  ·cases hlong
  ·have := Option.some.inj hlong
   simp only [decide_eq_false_iff_not] at this
   omega
 obtain ⟨R, gs, data, a3, a4, a5, a6, hc, hR1, hR4, hv, hgw, hdl, h3, h4, h6⟩ := circuit_tells l0 hb0 hlen.1 1000 (Nat.le_refl _)
 have hc' : ∀ k, 1000 ≤ k → spec_R8Circuit.f k l0 = some ((R : Int), gs, data, a3, a4, a5, a6) := fun k hk => at_rounds (fun k => spec_R8Circuit.mono l0 k) hk hc
 obtain ⟨skews, hsk, hsl, hsr⟩ := skews8_tell l1 hb1 hlen.2 R (by omega) 1000 (by omega)
 have hsk' : ∀ k, 1000 ≤ k → spec_R8Skews.f k l1 (R : Int) = some skews := fun k hk => at_rounds (fun k => spec_R8Skews.mono l1 (R : Int) k) hk hsk
 obtain ⟨t, ht, t0, t1⟩ := r8At_below l1 hb1
 have hper : wrap64 (1 + t) = 1 + t := wrap_id (by omega) (by omega)
 have hw : ∀ g ∈ gs, g.f2.length ≤ 1048576 := fun g hg => by have := hgw g hg; omega
 have Cc := circ_of (R : Int) gs data a3 a4 a5 a6 hw hv
 have C := Cc.ready hw
 have hsB : skewsB (R : Int) gs data a3 a4 a5 a6 skews = true := by
  unfold skewsB
  rw [hv, decide_eq_true (by omega : (skews.length : Int) = (R : Int)), Bool.true_and, Bool.true_and, List.all_eq_true]
  intro x hx
  have := hsr x hx
  exact inB_of this.1 (by omega)
 have hin : ∀ x ∈ linksOf (pathO (R : Int) gs data a5 a6) (R : Int).toNat, (0 ≤ x.f0 ∧ x.f0 < (R : Int) ∧ 0 ≤ x.f1 ∧ x.f1 < (R : Int)) ∧ (0 ≤ x.f2 ∧ x.f2 ≤ 1006 ∧ 0 ≤ x.f3 ∧ x.f3 ≤ 1006) := by
  intro x hx
  obtain ⟨m0, m1, m2, m3, m4⟩ := linksOf_mem _ _ x hx
  have := path_in C Cc.least.1 Cc.least.2.1 h6 m4
  simp only at this
  exact ⟨⟨m0, by omega, m2, by omega⟩, this⟩
 have hne := links_some (R : Int) a5 a6 gs data C
 have hSp : ∀ per : Int, 0 ≤ per → per ≤ 100000 → ∀ x ∈ linksOf (pathO (R : Int) gs data a5 a6) (R : Int).toNat, setupP per a3 skews x = per + (rd skews x.f1 - rd skews x.f0 - x.f3 - a3) := by
  intro per p0 p1 x hx
  obtain ⟨⟨m0, m1, m2, m3⟩, _, _, m4, m5⟩ := hin x hx
  exact setup_at hsl hsr Cc.setup.1 h3 p0 p1 m0 m1 m2 m3 m4 m5
 have hHp : ∀ x ∈ linksOf (pathO (R : Int) gs data a5 a6) (R : Int).toNat, holdP a4 skews x = x.f2 + rd skews x.f0 - rd skews x.f1 - a4 := by
  intro x hx
  obtain ⟨⟨m0, m1, m2, m3⟩, m4, m5, _, _⟩ := hin x hx
  exact hold_at hsl hsr Cc.hold.1 h4 m0 m1 m2 m3 m4 m5
 have hshift : ∀ per : Int, 0 ≤ per → per ≤ 100000 → setupL per (R : Int) a3 a5 a6 gs data skews = setupL 0 (R : Int) a3 a5 a6 gs data skews + per := by
  intro per p0 p1
  unfold setupL
  refine leastL_shift _ _ per _ hne (fun x hx => ?_)
  rw [hSp per p0 p1 x hx, hSp 0 (by omega) (by omega) x hx]
  omega
 have hlow : -2000 ≤ setupL 0 (R : Int) a3 a5 a6 gs data skews := by
  unfold setupL
  refine leastL_ge _ _ _ hne (fun x hx => ?_)
  obtain ⟨⟨m0, m1, m2, m3⟩, _, _, m4, m5⟩ := hin x hx
  have r0 := rd_skew hsl hsr m0 m1
  have r1 := rd_skew hsl hsr m2 m3
  rw [hSp 0 (by omega) (by omega) x hx]
  have := Cc.setup
  omega
 have hup : setupL 0 (R : Int) a3 a5 a6 gs data skews ≤ 6 := by
  unfold setupL
  refine leastL_le _ _ _ hne (fun x hx => ?_)
  obtain ⟨⟨m0, m1, m2, m3⟩, _, _, m4, m5⟩ := hin x hx
  have r0 := rd_skew hsl hsr m0 m1
  have r1 := rd_skew hsl hsr m2 m3
  rw [hSp 0 (by omega) (by omega) x hx]
  have := Cc.setup
  omega
 have e14 : leastFrom (setupP (1 + t) a3 skews) 1000000 (linksFrom (pathO (R : Int) gs data a5 a6) R 0 R) = setupL (1 + t) (R : Int) a3 a5 a6 gs data skews := by
  unfold setupL
  have : linksOf (pathO (R : Int) gs data a5 a6) (R : Int).toNat = linksFrom (pathO (R : Int) gs data a5 a6) R 0 R := by rw [Int.toNat_natCast]; rfl
  rw [← this]
  refine leastFrom_one _ _ _ hne (fun x hx => ?_)
  obtain ⟨⟨m0, m1, m2, m3⟩, _, _, m4, m5⟩ := hin x hx
  have r0 := rd_skew hsl hsr m0 m1
  have r1 := rd_skew hsl hsr m2 m3
  rw [hSp (1 + t) (by omega) (by omega) x hx]
  have := Cc.setup
  omega
 have e15 : leastFrom (holdP a4 skews) 1000000 (linksFrom (pathO (R : Int) gs data a5 a6) R 0 R) = holdL (R : Int) a4 a5 a6 gs data skews := by
  unfold holdL
  have : linksOf (pathO (R : Int) gs data a5 a6) (R : Int).toNat = linksFrom (pathO (R : Int) gs data a5 a6) R 0 R := by rw [Int.toNat_natCast]; rfl
  rw [← this]
  refine leastFrom_one _ _ _ hne (fun x hx => ?_)
  obtain ⟨⟨m0, m1, m2, m3⟩, m4, m5, _, _⟩ := hin x hx
  have r0 := rd_skew hsl hsr m0 m1
  have r1 := rd_skew hsl hsr m2 m3
  rw [hHp x hx]
  have := Cc.hold
  omega
 have hsh := hshift (1 + t) (by omega) (by omega)
 obtain ⟨le, hle⟩ : ∃ le : Int, le = mx 1 (wrap64 (-(setupL 0 (R : Int) a3 a5 a6 gs data skews))) := ⟨_, rfl⟩
 have hle2 : 1 ≤ le ∧ le ≤ 3000 ∧ 0 ≤ setupL 0 (R : Int) a3 a5 a6 gs data skews + le ∧ (1 < le → setupL 0 (R : Int) a3 a5 a6 gs data skews + (le - 1) < 0) := by
  rw [wrap_id (by omega) (by omega), mx_def] at hle
  split at hle <;> omega
 have hshl := hshift le (by omega) (by omega)
 have hshl1 := hshift (le - 1) (by omega) (by omega)
 have hW : ∀ per : Int, 1 ≤ per → per ≤ 100000 → worksR (R : Int) gs data a3 a4 a5 a6 per skews = (decide (setupL per (R : Int) a3 a5 a6 gs data skews ≥ 0) && decide (holdL (R : Int) a4 a5 a6 gs data skews ≥ 0)) := by
  intro per p0 p1
  unfold worksR
  rw [if_pos ⟨hsB, inB_of p0 p1⟩]
 have hS : setupR (R : Int) gs data a3 a4 a5 a6 (1 + t) skews = (setupL (1 + t) (R : Int) a3 a5 a6 gs data skews, true) := by
  unfold setupR
  rw [if_pos ⟨hsB, inB_of (by omega) (by omega)⟩]
 have hH : holdR (R : Int) gs data a3 a4 a5 a6 skews = (holdL (R : Int) a4 a5 a6 gs data skews, true) := by
  unfold holdR
  rw [if_pos hsB]
 have hP : periodR (R : Int) gs data a3 a4 a5 a6 skews = (le, true) := by
  unfold periodR
  rw [if_pos hsB, ← hle, if_pos (inB_of (by omega) (by omega))]
 obtain ⟨K1, hK1⟩ := implSetup (R : Int) gs data a3 a4 a5 a6 (1 + t) skews hw
 obtain ⟨K2, hK2⟩ := implHold (R : Int) gs data a3 a4 a5 a6 skews hw
 obtain ⟨K3, hK3⟩ := implPeriod (R : Int) gs data a3 a4 a5 a6 skews hw
 obtain ⟨K4, hK4⟩ := implWorks (R : Int) gs data a3 a4 a5 a6 (1 + t) skews hw
 obtain ⟨K5, hK5⟩ := implWorks (R : Int) gs data a3 a4 a5 a6 le skews hw
 rw [hS] at hK1
 rw [hH] at hK2
 rw [hP] at hK3
 rw [hW _ (by omega) (by omega)] at hK4
 rw [hW _ (by omega) (by omega), hshl, decide_eq_true (by omega : setupL 0 (R : Int) a3 a5 a6 gs data skews + le ≥ 0), Bool.true_and] at hK5
 have hj3 : Ev (fun k => laws_FnRooms.j3 k skews (holdL (R : Int) a4 a5 a6 gs data skews) le false (R : Int) gs data a3 a4 a5 a6) true := by
  by_cases h1 : 1 < le
  ·obtain ⟨K6, hK6⟩ := implWorks (R : Int) gs data a3 a4 a5 a6 (le - 1) skews hw
   rw [hW _ (by omega) (by omega), hshl1, decide_eq_false (by have := hle2.2.2.2 h1; omega), Bool.false_and] at hK6
   refine ⟨K5 + K6 + 1, fun k hk => ?_⟩
   obtain ⟨k, rfl⟩ : ∃ m, k = m + 1 := ⟨k - 1, by omega⟩
   have e5 : impl_Works.f k (R : Int) gs data a3 a4 a5 a6 le skews = _ := hK5 k (by omega)
   have e6 : impl_Works.f k (R : Int) gs data a3 a4 a5 a6 (le - 1) skews = _ := hK6 k (by omega)
   simp only [laws_FnRooms.j3, Bool.false_eq_true, if_false]
   rw [e5]
   simp only [Option.bind_some, beq_self_eq_true, if_true]
   rw [if_pos (by omega), wrap_id (x := le - 1) (by omega) (by omega), e6]
   rfl
  ·refine ⟨K5 + 1, fun k hk => ?_⟩
   obtain ⟨k, rfl⟩ : ∃ m, k = m + 1 := ⟨k - 1, by omega⟩
   have e5 : impl_Works.f k (R : Int) gs data a3 a4 a5 a6 le skews = _ := hK5 k (by omega)
   simp only [laws_FnRooms.j3, Bool.false_eq_true, if_false]
   rw [e5]
   simp only [Option.bind_some, beq_self_eq_true, if_true]
   rw [if_neg (by omega)]
   rfl
 have hfin : Ev (fun k => laws_FnRooms.l0 k skews (1 + t) (setupL (1 + t) (R : Int) a3 a5 a6 gs data skews) (holdL (R : Int) a4 a5 a6 gs data skews) le (leastFrom (setupP (1 + t) a3 skews) 1000000 (linksFrom (pathO (R : Int) gs data a5 a6) R 0 R)) (leastFrom (holdP a4 skews) 1000000 (linksFrom (pathO (R : Int) gs data a5 a6) R 0 R)) (R : Int) (R : Int) gs data a3 a4 a5 a6) true := by
  rw [e14, e15]
  obtain ⟨K7, hK7⟩ := hj3
  refine ⟨K4 + K7 + 1, fun k hk => ?_⟩
  obtain ⟨k, rfl⟩ : ∃ m, k = m + 1 := ⟨k - 1, by omega⟩
  have e4 : impl_Works.f k (R : Int) gs data a3 a4 a5 a6 (1 + t) skews = _ := hK4 k (by omega)
  have e7 : laws_FnRooms.j3 k skews (holdL (R : Int) a4 a5 a6 gs data skews) le false (R : Int) gs data a3 a4 a5 a6 = _ := hK7 k (by omega)
  simp only [laws_FnRooms.l0, if_true]
  rw [if_neg (by omega), e4]
  simp only [Option.bind_some]
  by_cases c : setupL (1 + t) (R : Int) a3 a5 a6 gs data skews ≥ 0
  ·rw [if_pos c, decide_eq_true c, Bool.true_and, bne_self_eq_false]
   exact e7
  ·rw [if_neg c, decide_eq_false c, Bool.false_and]
   exact e7
 obtain ⟨K8, hK8⟩ := law_l0 hv hw (by omega) (by omega) hsl (1 + t) _ _ le true R 0 1000000 1000000 (by omega) hfin
 obtain ⟨K, hK⟩ : ∃ K, K1 + K2 + K3 + K8 + 2000 ≤ K := ⟨_, Nat.le_refl _⟩
 refine ⟨K + 1, ?_⟩
 have f1 : impl_SetupRoom.f (K + 1) (R : Int) gs data a3 a4 a5 a6 (1 + t) skews = _ := hK1 (K + 1) (by omega)
 have f2 : impl_HoldRoom.f (K + 1) (R : Int) gs data a3 a4 a5 a6 skews = _ := hK2 (K + 1) (by omega)
 have f3 : impl_LeastPeriod.f (K + 1) (R : Int) gs data a3 a4 a5 a6 skews = _ := hK3 (K + 1) (by omega)
 have f8 : laws_FnRooms.l0 K skews (1 + t) _ _ le 1000000 1000000 ((0 : Nat) : Int) (R : Int) gs data a3 a4 a5 a6 = _ := hK8 K (by omega)
 unfold laws_FnRooms.f
 rw [hlong]
 simp only [Option.bind_some, Bool.false_eq_true, if_false]
 rw [hc' _ (by omega)]
 simp only [Option.bind_some]
 rw [hsk' _ (by omega)]
 simp only [Option.bind_some]
 rw [ht]
 simp only [Option.bind_some]
 rw [hper, f1]
 simp only [Option.bind_some]
 rw [f2]
 simp only [Option.bind_some]
 rw [f3]
 simp only [Option.bind_some, if_true]
 rw [decide_eq_false (by omega : ¬ le < 1)]
 simp only [laws_FnRooms.j0, Bool.false_eq_true, if_false]
 exact f8
end Go.Proofs.Ytahjcmmgdcedpaa.Pure
